/- Decoders: what is valid: both sides. Copies. The machine: closing. The machine: settling; frames, tags, lengths. -/
import Derived.Test.YtcmnedgnppnhoaaGreatKFnStopped2
import Derived.Test.YtcmnedgnppnhoaaGreatKFnStopped1
set_option linter.unusedSimpArgs false
set_option linter.unusedVariables false
namespace Go.Proofs.YtcmnedgnppnhoaaGreat.Ax
open Go.RowKit
theorem Aay {w:Int} (h:Dx w=true):0≤w∧w≤5:=by simp[Dx] at h;omega
theorem Ab7 {d:Dcd} (h:A7 d=true):Es d.plan=true:=by simp only[A7,Bool.and_eq_true] at h;exact h.1.1
theorem W8 (d:Dcd) (hp1:List.length (d).stack≤Bg) (hp2:List.length (d).plan.shapes≤Bg):Fun Tryz.prog 21 [.agg (Bt d)] [] (.v (vB (Cj d))) []:=by
 have hN:Bg=274877906944:=rfl
 refine Ar Tryz.func21 Q4 Q4 (w:=let z2:=Hj d&&Hk d;let z3:= !(decide (d.end_.kind=0)&&(decide (d.end_.field=0)&&(decide (d.end_.bits=0)&&(decide (d.end_.len=0)&&(decide (d.end_.text=[])&&(decide (d.end_.code=0)&&decide (d.end_.at_=0)))))));let z4:=vB (J1 d);let z6:=([]:List Blk);let z7:=vB (Cj d);let z8:= !decide (d.mode=1);let z10:= !decide (d.mode=9);let z11:=decide (0<((List.length d.stack:Nat):Int));let z12:=(.v (vB false):S);let z1:=z2=false→z12= .v z7∧z6=[];let z5:=z11=true→z12= .v z7∧z6=[];let z13:=decide (d.mode=1);let z14:=(.v z4:S);let z15:= !(decide (d.field.number=0)&&(decide (d.field.kind=0)&&(decide (d.field.rep=false)&&(decide (d.field.packed=false)&&decide (d.field.msg=0)))));let z16:=vI (Dh d);let z17:=decide (Dh d<1);let z9:=z17=true→z12= .v z7∧z6=[];let z18:=Et d.end_;let z19:=z3=true→z12= .v z7∧z6=[];let z20:=Hm d.end_;let z21:=known (d.plan).shapes d.field;let z22:=Am d.at_ 0 1000000000;let z23:=z10=false;let z24:=Am d.start 0 d.at_;let z25:=z10=true;let z26:=decide (d.mode=9);let z27:=Am d.mode 1 9;let z28:=Dx d.wire;let z29:=(!z20)=true→z12= .v z7∧z6=[];let z30:=(!z18)=true→z12= .v z7∧z6=[];let z31:=Eo d.utf;(.seg [.call [] (.v (vB (A7 d))) []] (.br (.leaf () []) (.seg [.call [] (.v (vB z27)) []] (.br (.leaf () []) (.seg [.call [] (.v (vB z22)) []] (.br (.leaf () []) (.seg [.call [] (.v (vB z24)) []] (.br (.leaf () []) (.seg [.call [] (.v (vB z31)) []] (.br (.leaf () []) (.seg [.call [] (.v (vB z28)) []] (.br (.leaf () []) (.br (.seg [.call [] (.v (vB z21)) []] (.br (.leaf () []) (.br (.seg [.call [] (.v (vB z20)) []] (.br (.leaf () []) (.seg [.call [] (.v (vB z18)) []] (.br (.leaf () []) (.br (.br (.leaf () []) (.br (.br (.leaf () []) (.br (.seg [.br true,.call [] (.v z16) []] (.br (.leaf () []) (.seg [.call [] (.v (vB z2)) []] (.br (.seg [.call [] (.v z4) []] (.leaf () [])) (.leaf () []))))) (.seg [.call [] (.v (vB z2)) []] (.br (.seg [.call [] (.v z4) []] (.leaf () [])) (.leaf () []))))) (.br (.seg [.br true,.call [] (.v z16) []] (.br (.leaf () []) (.seg [.call [] (.v (vB z2)) []] (.br (.seg [.call [] (.v z4) []] (.leaf () [])) (.leaf () []))))) (.seg [.call [] (.v (vB z2)) []] (.br (.seg [.call [] (.v z4) []] (.leaf () [])) (.leaf () [])))))) (.br (.br (.leaf () []) (.br (.seg [.br false,.call [] (.v (vB z2)) []] (.br (.seg [.call [] (.v z4) []] (.leaf () [])) (.leaf () []))) (.seg [.call [] (.v (vB z2)) []] (.br (.seg [.call [] (.v z4) []] (.leaf () [])) (.leaf () []))))) (.br (.seg [.br false,.call [] (.v (vB z2)) []] (.br (.seg [.call [] (.v z4) []] (.leaf () [])) (.leaf () []))) (.seg [.call [] (.v (vB z2)) []] (.br (.seg [.call [] (.v z4) []] (.leaf () [])) (.leaf () [])))))))))) (.br (.br (.leaf () []) (.br (.br (.leaf () []) (.br (.seg [.br true,.call [] (.v z16) []] (.br (.leaf () []) (.seg [.call [] (.v (vB z2)) []] (.br (.seg [.call [] (.v z4) []] (.leaf () [])) (.leaf () []))))) (.seg [.call [] (.v (vB z2)) []] (.br (.seg [.call [] (.v z4) []] (.leaf () [])) (.leaf () []))))) (.br (.seg [.br true,.call [] (.v z16) []] (.br (.leaf () []) (.seg [.call [] (.v (vB z2)) []] (.br (.seg [.call [] (.v z4) []] (.leaf () [])) (.leaf () []))))) (.seg [.call [] (.v (vB z2)) []] (.br (.seg [.call [] (.v z4) []] (.leaf () [])) (.leaf () [])))))) (.br (.br (.leaf () []) (.br (.seg [.br false,.call [] (.v (vB z2)) []] (.br (.seg [.call [] (.v z4) []] (.leaf () [])) (.leaf () []))) (.seg [.call [] (.v (vB z2)) []] (.br (.seg [.call [] (.v z4) []] (.leaf () [])) (.leaf () []))))) (.br (.seg [.br false,.call [] (.v (vB z2)) []] (.br (.seg [.call [] (.v z4) []] (.leaf () [])) (.leaf () []))) (.seg [.call [] (.v (vB z2)) []] (.br (.seg [.call [] (.v z4) []] (.leaf () [])) (.leaf () []))))))))) (.br (.seg [.call [] (.v (vB z20)) []] (.br (.leaf () []) (.seg [.call [] (.v (vB z18)) []] (.br (.leaf () []) (.br (.br (.leaf () []) (.br (.br (.leaf () []) (.br (.seg [.br true,.call [] (.v z16) []] (.br (.leaf () []) (.seg [.call [] (.v (vB z2)) []] (.br (.seg [.call [] (.v z4) []] (.leaf () [])) (.leaf () []))))) (.seg [.call [] (.v (vB z2)) []] (.br (.seg [.call [] (.v z4) []] (.leaf () [])) (.leaf () []))))) (.br (.seg [.br true,.call [] (.v z16) []] (.br (.leaf () []) (.seg [.call [] (.v (vB z2)) []] (.br (.seg [.call [] (.v z4) []] (.leaf () [])) (.leaf () []))))) (.seg [.call [] (.v (vB z2)) []] (.br (.seg [.call [] (.v z4) []] (.leaf () [])) (.leaf () [])))))) (.br (.br (.leaf () []) (.br (.seg [.br false,.call [] (.v (vB z2)) []] (.br (.seg [.call [] (.v z4) []] (.leaf () [])) (.leaf () []))) (.seg [.call [] (.v (vB z2)) []] (.br (.seg [.call [] (.v z4) []] (.leaf () [])) (.leaf () []))))) (.br (.seg [.br false,.call [] (.v (vB z2)) []] (.br (.seg [.call [] (.v z4) []] (.leaf () [])) (.leaf () []))) (.seg [.call [] (.v (vB z2)) []] (.br (.seg [.call [] (.v z4) []] (.leaf () [])) (.leaf () [])))))))))) (.br (.br (.leaf () []) (.br (.br (.leaf () []) (.br (.seg [.br true,.call [] (.v z16) []] (.br (.leaf () []) (.seg [.call [] (.v (vB z2)) []] (.br (.seg [.call [] (.v z4) []] (.leaf () [])) (.leaf () []))))) (.seg [.call [] (.v (vB z2)) []] (.br (.seg [.call [] (.v z4) []] (.leaf () [])) (.leaf () []))))) (.br (.seg [.br true,.call [] (.v z16) []] (.br (.leaf () []) (.seg [.call [] (.v (vB z2)) []] (.br (.seg [.call [] (.v z4) []] (.leaf () [])) (.leaf () []))))) (.seg [.call [] (.v (vB z2)) []] (.br (.seg [.call [] (.v z4) []] (.leaf () [])) (.leaf () [])))))) (.br (.br (.leaf () []) (.br (.seg [.br false,.call [] (.v (vB z2)) []] (.br (.seg [.call [] (.v z4) []] (.leaf () [])) (.leaf () []))) (.seg [.call [] (.v (vB z2)) []] (.br (.seg [.call [] (.v z4) []] (.leaf () [])) (.leaf () []))))) (.br (.seg [.br false,.call [] (.v (vB z2)) []] (.br (.seg [.call [] (.v z4) []] (.leaf () [])) (.leaf () []))) (.seg [.call [] (.v (vB z2)) []] (.br (.seg [.call [] (.v z4) []] (.leaf () [])) (.leaf () []))))))))))))))))))),(Fun Tryz.prog 78 [.agg (Bt d)] [] (.v (vB (A7 d))) [])∧((!(A7 d))=true→z12= .v z7∧z6=[])∧((!(A7 d))=false→(Fun Tryz.prog 79 [vI d.mode,vI 1,vI 9] [] (.v (vB z27)) [])∧((!z27)=true→z12= .v z7∧z6=[])∧((!z27)=false→(Fun Tryz.prog 79 [vI d.at_,vI 0,vI 1000000000] [] (.v (vB z22)) [])∧((!z22)=true→z12= .v z7∧z6=[])∧((!z22)=false→(Fun Tryz.prog 79 [vI d.start,vI 0,vI d.at_] [] (.v (vB z24)) [])∧((!z24)=true→z12= .v z7∧z6=[])∧((!z24)=false→(Fun Tryz.prog 80 [.agg (Hg d.utf)] [] (.v (vB z31)) [])∧((!z31)=true→z12= .v z7∧z6=[])∧((!z31)=false→(Fun Tryz.prog 81 [vI d.wire] [] (.v (vB z28)) [])∧((!z28)=true→z12= .v z7∧z6=[])∧((!z28)=false→(z15=true→(Fun Tryz.prog 82 [.agg (M1 d.plan),.agg (Fm d.field)] [] (.v (vB z21)) [])∧((!z21)=true→z12= .v z7∧z6=[])∧((!z21)=false→(z26=true→(Fun Tryz.prog 83 [.agg (cEv d.end_)] [] (.v (vB z20)) [])∧z29∧((!z20)=false→(Fun Tryz.prog 84 [.agg (cEv d.end_)] [] (.v (vB z18)) [])∧z30∧((!z18)=false→(z10=true→z19∧(z3=false→(z13=true→z5∧(z11=false→(z8=true→z25∧(Fun Tryz.prog 85 [.agg (Bt d)] [] (.v z16) [])∧z9∧(z17=false→(Fun Tryz.prog 86 [.agg (Bt d)] [] (.v (vB z2)) [])∧(z2=true→(Fun Tryz.prog 87 [.agg (Bt d)] [] (.v z4) [])∧z14= .v z7∧z6=[])∧z1))∧(z8=false→(Fun Tryz.prog 86 [.agg (Bt d)] [] (.v (vB z2)) [])∧(z2=true→(Fun Tryz.prog 87 [.agg (Bt d)] [] (.v z4) [])∧z14= .v z7∧z6=[])∧z1)))∧(z13=false→(z8=true→z25∧(Fun Tryz.prog 85 [.agg (Bt d)] [] (.v z16) [])∧z9∧(z17=false→(Fun Tryz.prog 86 [.agg (Bt d)] [] (.v (vB z2)) [])∧(z2=true→(Fun Tryz.prog 87 [.agg (Bt d)] [] (.v z4) [])∧z14= .v z7∧z6=[])∧z1))∧(z8=false→(Fun Tryz.prog 86 [.agg (Bt d)] [] (.v (vB z2)) [])∧(z2=true→(Fun Tryz.prog 87 [.agg (Bt d)] [] (.v z4) [])∧z14= .v z7∧z6=[])∧z1))))∧(z10=false→(z13=true→z5∧(z11=false→(z8=true→z23∧(Fun Tryz.prog 86 [.agg (Bt d)] [] (.v (vB z2)) [])∧(z2=true→(Fun Tryz.prog 87 [.agg (Bt d)] [] (.v z4) [])∧z14= .v z7∧z6=[])∧z1)∧(z8=false→(Fun Tryz.prog 86 [.agg (Bt d)] [] (.v (vB z2)) [])∧(z2=true→(Fun Tryz.prog 87 [.agg (Bt d)] [] (.v z4) [])∧z14= .v z7∧z6=[])∧z1)))∧(z13=false→(z8=true→z23∧(Fun Tryz.prog 86 [.agg (Bt d)] [] (.v (vB z2)) [])∧(z2=true→(Fun Tryz.prog 87 [.agg (Bt d)] [] (.v z4) [])∧z14= .v z7∧z6=[])∧z1)∧(z8=false→(Fun Tryz.prog 86 [.agg (Bt d)] [] (.v (vB z2)) [])∧(z2=true→(Fun Tryz.prog 87 [.agg (Bt d)] [] (.v z4) [])∧z14= .v z7∧z6=[])∧z1))))))∧(z26=false→(z10=true→z19∧(z3=false→(z13=true→z5∧(z11=false→(z8=true→z25∧(Fun Tryz.prog 85 [.agg (Bt d)] [] (.v z16) [])∧z9∧(z17=false→(Fun Tryz.prog 86 [.agg (Bt d)] [] (.v (vB z2)) [])∧(z2=true→(Fun Tryz.prog 87 [.agg (Bt d)] [] (.v z4) [])∧z14= .v z7∧z6=[])∧z1))∧(z8=false→(Fun Tryz.prog 86 [.agg (Bt d)] [] (.v (vB z2)) [])∧(z2=true→(Fun Tryz.prog 87 [.agg (Bt d)] [] (.v z4) [])∧z14= .v z7∧z6=[])∧z1)))∧(z13=false→(z8=true→z25∧(Fun Tryz.prog 85 [.agg (Bt d)] [] (.v z16) [])∧z9∧(z17=false→(Fun Tryz.prog 86 [.agg (Bt d)] [] (.v (vB z2)) [])∧(z2=true→(Fun Tryz.prog 87 [.agg (Bt d)] [] (.v z4) [])∧z14= .v z7∧z6=[])∧z1))∧(z8=false→(Fun Tryz.prog 86 [.agg (Bt d)] [] (.v (vB z2)) [])∧(z2=true→(Fun Tryz.prog 87 [.agg (Bt d)] [] (.v z4) [])∧z14= .v z7∧z6=[])∧z1))))∧(z10=false→(z13=true→z5∧(z11=false→(z8=true→z23∧(Fun Tryz.prog 86 [.agg (Bt d)] [] (.v (vB z2)) [])∧(z2=true→(Fun Tryz.prog 87 [.agg (Bt d)] [] (.v z4) [])∧z14= .v z7∧z6=[])∧z1)∧(z8=false→(Fun Tryz.prog 86 [.agg (Bt d)] [] (.v (vB z2)) [])∧(z2=true→(Fun Tryz.prog 87 [.agg (Bt d)] [] (.v z4) [])∧z14= .v z7∧z6=[])∧z1)))∧(z13=false→(z8=true→z23∧(Fun Tryz.prog 86 [.agg (Bt d)] [] (.v (vB z2)) [])∧(z2=true→(Fun Tryz.prog 87 [.agg (Bt d)] [] (.v z4) [])∧z14= .v z7∧z6=[])∧z1)∧(z8=false→(Fun Tryz.prog 86 [.agg (Bt d)] [] (.v (vB z2)) [])∧(z2=true→(Fun Tryz.prog 87 [.agg (Bt d)] [] (.v z4) [])∧z14= .v z7∧z6=[])∧z1))))))∧(z15=false→(z26=true→(Fun Tryz.prog 83 [.agg (cEv d.end_)] [] (.v (vB z20)) [])∧z29∧((!z20)=false→(Fun Tryz.prog 84 [.agg (cEv d.end_)] [] (.v (vB z18)) [])∧z30∧((!z18)=false→(z10=true→z19∧(z3=false→(z13=true→z5∧(z11=false→(z8=true→z25∧(Fun Tryz.prog 85 [.agg (Bt d)] [] (.v z16) [])∧z9∧(z17=false→(Fun Tryz.prog 86 [.agg (Bt d)] [] (.v (vB z2)) [])∧(z2=true→(Fun Tryz.prog 87 [.agg (Bt d)] [] (.v z4) [])∧z14= .v z7∧z6=[])∧z1))∧(z8=false→(Fun Tryz.prog 86 [.agg (Bt d)] [] (.v (vB z2)) [])∧(z2=true→(Fun Tryz.prog 87 [.agg (Bt d)] [] (.v z4) [])∧z14= .v z7∧z6=[])∧z1)))∧(z13=false→(z8=true→z25∧(Fun Tryz.prog 85 [.agg (Bt d)] [] (.v z16) [])∧z9∧(z17=false→(Fun Tryz.prog 86 [.agg (Bt d)] [] (.v (vB z2)) [])∧(z2=true→(Fun Tryz.prog 87 [.agg (Bt d)] [] (.v z4) [])∧z14= .v z7∧z6=[])∧z1))∧(z8=false→(Fun Tryz.prog 86 [.agg (Bt d)] [] (.v (vB z2)) [])∧(z2=true→(Fun Tryz.prog 87 [.agg (Bt d)] [] (.v z4) [])∧z14= .v z7∧z6=[])∧z1))))∧(z10=false→(z13=true→z5∧(z11=false→(z8=true→z23∧(Fun Tryz.prog 86 [.agg (Bt d)] [] (.v (vB z2)) [])∧(z2=true→(Fun Tryz.prog 87 [.agg (Bt d)] [] (.v z4) [])∧z14= .v z7∧z6=[])∧z1)∧(z8=false→(Fun Tryz.prog 86 [.agg (Bt d)] [] (.v (vB z2)) [])∧(z2=true→(Fun Tryz.prog 87 [.agg (Bt d)] [] (.v z4) [])∧z14= .v z7∧z6=[])∧z1)))∧(z13=false→(z8=true→z23∧(Fun Tryz.prog 86 [.agg (Bt d)] [] (.v (vB z2)) [])∧(z2=true→(Fun Tryz.prog 87 [.agg (Bt d)] [] (.v z4) [])∧z14= .v z7∧z6=[])∧z1)∧(z8=false→(Fun Tryz.prog 86 [.agg (Bt d)] [] (.v (vB z2)) [])∧(z2=true→(Fun Tryz.prog 87 [.agg (Bt d)] [] (.v z4) [])∧z14= .v z7∧z6=[])∧z1))))))∧(z26=false→(z10=true→z19∧(z3=false→(z13=true→z5∧(z11=false→(z8=true→z25∧(Fun Tryz.prog 85 [.agg (Bt d)] [] (.v z16) [])∧z9∧(z17=false→(Fun Tryz.prog 86 [.agg (Bt d)] [] (.v (vB z2)) [])∧(z2=true→(Fun Tryz.prog 87 [.agg (Bt d)] [] (.v z4) [])∧z14= .v z7∧z6=[])∧z1))∧(z8=false→(Fun Tryz.prog 86 [.agg (Bt d)] [] (.v (vB z2)) [])∧(z2=true→(Fun Tryz.prog 87 [.agg (Bt d)] [] (.v z4) [])∧z14= .v z7∧z6=[])∧z1)))∧(z13=false→(z8=true→z25∧(Fun Tryz.prog 85 [.agg (Bt d)] [] (.v z16) [])∧z9∧(z17=false→(Fun Tryz.prog 86 [.agg (Bt d)] [] (.v (vB z2)) [])∧(z2=true→(Fun Tryz.prog 87 [.agg (Bt d)] [] (.v z4) [])∧z14= .v z7∧z6=[])∧z1))∧(z8=false→(Fun Tryz.prog 86 [.agg (Bt d)] [] (.v (vB z2)) [])∧(z2=true→(Fun Tryz.prog 87 [.agg (Bt d)] [] (.v z4) [])∧z14= .v z7∧z6=[])∧z1))))∧(z10=false→(z13=true→z5∧(z11=false→(z8=true→z23∧(Fun Tryz.prog 86 [.agg (Bt d)] [] (.v (vB z2)) [])∧(z2=true→(Fun Tryz.prog 87 [.agg (Bt d)] [] (.v z4) [])∧z14= .v z7∧z6=[])∧z1)∧(z8=false→(Fun Tryz.prog 86 [.agg (Bt d)] [] (.v (vB z2)) [])∧(z2=true→(Fun Tryz.prog 87 [.agg (Bt d)] [] (.v z4) [])∧z14= .v z7∧z6=[])∧z1)))∧(z13=false→(z8=true→z23∧(Fun Tryz.prog 86 [.agg (Bt d)] [] (.v (vB z2)) [])∧(z2=true→(Fun Tryz.prog 87 [.agg (Bt d)] [] (.v z4) [])∧z14= .v z7∧z6=[])∧z1)∧(z8=false→(Fun Tryz.prog 86 [.agg (Bt d)] [] (.v (vB z2)) [])∧(z2=true→(Fun Tryz.prog 87 [.agg (Bt d)] [] (.v z4) [])∧z14= .v z7∧z6=[])∧z1))))))))))))) Q4 ?_
 refine⟨(V5 d Q2 Q2),fun h1=>have q1:=Ap h1;?_,fun h1=>have q1:=Ao h1;?_⟩
 refine⟨(sB ?_),rfl⟩
 rotate_left
 have hpt:=B6 (Ab7 q1)
 refine⟨(B7 _ _ _),fun h2=>have q2:=Ap h2;have p2:=Az q2;?_,fun h2=>have q2:=Ao h2;have p2:=As q2;?_⟩
 refine⟨(sB ?_),rfl⟩
 rotate_left
 refine⟨(B7 _ _ _),fun h3=>have q3:=Ap h3;have p3:=Az q3;?_,fun h3=>have q3:=Ao h3;have p3:=As q3;?_⟩
 refine⟨(sB ?_),rfl⟩
 rotate_left
 refine⟨(B7 _ _ _),fun h4=>have q4:=Ap h4;have p4:=Az q4;?_,fun h4=>have q4:=Ao h4;have p4:=As q4;?_⟩
 refine⟨(sB ?_),rfl⟩
 rotate_left
 refine⟨(Aed d.utf),fun h5=>have q5:=Ap h5;?_,fun h5=>have q5:=Ao h5;have p5:=Ky q5;?_⟩
 refine⟨(sB ?_),rfl⟩
 rotate_left
 refine⟨(Aau _),fun h6=>have q6:=Ap h6;?_,fun h6=>have q6:=Ao h6;?_⟩
 refine⟨(sB ?_),rfl⟩
 rotate_left
 have hwk:=Aay (w:=d.wire) q6
 refine⟨fun h7=>have q7:=Ap h7;have p7:=(Cd dT (Cd dT (Cd dT (Cd dT dF)))).1 q7;?_,fun h7=>have q7:=Ao h7;have p7:=(Cc dT (Cc dT (Cc dT (Cc dT dT)))).1 q7;?_⟩
 refine⟨(Aij d.plan d.field Q2 (Dj hpt.2.1)),fun h8=>have q8:=Ap h8;?_,fun h8=>have q8:=Ao h8;?_⟩
 refine⟨(sB ?_),rfl⟩
 rotate_left
 refine dsp (fun h9 p9=>?_) fun h9 p9=>?_
 refine⟨(Yd d.end_),fun h10=>have q10:=Ap h10;?_,fun h10=>have q10:=Ao h10;?_⟩
 refine⟨(sB ?_),rfl⟩
 rotate_left
 refine⟨(V6 d.end_),fun h11=>have q11:=Ap h11;?_,fun h11=>have q11:=Ao h11;?_⟩
 refine⟨(sB ?_),rfl⟩
 rotate_left
 refine⟨fun h12=>have q12:=Ap h12;have p12:=of_decide_eq_false q12;?_,fun h12=>have q12:=Ao h12;have p12:=of_decide_eq_true q12;?_⟩
 refine⟨fun h13=>have q13:=Ap h13;have p13:=(Cd dT (Cd dT (Cd dT (Cd dT (Cd dT (Cd dT dF)))))).1 q13;?_,fun h13=>have q13:=Ao h13;have p13:=(Cc dT (Cc dT (Cc dT (Cc dT (Cc dT (Cc dT dT)))))).1 q13;?_⟩
 refine⟨(sB ?_),rfl⟩
 rotate_left
 refine dsp (fun h14 p14=>?_) fun h14 p14=>?_
 refine dsp (fun h15 p15=>?_) fun h15 p15=>?_
 refine⟨(sB ?_),rfl⟩
 rotate_left
 refine⟨fun h16=>have q16:=Ap h16;have p16:=of_decide_eq_false q16;?_,fun h16=>have q16:=Ao h16;have p16:=of_decide_eq_true q16;?_⟩
 refine⟨h12,(Dq d Q2),dsp (fun h17 p17=>?_) fun h17 p17=>?_⟩
 refine⟨(sB ?_),rfl⟩
 rotate_left
 refine⟨(Cn d Q2),fun h18=>?_,fun h18=>?_⟩
 refine⟨(Cm d Q2),(sB ?_),rfl⟩
 rotate_left
 refine⟨(sB ?_),rfl⟩
 rotate_left
 refine⟨(Cn d Q2),fun h17=>?_,fun h17=>?_⟩
 refine⟨(Cm d Q2),(sB ?_),rfl⟩
 rotate_left
 refine⟨(sB ?_),rfl⟩
 rotate_left
 refine⟨fun h15=>have q15:=Ap h15;have p15:=of_decide_eq_false q15;?_,fun h15=>have q15:=Ao h15;have p15:=of_decide_eq_true q15;?_⟩
 refine⟨h12,(Dq d Q2),dsp (fun h16 p16=>?_) fun h16 p16=>?_⟩
 refine⟨(sB ?_),rfl⟩
 rotate_left
 refine⟨(Cn d Q2),fun h17=>?_,fun h17=>?_⟩
 refine⟨(Cm d Q2),(sB ?_),rfl⟩
 rotate_left
 refine⟨(sB ?_),rfl⟩
 rotate_left
 refine⟨(Cn d Q2),fun h16=>?_,fun h16=>?_⟩
 refine⟨(Cm d Q2),(sB ?_),rfl⟩
 rotate_left
 refine⟨(sB ?_),rfl⟩
 rotate_left
 refine dsp (fun h13 p13=>?_) fun h13 p13=>?_
 refine dsp (fun h14 p14=>?_) fun h14 p14=>?_
 refine⟨(sB ?_),rfl⟩
 rotate_left
 refine⟨fun h15=>have q15:=Ap h15;have p15:=of_decide_eq_false q15;?_,fun h15=>have q15:=Ao h15;have p15:=of_decide_eq_true q15;?_⟩
 refine⟨h12,(Cn d Q2),fun h16=>?_,fun h16=>?_⟩
 refine⟨(Cm d Q2),(sB ?_),rfl⟩
 rotate_left
 refine⟨(sB ?_),rfl⟩
 rotate_left
 refine⟨(Cn d Q2),fun h16=>?_,fun h16=>?_⟩
 refine⟨(Cm d Q2),(sB ?_),rfl⟩
 rotate_left
 refine⟨(sB ?_),rfl⟩
 rotate_left
 refine⟨fun h14=>have q14:=Ap h14;have p14:=of_decide_eq_false q14;?_,fun h14=>have q14:=Ao h14;have p14:=of_decide_eq_true q14;?_⟩
 refine⟨h12,(Cn d Q2),fun h15=>?_,fun h15=>?_⟩
 refine⟨(Cm d Q2),(sB ?_),rfl⟩
 rotate_left
 refine⟨(sB ?_),rfl⟩
 rotate_left
 refine⟨(Cn d Q2),fun h15=>?_,fun h15=>?_⟩
 refine⟨(Cm d Q2),(sB ?_),rfl⟩
 rotate_left
 refine⟨(sB ?_),rfl⟩
 rotate_left
 refine⟨fun h10=>have q10:=Ap h10;have p10:=of_decide_eq_false q10;?_,fun h10=>have q10:=Ao h10;have p10:=of_decide_eq_true q10;?_⟩
 refine⟨fun h11=>have q11:=Ap h11;have p11:=(Cd dT (Cd dT (Cd dT (Cd dT (Cd dT (Cd dT dF)))))).1 q11;?_,fun h11=>have q11:=Ao h11;have p11:=(Cc dT (Cc dT (Cc dT (Cc dT (Cc dT (Cc dT dT)))))).1 q11;?_⟩
 refine⟨(sB ?_),rfl⟩
 rotate_left
 refine dsp (fun h12 p12=>?_) fun h12 p12=>?_
 refine dsp (fun h13 p13=>?_) fun h13 p13=>?_
 refine⟨(sB ?_),rfl⟩
 rotate_left
 refine⟨fun h14=>have q14:=Ap h14;have p14:=of_decide_eq_false q14;?_,fun h14=>have q14:=Ao h14;have p14:=of_decide_eq_true q14;?_⟩
 refine⟨h10,(Dq d Q2),dsp (fun h15 p15=>?_) fun h15 p15=>?_⟩
 refine⟨(sB ?_),rfl⟩
 rotate_left
 refine⟨(Cn d Q2),fun h16=>?_,fun h16=>?_⟩
 refine⟨(Cm d Q2),(sB ?_),rfl⟩
 rotate_left
 refine⟨(sB ?_),rfl⟩
 rotate_left
 refine⟨(Cn d Q2),fun h15=>?_,fun h15=>?_⟩
 refine⟨(Cm d Q2),(sB ?_),rfl⟩
 rotate_left
 refine⟨(sB ?_),rfl⟩
 rotate_left
 refine⟨fun h13=>have q13:=Ap h13;have p13:=of_decide_eq_false q13;?_,fun h13=>have q13:=Ao h13;have p13:=of_decide_eq_true q13;?_⟩
 refine⟨h10,(Dq d Q2),dsp (fun h14 p14=>?_) fun h14 p14=>?_⟩
 refine⟨(sB ?_),rfl⟩
 rotate_left
 refine⟨(Cn d Q2),fun h15=>?_,fun h15=>?_⟩
 refine⟨(Cm d Q2),(sB ?_),rfl⟩
 rotate_left
 refine⟨(sB ?_),rfl⟩
 rotate_left
 refine⟨(Cn d Q2),fun h14=>?_,fun h14=>?_⟩
 refine⟨(Cm d Q2),(sB ?_),rfl⟩
 rotate_left
 refine⟨(sB ?_),rfl⟩
 rotate_left
 refine dsp (fun h11 p11=>?_) fun h11 p11=>?_
 refine dsp (fun h12 p12=>?_) fun h12 p12=>?_
 refine⟨(sB ?_),rfl⟩
 rotate_left
 refine⟨fun h13=>have q13:=Ap h13;have p13:=of_decide_eq_false q13;?_,fun h13=>have q13:=Ao h13;have p13:=of_decide_eq_true q13;?_⟩
 refine⟨h10,(Cn d Q2),fun h14=>?_,fun h14=>?_⟩
 refine⟨(Cm d Q2),(sB ?_),rfl⟩
 rotate_left
 refine⟨(sB ?_),rfl⟩
 rotate_left
 refine⟨(Cn d Q2),fun h14=>?_,fun h14=>?_⟩
 refine⟨(Cm d Q2),(sB ?_),rfl⟩
 rotate_left
 refine⟨(sB ?_),rfl⟩
 rotate_left
 refine⟨fun h12=>have q12:=Ap h12;have p12:=of_decide_eq_false q12;?_,fun h12=>have q12:=Ao h12;have p12:=of_decide_eq_true q12;?_⟩
 refine⟨h10,(Cn d Q2),fun h13=>?_,fun h13=>?_⟩
 refine⟨(Cm d Q2),(sB ?_),rfl⟩
 rotate_left
 refine⟨(sB ?_),rfl⟩
 rotate_left
 refine⟨(Cn d Q2),fun h13=>?_,fun h13=>?_⟩
 refine⟨(Cm d Q2),(sB ?_),rfl⟩
 rotate_left
 refine⟨(sB ?_),rfl⟩
 rotate_left
 refine dsp (fun h8 p8=>?_) fun h8 p8=>?_
 refine⟨(Yd d.end_),fun h9=>have q9:=Ap h9;?_,fun h9=>have q9:=Ao h9;?_⟩
 refine⟨(sB ?_),rfl⟩
 rotate_left
 refine⟨(V6 d.end_),fun h10=>have q10:=Ap h10;?_,fun h10=>have q10:=Ao h10;?_⟩
 refine⟨(sB ?_),rfl⟩
 rotate_left
 refine⟨fun h11=>have q11:=Ap h11;have p11:=of_decide_eq_false q11;?_,fun h11=>have q11:=Ao h11;have p11:=of_decide_eq_true q11;?_⟩
 refine⟨fun h12=>have q12:=Ap h12;have p12:=(Cd dT (Cd dT (Cd dT (Cd dT (Cd dT (Cd dT dF)))))).1 q12;?_,fun h12=>have q12:=Ao h12;have p12:=(Cc dT (Cc dT (Cc dT (Cc dT (Cc dT (Cc dT dT)))))).1 q12;?_⟩
 refine⟨(sB ?_),rfl⟩
 rotate_left
 refine dsp (fun h13 p13=>?_) fun h13 p13=>?_
 refine dsp (fun h14 p14=>?_) fun h14 p14=>?_
 refine⟨(sB ?_),rfl⟩
 rotate_left
 refine⟨fun h15=>have q15:=Ap h15;have p15:=of_decide_eq_false q15;?_,fun h15=>have q15:=Ao h15;have p15:=of_decide_eq_true q15;?_⟩
 refine⟨h11,(Dq d Q2),dsp (fun h16 p16=>?_) fun h16 p16=>?_⟩
 refine⟨(sB ?_),rfl⟩
 rotate_left
 refine⟨(Cn d Q2),fun h17=>?_,fun h17=>?_⟩
 refine⟨(Cm d Q2),(sB ?_),rfl⟩
 rotate_left
 refine⟨(sB ?_),rfl⟩
 rotate_left
 refine⟨(Cn d Q2),fun h16=>?_,fun h16=>?_⟩
 refine⟨(Cm d Q2),(sB ?_),rfl⟩
 rotate_left
 refine⟨(sB ?_),rfl⟩
 rotate_left
 refine⟨fun h14=>have q14:=Ap h14;have p14:=of_decide_eq_false q14;?_,fun h14=>have q14:=Ao h14;have p14:=of_decide_eq_true q14;?_⟩
 refine⟨h11,(Dq d Q2),dsp (fun h15 p15=>?_) fun h15 p15=>?_⟩
 refine⟨(sB ?_),rfl⟩
 rotate_left
 refine⟨(Cn d Q2),fun h16=>?_,fun h16=>?_⟩
 refine⟨(Cm d Q2),(sB ?_),rfl⟩
 rotate_left
 refine⟨(sB ?_),rfl⟩
 rotate_left
 refine⟨(Cn d Q2),fun h15=>?_,fun h15=>?_⟩
 refine⟨(Cm d Q2),(sB ?_),rfl⟩
 rotate_left
 refine⟨(sB ?_),rfl⟩
 rotate_left
 refine dsp (fun h12 p12=>?_) fun h12 p12=>?_
 refine dsp (fun h13 p13=>?_) fun h13 p13=>?_
 refine⟨(sB ?_),rfl⟩
 rotate_left
 refine⟨fun h14=>have q14:=Ap h14;have p14:=of_decide_eq_false q14;?_,fun h14=>have q14:=Ao h14;have p14:=of_decide_eq_true q14;?_⟩
 refine⟨h11,(Cn d Q2),fun h15=>?_,fun h15=>?_⟩
 refine⟨(Cm d Q2),(sB ?_),rfl⟩
 rotate_left
 refine⟨(sB ?_),rfl⟩
 rotate_left
 refine⟨(Cn d Q2),fun h15=>?_,fun h15=>?_⟩
 refine⟨(Cm d Q2),(sB ?_),rfl⟩
 rotate_left
 refine⟨(sB ?_),rfl⟩
 rotate_left
 refine⟨fun h13=>have q13:=Ap h13;have p13:=of_decide_eq_false q13;?_,fun h13=>have q13:=Ao h13;have p13:=of_decide_eq_true q13;?_⟩
 refine⟨h11,(Cn d Q2),fun h14=>?_,fun h14=>?_⟩
 refine⟨(Cm d Q2),(sB ?_),rfl⟩
 rotate_left
 refine⟨(sB ?_),rfl⟩
 rotate_left
 refine⟨(Cn d Q2),fun h14=>?_,fun h14=>?_⟩
 refine⟨(Cm d Q2),(sB ?_),rfl⟩
 rotate_left
 refine⟨(sB ?_),rfl⟩
 rotate_left
 refine⟨fun h9=>have q9:=Ap h9;have p9:=of_decide_eq_false q9;?_,fun h9=>have q9:=Ao h9;have p9:=of_decide_eq_true q9;?_⟩
 refine⟨fun h10=>have q10:=Ap h10;have p10:=(Cd dT (Cd dT (Cd dT (Cd dT (Cd dT (Cd dT dF)))))).1 q10;?_,fun h10=>have q10:=Ao h10;have p10:=(Cc dT (Cc dT (Cc dT (Cc dT (Cc dT (Cc dT dT)))))).1 q10;?_⟩
 refine⟨(sB ?_),rfl⟩
 rotate_left
 refine dsp (fun h11 p11=>?_) fun h11 p11=>?_
 refine dsp (fun h12 p12=>?_) fun h12 p12=>?_
 refine⟨(sB ?_),rfl⟩
 rotate_left
 refine⟨fun h13=>have q13:=Ap h13;have p13:=of_decide_eq_false q13;?_,fun h13=>have q13:=Ao h13;have p13:=of_decide_eq_true q13;?_⟩
 refine⟨h9,(Dq d Q2),dsp (fun h14 p14=>?_) fun h14 p14=>?_⟩
 refine⟨(sB ?_),rfl⟩
 rotate_left
 refine⟨(Cn d Q2),fun h15=>?_,fun h15=>?_⟩
 refine⟨(Cm d Q2),(sB ?_),rfl⟩
 rotate_left
 refine⟨(sB ?_),rfl⟩
 rotate_left
 refine⟨(Cn d Q2),fun h14=>?_,fun h14=>?_⟩
 refine⟨(Cm d Q2),(sB ?_),rfl⟩
 rotate_left
 refine⟨(sB ?_),rfl⟩
 rotate_left
 refine⟨fun h12=>have q12:=Ap h12;have p12:=of_decide_eq_false q12;?_,fun h12=>have q12:=Ao h12;have p12:=of_decide_eq_true q12;?_⟩
 refine⟨h9,(Dq d Q2),dsp (fun h13 p13=>?_) fun h13 p13=>?_⟩
 refine⟨(sB ?_),rfl⟩
 rotate_left
 refine⟨(Cn d Q2),fun h14=>?_,fun h14=>?_⟩
 refine⟨(Cm d Q2),(sB ?_),rfl⟩
 rotate_left
 refine⟨(sB ?_),rfl⟩
 rotate_left
 refine⟨(Cn d Q2),fun h13=>?_,fun h13=>?_⟩
 refine⟨(Cm d Q2),(sB ?_),rfl⟩
 rotate_left
 refine⟨(sB ?_),rfl⟩
 rotate_left
 refine dsp (fun h10 p10=>?_) fun h10 p10=>?_
 refine dsp (fun h11 p11=>?_) fun h11 p11=>?_
 refine⟨(sB ?_),rfl⟩
 rotate_left
 refine⟨fun h12=>have q12:=Ap h12;have p12:=of_decide_eq_false q12;?_,fun h12=>have q12:=Ao h12;have p12:=of_decide_eq_true q12;?_⟩
 refine⟨h9,(Cn d Q2),fun h13=>?_,fun h13=>?_⟩
 refine⟨(Cm d Q2),(sB ?_),rfl⟩
 rotate_left
 refine⟨(sB ?_),rfl⟩
 rotate_left
 refine⟨(Cn d Q2),fun h13=>?_,fun h13=>?_⟩
 refine⟨(Cm d Q2),(sB ?_),rfl⟩
 rotate_left
 refine⟨(sB ?_),rfl⟩
 rotate_left
 refine⟨fun h11=>have q11:=Ap h11;have p11:=of_decide_eq_false q11;?_,fun h11=>have q11:=Ao h11;have p11:=of_decide_eq_true q11;?_⟩
 refine⟨h9,(Cn d Q2),fun h12=>?_,fun h12=>?_⟩
 refine⟨(Cm d Q2),(sB ?_),rfl⟩
 rotate_left
 refine⟨(sB ?_),rfl⟩
 rotate_left
 refine⟨(Cn d Q2),fun h12=>?_,fun h12=>?_⟩
 refine⟨(Cm d Q2),(sB ?_),rfl⟩
 rotate_left
 refine⟨(sB ?_),rfl⟩
 rotate_left
 all_goals first|(simp_all[Cj,Xj,J6,Ct,Rz];done)|(grind[Cj,Xj,J6,Ct,Rz])
structure Ci where
 v:Bool
def Kc (d:Dcd):Fam:=⟨Ci,fun j1000003=>[(1,.v (vP 0)),(76,.v (vB j1000003.v))],fun _=>[.cells (Bt d)],fun j1000003=>j1000003.v= !Xj d,fun _=>0⟩
structure Fx where
 u_:Nat
def Su (d:Dcd):Fam:=⟨Fx,fun j0=>[(1,.v (vP 0))],fun _=>[.cells (Bt d)],fun _=>Hj d=true,fun _=>0⟩
structure Bq where
 wires:Bool
def Kd (d:Dcd):Fam:=⟨Bq,fun j1000013=>[(1,.v (vP 0)),(3,.v (vB j1000013.wires))],fun _=>[.cells (Bt d)],fun j1000013=>j1000013.wires=St d,fun _=>0⟩
structure Da where
 v:Bool
def F9 (d:Dcd) (j1000013:Bq):Fam:=⟨Da,fun j1000014=>[(1,.v (vP 0)),(140,.v (vB j1000014.v))],fun _=>[.cells (Bt d)],fun j1000014=>j1000014.v=(j1000013.wires||(Am d.mode 3 5&&(!decide (d.field=fld0)&& !Cy d.field d.wire))),fun _=>0⟩
theorem Aik (d:Dcd) (hp1:List.length (d).stack≤Bg) (hp2:List.length (d).plan.shapes≤Bg):Fun Tryz.prog 20 [.agg (Bt d)] [] (.v (vB (Cj d))) []:=by
 have hN:Bg=274877906944:=rfl
 refine Ar Tryz.func20 Q4 Q4 (w:=let z4:=([]:List Blk);let z5:=(.v (vB false):S);let z6:=vB (Cj d);let z7:List Blk:=[.cells (Bt d)];let z8:=Am d.want 1 (Dh d);let z9:=vB (Zk d);let z10:=decide ((d).field=fld0)||known (d).plan.shapes (d).field;let z11:=Kd d;let z12:=Qk d.field;let z13:= !(decide (d.field.number=0)&&(decide (d.field.kind=0)&&(decide (d.field.rep=false)&&(decide (d.field.packed=false)&&decide (d.field.msg=0)))));let z14:= !decide (d.mode=8);let z15:=vI (Ay d.wire);let z16:=Kc d;let z3:=(!decide (d.mode=9))=true→z16.Has [(1,.v (vP 0)),(76,.v (vB (!(decide (d.end_.kind=0)&&(decide (d.end_.field=0)&&(decide (d.end_.bits=0)&&(decide (d.end_.len=0)&&(decide (d.end_.text=[])&&(decide (d.end_.code=0)&&decide (d.end_.at_=0))))))))))] z7;let z18:=z12=false→z5= .v z6∧z4=[];let z19:=vB (decide (Ay d.wire=0));let z20:=(!decide (d.mode=9))=false→z16.Has [(1,.v (vP 0)),(76,.v (vB false))] z7;let z22:=Am d.at_ 0 1000000000;let z23:=decide (d.mode=5);let z2:=z23=false→z11.Has [(1,.v (vP 0)),(3,.v (vB false))] z7;let z24:=(!z8)=true→z5= .v z6∧z4=[];let z25:=Am d.start 0 d.at_;let z26:= !decide (d.mode=6);let z27:=(.v z9:S);let z28:=decide (d.mode=4);let z29:=vI (Dh d);let z30:=Am d.mode 1 9;let z31:=Am d.mode 3 5;let z32:List V:=[vI d.want,vI 1,vI (Dh d)];let z33:=Fm d.field;let z34:=Et d.end_;let z35:=Cy d.field d.wire;let z36:=Hm d.end_;let z37:=Su d;let z17:=(!z8)=false→z37.Has [(1,.v (vP 0))] z7;let z38:= !decide (d.wire=2);let z21:=z38=true→z11.Has [(1,.v (vP 0)),(3,.v (vB true))] z7;let z39:=Es d.plan;let z40:=Dx d.wire;let z41:=decide (d.mode=6);let z42:=decide (d.mode=7);let z43:=Eo d.utf;(.seg [.call [] (.v (vB z39)) []] (.br (.leaf () []) (.seg [.call [] (.v (vB z30)) []] (.br (.leaf () []) (.seg [.call [] (.v (vB z22)) []] (.br (.leaf () []) (.seg [.call [] (.v (vB z25)) []] (.br (.leaf () []) (.seg [.call [] (.v (vB z43)) []] (.br (.leaf () []) (.seg [.call [] (.v (vB z40)) []] (.br (.leaf () []) (.seg [.call [] (.v (vB z10)) []] (.br (.leaf () []) (.seg [.call [] (.v (vB (Nk d))) []] (.br (.leaf () []) (.join 1000003 z16 (.br (.seg [.call [] (.v (vB z36)) []] (.br (.seg [.at 0,.keep [1,76],.sel [0]] (.next)) (.seg [.call [] (.v (vB z34)) []] (.br (.seg [.at 0,.keep [1,76],.sel [0]] (.next)) (.br (.seg [.at 0,.keep [1,76],.sel [0]] (.next)) (.seg [.at 0,.keep [1,76],.sel [0]] (.next))))))) (.br (.seg [.at 0,.keep [1,76],.sel [0]] (.next)) (.seg [.at 0,.keep [1,76],.sel [0]] (.next)))) fun j1000003=> .br (.leaf () []) (.join 0 z37 (.br (.seg [.br true,.ord (os 6 [3,4]) [],.call [] (.v z29) [],.call [] (.v (vB z8)) []] (.br (.leaf () []) (.seg [.at 0,.keep [1],.sel [0]] (.next)))) (.br (.seg [.br true,.ord (os 6 [3,4]) [],.call [] (.v z29) [],.call [] (.v (vB z8)) []] (.br (.leaf () []) (.seg [.at 0,.keep [1],.sel [0]] (.next)))) (.br (.seg [.ord (os 6 [3,4]) [],.call [] (.v z29) [],.call [] (.v (vB z8)) []] (.br (.leaf () []) (.seg [.at 0,.keep [1],.sel [0]] (.next)))) (.br (.leaf () []) (.seg [.at 0,.keep [1],.sel [0]] (.next)))))) fun j0=> .join 1000013 z11 (.br (.br (.seg [.at 0,.keep [1,3],.sel [0]] (.next)) (.br (.br (.seg [.at 0,.keep [1,3],.sel [0]] (.next)) (.br (.seg [.call [] (.v z15) [],.at 0,.keep [1,3],.sel [0]] (.next)) (.seg [.at 0,.keep [1,3],.sel [0]] (.next)))) (.br (.seg [.call [] (.v z15) [],.at 0,.keep [1,3],.sel [0]] (.next)) (.seg [.at 0,.keep [1,3],.sel [0]] (.next))))) (.br (.br (.seg [.at 0,.keep [1,3],.sel [0]] (.next)) (.br (.seg [.call [] (.v z15) [],.at 0,.keep [1,3],.sel [0]] (.next)) (.seg [.at 0,.keep [1,3],.sel [0]] (.next)))) (.br (.seg [.call [] (.v z15) [],.at 0,.keep [1,3],.sel [0]] (.next)) (.seg [.at 0,.keep [1,3],.sel [0]] (.next))))) fun j1000013=> .join 1000014 (F9 d j1000013) (.br (.seg [.at 0,.keep [1,140],.sel [0]] (.next)) (.seg [.call [] (.v (vB z31)) []] (.br (.br (.seg [.call [] (.v (vB z35)) [],.at 0,.keep [1,140],.sel [0]] (.next)) (.seg [.at 0,.keep [1,140],.sel [0]] (.next))) (.seg [.at 0,.keep [1,140],.sel [0]] (.next))))) fun j1000014=> .br (.leaf () []) (.br (.br (.br (.seg [.call [] (.v z9) []] (.leaf () [])) (.seg [.call [] (.v (vB z12)) []] (.br (.seg [.call [] (.v z9) []] (.leaf () [])) (.leaf () [])))) (.br (.seg [.call [] (.v z9) []] (.leaf () [])) (.seg [.call [] (.v (vB z12)) []] (.br (.seg [.call [] (.v z9) []] (.leaf () [])) (.leaf () []))))) (.br (.br (.seg [.call [] (.v z9) []] (.leaf () [])) (.seg [.call [] (.v (vB z12)) []] (.br (.seg [.call [] (.v z9) []] (.leaf () [])) (.leaf () [])))) (.br (.br (.seg [.call [] (.v z9) []] (.leaf () [])) (.seg [.call [] (.v (vB z12)) []] (.br (.seg [.call [] (.v z9) []] (.leaf () [])) (.leaf () [])))) (.leaf () []))))))))))))))))))))),(Fun Tryz.prog 34 [.agg (M1 d.plan)] [] (.v (vB z39)) [])∧((!z39)=true→z5= .v z6∧z4=[])∧((!z39)=false→(Fun Tryz.prog 59 [vI d.mode,vI 1,vI 9] [] (.v (vB z30)) [])∧((!z30)=true→z5= .v z6∧z4=[])∧((!z30)=false→(Fun Tryz.prog 59 [vI d.at_,vI 0,vI 1000000000] [] (.v (vB z22)) [])∧((!z22)=true→z5= .v z6∧z4=[])∧((!z22)=false→(Fun Tryz.prog 59 [vI d.start,vI 0,vI d.at_] [] (.v (vB z25)) [])∧((!z25)=true→z5= .v z6∧z4=[])∧((!z25)=false→(Fun Tryz.prog 68 [.agg (Hg d.utf)] [] (.v (vB z43)) [])∧((!z43)=true→z5= .v z6∧z4=[])∧((!z43)=false→(Fun Tryz.prog 69 [vI d.wire] [] (.v (vB z40)) [])∧((!z40)=true→z5= .v z6∧z4=[])∧((!z40)=false→(Fun Tryz.prog 70 [.agg (Bt d)] [] (.v (vB z10)) [])∧((!z10)=true→z5= .v z6∧z4=[])∧((!z10)=false→(Fun Tryz.prog 71 [.agg (Bt d)] [] (.v (vB (Nk d))) [])∧((!(Nk d))=true→z5= .v z6∧z4=[])∧((!(Nk d))=false→(((decide (d.mode=9))=true→(Fun Tryz.prog 22 [.agg (cEv d.end_)] [] (.v (vB z36)) [])∧((!z36)=true→z16.Has [(1,.v (vP 0)),(76,.v (vB true))] z7)∧((!z36)=false→(Fun Tryz.prog 72 [.agg (cEv d.end_)] [] (.v (vB z34)) [])∧((!z34)=true→z16.Has [(1,.v (vP 0)),(76,.v (vB true))] z7)∧((!z34)=false→z3∧z20)))∧((decide (d.mode=9))=false→z3∧z20))∧∀j1000003,z16.inv j1000003→((j1000003.v=true→z5= .v z6∧z4=[])∧(j1000003.v=false→((z41=true→(z41=true)∧(Fun Tryz.prog 73 [.agg (Bt d)] [] (.v z29) [])∧(Fun Tryz.prog 59 z32 [] (.v (vB z8)) [])∧z24∧z17)∧(z41=false→(z42=true→(z42=true)∧(Fun Tryz.prog 73 [.agg (Bt d)] [] (.v z29) [])∧(Fun Tryz.prog 59 z32 [] (.v (vB z8)) [])∧z24∧z17)∧(z42=false→((decide (d.mode=8))=true→(Fun Tryz.prog 73 [.agg (Bt d)] [] (.v z29) [])∧(Fun Tryz.prog 59 z32 [] (.v (vB z8)) [])∧z24∧z17)∧((decide (d.mode=8))=false→((!decide (d.want=0))=true→z5= .v z6∧z4=[])∧((!decide (d.want=0))=false→z37.Has [(1,.v (vP 0))] z7)))))∧∀j0,z37.inv j0→((((decide (d.mode=3))=true→((!decide (d.wire=0))=true→z11.Has [(1,.v (vP 0)),(3,.v (vB true))] z7)∧((!decide (d.wire=0))=false→(z28=true→z21∧(z38=false→(z23=true→(Fun Tryz.prog 74 [vI d.wire] [] (.v z15) [])∧z11.Has [(1,.v (vP 0)),(3,.v z19)] z7)∧z2))∧(z28=false→(z23=true→(Fun Tryz.prog 74 [vI d.wire] [] (.v z15) [])∧z11.Has [(1,.v (vP 0)),(3,.v z19)] z7)∧z2)))∧((decide (d.mode=3))=false→(z28=true→z21∧(z38=false→(z23=true→(Fun Tryz.prog 74 [vI d.wire] [] (.v z15) [])∧z11.Has [(1,.v (vP 0)),(3,.v z19)] z7)∧z2))∧(z28=false→(z23=true→(Fun Tryz.prog 74 [vI d.wire] [] (.v z15) [])∧z11.Has [(1,.v (vP 0)),(3,.v z19)] z7)∧z2)))∧∀j1000013,z11.inv j1000013→(let z1:=F9 d j1000013;((j1000013.wires=true→z1.Has [(1,.v (vP 0)),(140,.v (vB true))] z7)∧(j1000013.wires=false→(Fun Tryz.prog 59 [vI d.mode,vI 3,vI 5] [] (.v (vB z31)) [])∧(z31=true→(z13=true→(Fun Tryz.prog 75 [.agg z33,vI d.wire] [] (.v (vB z35)) [])∧z1.Has [(1,.v (vP 0)),(140,.v (vB (!z35)))] z7)∧(z13=false→z1.Has [(1,.v (vP 0)),(140,.v (vB false))] z7))∧(z31=false→z1.Has [(1,.v (vP 0)),(140,.v (vB false))] z7)))∧∀j1000014,z1.inv j1000014→((j1000014.v=true→z5= .v z6∧z4=[])∧(j1000014.v=false→((decide (d.field.kind=6))=true→(z26=true→(z14=true→(Fun Tryz.prog 77 [.agg (Bt d)] [] (.v z9) [])∧z27= .v z6∧z4=[])∧(z14=false→(Fun Tryz.prog 76 [.agg z33] [] (.v (vB z12)) [])∧(z12=true→(Fun Tryz.prog 77 [.agg (Bt d)] [] (.v z9) [])∧z27= .v z6∧z4=[])∧z18))∧(z26=false→(z14=true→(Fun Tryz.prog 77 [.agg (Bt d)] [] (.v z9) [])∧z27= .v z6∧z4=[])∧(z14=false→(Fun Tryz.prog 76 [.agg z33] [] (.v (vB z12)) [])∧(z12=true→(Fun Tryz.prog 77 [.agg (Bt d)] [] (.v z9) [])∧z27= .v z6∧z4=[])∧z18)))∧((decide (d.field.kind=6))=false→(z26=true→(z14=true→(Fun Tryz.prog 77 [.agg (Bt d)] [] (.v z9) [])∧z27= .v z6∧z4=[])∧(z14=false→(Fun Tryz.prog 76 [.agg z33] [] (.v (vB z12)) [])∧(z12=true→(Fun Tryz.prog 77 [.agg (Bt d)] [] (.v z9) [])∧z27= .v z6∧z4=[])∧z18))∧(z26=false→((decide (d.field.kind=7))=true→(z14=true→(Fun Tryz.prog 77 [.agg (Bt d)] [] (.v z9) [])∧z27= .v z6∧z4=[])∧(z14=false→(Fun Tryz.prog 76 [.agg z33] [] (.v (vB z12)) [])∧(z12=true→(Fun Tryz.prog 77 [.agg (Bt d)] [] (.v z9) [])∧z27= .v z6∧z4=[])∧z18))∧((decide (d.field.kind=7))=false→z5= .v z6∧z4=[]))))))))))))))))))) Q4 ?_
 refine⟨(Tf d.plan),fun h1=>have q1:=Ap h1;?_,fun h1=>have q1:=Ao h1;have p1:=B6 q1;?_⟩
 refine⟨(sB ?_),rfl⟩
 rotate_left
 have hpt:=B6 q1
 refine⟨(Ba _ _ _),fun h2=>have q2:=Ap h2;have p2:=Az q2;?_,fun h2=>have q2:=Ao h2;have p2:=As q2;?_⟩
 refine⟨(sB ?_),rfl⟩
 rotate_left
 refine⟨(Ba _ _ _),fun h3=>have q3:=Ap h3;have p3:=Az q3;?_,fun h3=>have q3:=Ao h3;have p3:=As q3;?_⟩
 refine⟨(sB ?_),rfl⟩
 rotate_left
 refine⟨(Ba _ _ _),fun h4=>have q4:=Ap h4;have p4:=Az q4;?_,fun h4=>have q4:=Ao h4;have p4:=As q4;?_⟩
 refine⟨(sB ?_),rfl⟩
 rotate_left
 refine⟨(Aee d.utf),fun h5=>have q5:=Ap h5;?_,fun h5=>have q5:=Ao h5;have p5:=Ky q5;?_⟩
 refine⟨(sB ?_),rfl⟩
 rotate_left
 refine⟨(Aav _),fun h6=>have q6:=Ap h6;?_,fun h6=>have q6:=Ao h6;?_⟩
 refine⟨(sB ?_),rfl⟩
 rotate_left
 have hwk:=Aay (w:=d.wire) q6
 refine⟨(Ab6 d Q2 (Dj hpt.2.1)),fun h7=>have q7:=Ap h7;have p7:=(orF dF Iff.rfl).1 q7;?_,fun h7=>have q7:=Ao h7;have p7:=(orT dT Iff.rfl).1 q7;?_⟩
 refine⟨(sB ?_),rfl⟩
 rotate_left
 refine⟨(Agf d Q2 Q2),fun h8=>have q8:=Ap h8;?_,fun h8=>have q8:=Ao h8;?_⟩
 refine⟨(sB ?_),rfl⟩
 rotate_left
 refine⟨?_,fun (j1000003:Ci) hq_j1000003=>?_⟩
 refine dsp (fun h10 p10=>?_) fun h10 p10=>?_
 refine⟨(Aej d.end_),fun h11=>have q11:=Ap h11;?_,fun h11=>have q11:=Ao h11;?_⟩
 exact Bk (j:=(⟨true⟩:Ci)) rfl rfl Q35
 refine⟨(Ab5 d.end_),fun h12=>have q12:=Ap h12;?_,fun h12=>have q12:=Ao h12;?_⟩
 exact Bk (j:=(⟨true⟩:Ci)) rfl rfl Q35
 refine⟨fun h13=>have q13:=Ap h13;have p13:=of_decide_eq_false q13;?_,fun h13=>have q13:=Ao h13;have p13:=of_decide_eq_true q13;?_⟩
 exact Bk (j:=(⟨!(decide (d.end_.kind=0)&&(decide (d.end_.field=0)&&(decide (d.end_.bits=0)&&(decide (d.end_.len=0)&&(decide (d.end_.text=[])&&(decide (d.end_.code=0)&&decide (d.end_.at_=0)))))))⟩:Ci)) rfl rfl Q35
 exact Bk (j:=(⟨false⟩:Ci)) rfl rfl Q35
 refine⟨fun h11=>have q11:=Ap h11;have p11:=of_decide_eq_false q11;?_,fun h11=>have q11:=Ao h11;have p11:=of_decide_eq_true q11;?_⟩
 exact Bk (j:=(⟨!(decide (d.end_.kind=0)&&(decide (d.end_.field=0)&&(decide (d.end_.bits=0)&&(decide (d.end_.len=0)&&(decide (d.end_.text=[])&&(decide (d.end_.code=0)&&decide (d.end_.at_=0)))))))⟩:Ci)) rfl rfl Q35
 exact Bk (j:=(⟨false⟩:Ci)) rfl rfl Q35
 have hi_j1000003:j1000003.v= !Xj d:=hq_j1000003
 refine⟨fun h10=>?_,fun h10=>?_⟩
 refine⟨(sB ?_),rfl⟩
 rotate_left
 refine⟨?_,fun (j0:Fx) hq_j0=>?_⟩
 refine dsp (fun h12 p12=>?_) fun h12 p12=>?_
 refine⟨h12,(Mx d Q2),(Ba _ _ _),fun h13=>have q13:=Ap h13;have p13:=Az q13;?_,fun h13=>have q13:=Ao h13;have p13:=As q13;?_⟩
 refine⟨(sB ?_),rfl⟩
 rotate_left
 exact Bk (j:=(⟨0⟩:Fx)) rfl rfl Q55
 refine dsp (fun h13 p13=>?_) fun h13 p13=>?_
 refine⟨h13,(Mx d Q2),(Ba _ _ _),fun h14=>have q14:=Ap h14;have p14:=Az q14;?_,fun h14=>have q14:=Ao h14;have p14:=As q14;?_⟩
 refine⟨(sB ?_),rfl⟩
 rotate_left
 exact Bk (j:=(⟨0⟩:Fx)) rfl rfl Q55
 refine dsp (fun h14 p14=>?_) fun h14 p14=>?_
 refine⟨(Mx d Q2),(Ba _ _ _),fun h15=>have q15:=Ap h15;have p15:=Az q15;?_,fun h15=>have q15:=Ao h15;have p15:=As q15;?_⟩
 refine⟨(sB ?_),rfl⟩
 rotate_left
 exact Bk (j:=(⟨0⟩:Fx)) rfl rfl Q55
 refine⟨fun h15=>have q15:=Ap h15;have p15:=of_decide_eq_false q15;?_,fun h15=>have q15:=Ao h15;have p15:=of_decide_eq_true q15;?_⟩
 refine⟨(sB ?_),rfl⟩
 rotate_left
 exact Bk (j:=(⟨0⟩:Fx)) rfl rfl Q55
 have hi_j0:Hj d=true:=hq_j0
 refine⟨?_,fun (j1000013:Bq) hq_j1000013=>?_⟩
 refine dsp (fun h13 p13=>?_) fun h13 p13=>?_
 refine⟨fun h14=>have q14:=Ap h14;have p14:=of_decide_eq_false q14;?_,fun h14=>have q14:=Ao h14;have p14:=of_decide_eq_true q14;?_⟩
 exact Bk (j:=(⟨true⟩:Bq)) rfl rfl Q23
 refine dsp (fun h15 p15=>?_) fun h15 p15=>?_
 refine⟨fun h16=>have q16:=Ap h16;have p16:=of_decide_eq_false q16;?_,fun h16=>have q16:=Ao h16;have p16:=of_decide_eq_true q16;?_⟩
 exact Bk (j:=(⟨true⟩:Bq)) rfl rfl Q23
 refine dsp (fun h17 p17=>?_) fun h17 p17=>?_
 exact⟨(Dk _),Bk (j:=(⟨decide (Ay d.wire=0)⟩:Bq)) rfl rfl Q23⟩
 exact Bk (j:=(⟨false⟩:Bq)) rfl rfl Q23
 refine dsp (fun h16 p16=>?_) fun h16 p16=>?_
 exact⟨(Dk _),Bk (j:=(⟨decide (Ay d.wire=0)⟩:Bq)) rfl rfl Q23⟩
 exact Bk (j:=(⟨false⟩:Bq)) rfl rfl Q23
 refine dsp (fun h14 p14=>?_) fun h14 p14=>?_
 refine⟨fun h15=>have q15:=Ap h15;have p15:=of_decide_eq_false q15;?_,fun h15=>have q15:=Ao h15;have p15:=of_decide_eq_true q15;?_⟩
 exact Bk (j:=(⟨true⟩:Bq)) rfl rfl Q23
 refine dsp (fun h16 p16=>?_) fun h16 p16=>?_
 exact⟨(Dk _),Bk (j:=(⟨decide (Ay d.wire=0)⟩:Bq)) rfl rfl Q23⟩
 exact Bk (j:=(⟨false⟩:Bq)) rfl rfl Q23
 refine dsp (fun h15 p15=>?_) fun h15 p15=>?_
 exact⟨(Dk _),Bk (j:=(⟨decide (Ay d.wire=0)⟩:Bq)) rfl rfl Q23⟩
 exact Bk (j:=(⟨false⟩:Bq)) rfl rfl Q23
 have hi_j1000013:j1000013.wires=St d:=hq_j1000013
 refine⟨?_,fun (j1000014:Da) hq_j1000014=>?_⟩
 refine⟨fun h14=>?_,fun h14=>?_⟩
 exact Bk (j:=(⟨true⟩:Da)) rfl rfl Q51
 refine⟨(Ba _ _ _),fun h15=>have p15:=As h15;?_,fun h15=>have p15:=Az h15;?_⟩
 refine⟨fun h16=>have q16:=Ap h16;have p16:=(Cd dT (Cd dT (Cd dT (Cd dT dF)))).1 q16;?_,fun h16=>have q16:=Ao h16;have p16:=(Cc dT (Cc dT (Cc dT (Cc dT dT)))).1 q16;?_⟩
 exact⟨(Yc d.field _ Q2),Bk (j:=(⟨!(Cy d.field d.wire)⟩:Da)) rfl rfl Q51⟩
 exact Bk (j:=(⟨false⟩:Da)) rfl rfl Q51
 exact Bk (j:=(⟨false⟩:Da)) rfl rfl Q51
 have hi_j1000014:j1000014.v=(j1000013.wires||(Am d.mode 3 5&&(!decide (d.field=fld0)&& !Cy d.field d.wire))):=hq_j1000014
 refine⟨fun h14=>?_,fun h14=>?_⟩
 refine⟨(sB ?_),rfl⟩
 rotate_left
 refine dsp (fun h15 p15=>?_) fun h15 p15=>?_
 refine⟨fun h16=>have q16:=Ap h16;have p16:=of_decide_eq_false q16;?_,fun h16=>have q16:=Ao h16;have p16:=of_decide_eq_true q16;?_⟩
 refine⟨fun h17=>have q17:=Ap h17;have p17:=of_decide_eq_false q17;?_,fun h17=>have q17:=Ao h17;have p17:=of_decide_eq_true q17;?_⟩
 refine⟨(Nm d Q2),(sB ?_),rfl⟩
 rotate_left
 refine⟨(Ui d.field),fun h18=>?_,fun h18=>?_⟩
 refine⟨(Nm d Q2),(sB ?_),rfl⟩
 rotate_left
 refine⟨(sB ?_),rfl⟩
 rotate_left
 refine⟨fun h17=>have q17:=Ap h17;have p17:=of_decide_eq_false q17;?_,fun h17=>have q17:=Ao h17;have p17:=of_decide_eq_true q17;?_⟩
 refine⟨(Nm d Q2),(sB ?_),rfl⟩
 rotate_left
 refine⟨(Ui d.field),fun h18=>?_,fun h18=>?_⟩
 refine⟨(Nm d Q2),(sB ?_),rfl⟩
 rotate_left
 refine⟨(sB ?_),rfl⟩
 rotate_left
 refine⟨fun h16=>have q16:=Ap h16;have p16:=of_decide_eq_false q16;?_,fun h16=>have q16:=Ao h16;have p16:=of_decide_eq_true q16;?_⟩
 refine⟨fun h17=>have q17:=Ap h17;have p17:=of_decide_eq_false q17;?_,fun h17=>have q17:=Ao h17;have p17:=of_decide_eq_true q17;?_⟩
 refine⟨(Nm d Q2),(sB ?_),rfl⟩
 rotate_left
 refine⟨(Ui d.field),fun h18=>?_,fun h18=>?_⟩
 refine⟨(Nm d Q2),(sB ?_),rfl⟩
 rotate_left
 refine⟨(sB ?_),rfl⟩
 rotate_left
 refine dsp (fun h17 p17=>?_) fun h17 p17=>?_
 refine⟨fun h18=>have q18:=Ap h18;have p18:=of_decide_eq_false q18;?_,fun h18=>have q18:=Ao h18;have p18:=of_decide_eq_true q18;?_⟩
 refine⟨(Nm d Q2),(sB ?_),rfl⟩
 rotate_left
 refine⟨(Ui d.field),fun h19=>?_,fun h19=>?_⟩
 refine⟨(Nm d Q2),(sB ?_),rfl⟩
 rotate_left
 refine⟨(sB ?_),rfl⟩
 rotate_left
 refine⟨(sB ?_),rfl⟩
 rotate_left
 all_goals rw[←Ad4];first|(simp_all[X6,Xj,Hj,St,Ct,Rz];done)|(grind[X6,Xj,Hj,St,Ct,Rz,Fq])
theorem W9 (l:List Lev) (hp1:List.length l≤Bg):Fun Tryz.prog 118 [.c (.seq .lev l)] [] (.v (vO 0)) [.lst .lev l]:=by
 refine⟨Ls Tryz.func118 Q4 Q4,?_⟩
 have key:Sm Tryz.prog 8 0 (Af6 Tryz.f118 1) [(2,.v (.c .nil)),(0,.v (.c (.seq .lev l)))] [] .ret [(2,.v (.c (.own 0)))] [.lst .lev l]:=by
  refine Sm.nilTest' (s:=0) (t3:=3) (t4:=4) (t:= .lev) (l:=l) rfl rfl rfl rfl rfl rfl rfl Tryz.underlying38 Q4 rfl rfl rfl fun p hp=>?_
  cases p with
  |true=>
   have hl:=hp rfl
   subst hl
   exact .inr ⟨by decide,Gq (ds:=[.br true,.at 0,.mkS 2 .lev,.keep [2],.sel [0]]) (ob:=[true=true]) Q4 ⟨rfl,trivial⟩⟩
  |false=>
   exact .inl ⟨[(0,.v (.c (.seq .lev l)))],[],Gq (ds:=[.br false,.at 0,.keep [0],.sel []]) (ob:=[false=false]) Q4 ⟨rfl,trivial⟩,
    (Gq (tm':=[(2,.v (.c (.own 0)))]) (H':=[.lst .lev ([]++l)]) (ds:=[.ty .lev,.ty .lev,.at 0,.keep [2],.sel [1]]) (ob:=[List.length ([]:List Lev)+List.length l≤Bg]) (by kernel_rfl) ⟨by simpa using hp1,trivial⟩).to (by rfl) (by rfl)⟩
 exact Vt Tryz.func118 (res:= .v (.c (.own 0))) (L':=[.lst .lev l]) (ds:=[.jump 1 .ret [(2,.v (.c (.own 0)))] [.lst .lev l]]) (σ:=[0]) (ob:=[Sm Tryz.prog 8 0 (Af6 Tryz.f118 1) [(2,.v (.c .nil)),(0,.v (.c (.seq .lev l)))] [] .ret [(2,.v (.c (.own 0)))] [.lst .lev l]]) Q4 ⟨key,trivial⟩
theorem Agg (l:List Fld) (hp1:List.length l≤Bg):Fun Tryz.prog 204 [.c (.seq .fld l)] [] (.v (vO 0)) [.lst .fld l]:=by
 refine⟨Ls Tryz.func204 Q4 Q4,?_⟩
 have key:Sm Tryz.prog 8 0 (Af6 Tryz.f204 1) [(2,.v (.c .nil)),(0,.v (.c (.seq .fld l)))] [] .ret [(2,.v (.c (.own 0)))] [.lst .fld l]:=by
  refine Sm.nilTest' (s:=0) (t3:=3) (t4:=4) (t:= .fld) (l:=l) rfl rfl rfl rfl rfl rfl rfl Tryz.underlying139 Q4 rfl rfl rfl fun p hp=>?_
  cases p with
  |true=>
   have hl:=hp rfl
   subst hl
   exact .inr ⟨by decide,Gq (ds:=[.br true,.at 0,.mkS 2 .fld,.keep [2],.sel [0]]) (ob:=[true=true]) Q4 ⟨rfl,trivial⟩⟩
  |false=>
   exact .inl ⟨[(0,.v (.c (.seq .fld l)))],[],Gq (ds:=[.br false,.at 0,.keep [0],.sel []]) (ob:=[false=false]) Q4 ⟨rfl,trivial⟩,
    (Gq (tm':=[(2,.v (.c (.own 0)))]) (H':=[.lst .fld ([]++l)]) (ds:=[.ty .fld,.ty .fld,.at 0,.keep [2],.sel [1]]) (ob:=[List.length ([]:List Fld)+List.length l≤Bg]) (by kernel_rfl) ⟨by simpa using hp1,trivial⟩).to (by rfl) (by rfl)⟩
 exact Vt Tryz.func204 (res:= .v (.c (.own 0))) (L':=[.lst .fld l]) (ds:=[.jump 1 .ret [(2,.v (.c (.own 0)))] [.lst .fld l]]) (σ:=[0]) (ob:=[Sm Tryz.prog 8 0 (Af6 Tryz.f204 1) [(2,.v (.c .nil)),(0,.v (.c (.seq .fld l)))] [] .ret [(2,.v (.c (.own 0)))] [.lst .fld l]]) Q4 ⟨key,trivial⟩
structure Ke where
 sh:List Shp
 v:Nat
def Kf (s:List Shp):Fam:=⟨Ke,fun q1=>[(2,.v (vP 0)),(3,.v (vP 1)),(8,.v (.c (.seq .shp s))),(9,.v (vI ((List.length s:Nat):Int))),(10,.v (vI ((q1.v:Nat):Int)))],fun q1=>[.cells [.nil],.cells [.own 2],.tree q1.sh],fun q1=>q1.v≤List.length s∧q1.sh=List.take q1.v s,fun q1=>List.length s-q1.v⟩
theorem Aek (s:List Shp) (hp1:List.length s≤1048576) (hp2: ∀e∈s,List.length e.fields≤1048576):Fun Tryz.prog 171 [.agg [.seq .shp s]] [] (.v (.agg [.own 0])) [.tree s]:=by
 have hN:Bg=274877906944:=rfl
 refine Ar Tryz.func171 Q4 Q4 (w:=let z2:=((List.length s:Nat):Int);let z3:=Kf s;(.seg [.at 0,.mkT 2 0,.keep [2,3,8,9,10],.sel [1,2,3]] (.loop z3 fun q1=> .br (.intro (fun (x1:Shp)=>s[q1.v]? =some x1) fun x1=> .seg [.el .shp x1,.ord (os 12 [6,8,9,11]) [2],.call [] (.v (vO 0)) [.lst .fld x1.fields],.tyT,.tyT,.as 25 (.v (vI (((q1.v:Nat):Int)+1))),.at 0,.keep [2,3,8,9,10],.sel [0,1,6]] (.next)) (.leaf () [2])),z3.Has [(2,.v (vP 0)),(3,.v (vP 1)),(8,.v (.c (.seq .shp s))),(9,.v (vI z2)),(10,.v (vI 0))] [.cells [.nil],.cells [.own 2],.tree ([]:List Shp)]∧∀q1,z3.inv q1→(let z1:=((q1.v:Nat):Int);((decide (z1<z2))=true→(∃(x1:Shp),s[q1.v]? =some x1)∧∀(x1:Shp),(s[q1.v]? =some x1)→((s[q1.v]? =some x1)∧((0:Int)≤z1)∧(Fun Tryz.prog 204 [.c (.seq .fld x1.fields)] [] (.v (vO 0)) [.lst .fld x1.fields])∧(List.length q1.sh+List.length [(⟨x1.id,x1.fields⟩:Shp)]≤Bg)∧((.v (vI (IntKind.i64.wrap (z1+1))):S)= .v (vI (z1+1)))∧z3.Nxt q1 [(2,.v (vP 0)),(3,.v (vP 1)),(8,.v (.c (.seq .shp s))),(9,.v (vI z2)),(10,.v (vI (z1+1)))] [.cells [.nil],.cells [.own 2],.tree (q1.sh++[(⟨x1.id,x1.fields⟩:Shp)])]))∧((decide (z1<z2))=false→(.v (.agg [.own 0]):S)= .v (.agg [.own 0])∧([.tree q1.sh]:List Blk)=[.tree s])))) Q4 ?_
 refine⟨Bk (j:=(⟨([]:List Shp),0⟩:Ke)) Q10 rfl (by dsimp only[Kf];exact⟨by omega,by simp⟩),fun (q1:Ke) hq_q1=>?_⟩
 have hi_q1:q1.v≤List.length s∧q1.sh=List.take q1.v s:=hq_q1
 obtain ⟨v1,v2⟩:=hi_q1
 have hsl:=congrArg List.length v2
 rw[List.length_take] at hsl
 refine dsp (fun h1 p1=>?_) fun h1 p1=>?_
 refine⟨(Bm (l:=s) (i:=q1.v) Q2),fun x1 hx1=>?_⟩
 have hfx:=hp2 x1 (List.mem_of_getElem? hx1)
 exact⟨hx1,Q2,(Agg x1.fields Q2),Q6,(Ae Q2 Q2),Bd (j:=(⟨q1.sh++[(⟨x1.id,x1.fields⟩:Shp)],q1.v+1⟩:Ke)) Q10 rfl (by dsimp only[Kf];exact⟨by omega,by rw[v2,List.take_succ_eq_append_getElem (by omega)];simp[(List.getElem?_eq_some_iff.1 hx1).2]⟩) (by dsimp only[Kf];omega)⟩
 refine⟨rfl,(Ah (congrArg Blk.tree ?_) rfl)⟩
 rotate_left
 all_goals first|(rfl)|((rw[v2,List.take_of_length_le (by omega)];done))
theorem Um (p:Pln) (hp1:List.length (p).shapes≤1048576) (hp2: ∀e∈(p).shapes,List.length e.fields≤1048576):Fun Tryz.prog 117 [.agg (M1 p)] [] (.v (.agg (Af8 0 p))) [.tree p.shapes]:=by
 have hN:Bg=274877906944:=rfl
 refine Ar Tryz.func117 Q4 Q4 (w:=(.seg [.call [] (.v (.agg [.own 0])) [.tree p.shapes]] (.leaf () [2]),(Fun Tryz.prog 171 [.agg [.seq .shp p.shapes]] [] (.v (.agg [.own 0])) [.tree p.shapes])∧(.v (.agg (Af8 0 p)):S)= .v (.agg (Af8 0 p))∧([.tree p.shapes]:List Blk)=[.tree p.shapes])) Q4 ?_
 exact⟨(Aek p.shapes Q2 (hp2)),rfl,rfl⟩
theorem Un (d:Dcd) (hp1:List.length (d).plan.shapes≤1048576) (hp2: ∀e∈(d).plan.shapes,List.length e.fields≤1048576) (hp3:List.length (d).stack≤1048576):Fun Tryz.prog 54 [.agg (Bt d)] [] (.v (.agg (Ad 0 1 d))) [.tree d.plan.shapes,.lst .lev d.stack]:=by
 have hN:Bg=274877906944:=rfl
 refine Ar Tryz.func54 Q4 Q4 (w:=let zi:Int→C:= .int .i64;let z1:List C:=[.nil,zi 0,zi 0,zi 0,zi 0,.nil,.int .u64 0,zi 0,zi 0,zi 0,zi 0,zi 0,.bool false,.bool false,zi 0,zi 0,zi 0,zi 0,zi 0,zi 0,zi 0,zi 0,.int .u64 0,zi 0,.str [],zi 0,zi 0];let z2:List Blk:=[.cells (Ad 1 2 d),.tree d.plan.shapes,.lst .lev d.stack,.cells z1];let z3:=([(1,.v (vP 0)),(2,.v (vP 3))]:List (Nat×S))=[(1,.v (vP 0)),(2,.v (vP 3))];let z4:List Blk:=[.lst .lev d.stack];let z5:=Af8 0 d.plan;(.seg [.tree (.first 0 (.first 3 (.two 1 (.two 2 (.one 4 (.first 6 (.one 5 (.one 7 (.first 8 (.one 9 (.done))))))) 4 (.one 2 (.first 6 (.one 5 (.one 7 (.first 8 (.one 9 (.done)))))))) 4 (.one 1 (.one 2 (.first 6 (.one 5 (.one 7 (.first 8 (.one 9 (.done))))))))))) 9 [0],.call [] (.v (.agg z5)) [.tree d.plan.shapes],.call [] (.v (vO 0)) z4,.at 0,.keep [1,2],.sel [0,2,3,1],.call [] (.v (.agg z5)) [.tree d.plan.shapes],.call [] (.v (vO 0)) z4,.at 0,.keep [1,2],.sel [0,2,3,1],.call [] (.v (.agg z5)) [.tree d.plan.shapes],.call [] (.v (vO 0)) z4,.at 0,.keep [1,2],.sel [0,2,3,1]] (.leaf () [1,2]),(Fun Tryz.prog 117 [.agg (M1 d.plan)] [] (.v (.agg z5)) [.tree d.plan.shapes])∧(Fun Tryz.prog 118 [.c (.seq .lev d.stack)] [] (.v (vO 0)) z4)∧(Fun Tryz.prog 117 [.agg (M1 d.plan)] [] (.v (.agg z5)) [.tree d.plan.shapes])∧(Fun Tryz.prog 118 [.c (.seq .lev d.stack)] [] (.v (vO 0)) z4)∧((z2:List Blk)=z2)∧z3∧(Fun Tryz.prog 117 [.agg (M1 d.plan)] [] (.v (.agg z5)) [.tree d.plan.shapes])∧(Fun Tryz.prog 118 [.c (.seq .lev d.stack)] [] (.v (vO 0)) z4)∧((z2:List Blk)=z2)∧z3∧(.v (.agg (Ad 0 1 d)):S)= .v (.agg (Ad 0 1 d))∧([.tree d.plan.shapes,.lst .lev d.stack]:List Blk)=[.tree d.plan.shapes,.lst .lev d.stack])) Q4 ?_
 exact⟨(Um d.plan Q2 (hp2)),(W9 d.stack Q2),(Um d.plan Q2 (hp2)),(W9 d.stack Q2),rfl,rfl,(Um d.plan Q2 (hp2)),(W9 d.stack Q2),rfl,rfl,rfl,rfl⟩
structure Kg where
 sh:List Shp
 i:Nat
def Kh (s:List Shp):Fam:=⟨Kg,fun q1=>[(1,.v (vP 0)),(2,.v (vP 1)),(3,.v (vP 2)),(4,.v (vI ((q1.i:Nat):Int)))],fun q1=>[.cells [.seq .shp s],.cells [.nil],.cells [.own 3],.tree q1.sh],fun q1=>q1.i≤List.length s∧q1.sh=List.take q1.i s,fun q1=>List.length s-q1.i⟩
theorem Ye (s:List Shp) (hp1:List.length s≤1048576) (hp2: ∀e∈s,List.length e.fields≤1048576):Fun Tryz.prog 98 [.agg [.seq .shp s]] [] (.v (.agg [.own 0])) [.tree s]:=by
 have hN:Bg=274877906944:=rfl
 refine Ar Tryz.func98 Q4 Q4 (w:=let z4:=Kh s;(.seg [.at 0,.mkT 2 0,.keep [1,2,3,4],.sel [0,1,2,3]] (.loop z4 fun q1=> .br (.intro (fun (x1:Shp)=>s[q1.i]? =some x1) fun x1=> .seg [.ord [(0,true),(1,true),(2,true),(3,true),(4,true),(5,true),(6,true),(7,true),(9,true),(10,true),(11,true),(12,true),(13,true),(14,true),(8,false),(15,false),(16,true),(17,false),(18,false),(19,true),(20,false)] [3],.el .shp x1,.el .shp x1,.ty .fld,.ty .fld,.tyT,.tyT,.as 12 (.v (vI (((q1.i:Nat):Int)+1))),.at 0,.keep [1,2,3,4],.sel [0,1,2,7]] (.next)) (.leaf () [3])),z4.Has [(1,.v (vP 0)),(2,.v (vP 1)),(3,.v (vP 2)),(4,.v (vI 0))] [.cells [.seq .shp s],.cells [.nil],.cells [.own 3],.tree ([]:List Shp)]∧∀q1,z4.inv q1→(let z3:=((q1.i:Nat):Int);((decide (z3<((List.length s:Nat):Int)))=true→(∃(x1:Shp),s[q1.i]? =some x1)∧∀(x1:Shp),(s[q1.i]? =some x1)→(let z1:=s[q1.i]? =some x1;let z2:=(⟨x1.id,([]:List Fld)++x1.fields⟩:Shp);z1∧((0:Int)≤z3)∧z1∧((0:Int)≤z3)∧z1∧((0:Int)≤z3)∧z1∧((0:Int)≤z3)∧(List.length ([]:List Fld)+List.length x1.fields≤Bg)∧(List.length q1.sh+List.length [z2]≤Bg)∧((.v (vI (IntKind.i64.wrap (z3+1))):S)= .v (vI (z3+1)))∧z4.Nxt q1 [(1,.v (vP 0)),(2,.v (vP 1)),(3,.v (vP 2)),(4,.v (vI (z3+1)))] [.cells [.seq .shp s],.cells [.nil],.cells [.own 3],.tree (q1.sh++[z2])]))∧((decide (z3<((List.length s:Nat):Int)))=false→(.v (.agg [.own 0]):S)= .v (.agg [.own 0])∧([.tree q1.sh]:List Blk)=[.tree s])))) Q4 ?_
 refine⟨Bk (j:=(⟨([]:List Shp),0⟩:Kg)) Q10 rfl (by dsimp only[Kh];exact⟨by omega,by simp⟩),fun (q1:Kg) hq_q1=>?_⟩
 have hi_q1:q1.i≤List.length s∧q1.sh=List.take q1.i s:=hq_q1
 obtain ⟨v1,v2⟩:=hi_q1
 have hsl:=congrArg List.length v2
 rw[List.length_take] at hsl
 refine dsp (fun h1 p1=>?_) fun h1 p1=>?_
 refine⟨(Bm (l:=s) (i:=q1.i) Q2),fun x1 hx1=>?_⟩
 have hfx:=hp2 x1 (List.mem_of_getElem? hx1)
 exact⟨hx1,Q2,hx1,Q2,hx1,Q2,hx1,Q2,Q6,Q47,(Ae Q2 Q2),Bd (j:=(⟨q1.sh++[(⟨x1.id,([]:List Fld)++x1.fields⟩:Shp)],q1.i+1⟩:Kg)) Q10 rfl (by dsimp only[Kh];exact⟨by omega,by rw[v2,List.take_succ_eq_append_getElem (by omega)];simp[(List.getElem?_eq_some_iff.1 hx1).2]⟩) (by dsimp only[Kh];omega)⟩
 refine⟨rfl,(Ah (congrArg Blk.tree ?_) rfl)⟩
 rotate_left
 all_goals first|(rfl)|((rw[v2,List.take_of_length_le (by omega)];done))
theorem Nn (d:Dcd) (hp1:List.length (d).plan.shapes≤1048576) (hp2: ∀e∈(d).plan.shapes,List.length e.fields≤1048576) (hp3:List.length (d).stack≤1048576):Fun Tryz.prog 58 [.agg (Bt d)] [] (.v (.agg (Ad 0 1 d))) [.tree d.plan.shapes,.lst .lev d.stack]:=by
 have hN:Bg=274877906944:=rfl
 refine Ar Tryz.func58 Q4 Q4 (w:=(.seg [.call [] (.v (.agg [.own 0])) [.tree d.plan.shapes],.ty .lev,.ty .lev] (.leaf () [2,4]),(Fun Tryz.prog 98 [.agg [.seq .shp d.plan.shapes]] [] (.v (.agg [.own 0])) [.tree d.plan.shapes])∧(List.length ([]:List Lev)+List.length d.stack≤Bg)∧(.v (.agg (Ad 0 1 d)):S)= .v (.agg (Ad 0 1 d))∧([.tree d.plan.shapes,.lst .lev (([]:List Lev)++d.stack)]:List Blk)=[.tree d.plan.shapes,.lst .lev d.stack])) Q4 ?_
 refine⟨(Ye d.plan.shapes Q2 (hp2)),Q6,?_⟩
 have hm1:d=(⟨d.plan,d.mode,([]:List Lev)++d.stack,d.scan,d.start,d.at_,d.field,d.wire,d.want,d.utf,d.end_⟩:Dcd):=by rfl
 exact⟨Q5,Q5⟩
theorem Agh (p:Pln) (hp1:List.length (p).shapes≤Bg):Fun Tryz.prog 35 [.agg (M1 p)] [] (.tup [.agg (Ad 0 1 (Fg p)),vB (Es p)]) [.tree (Fg p).plan.shapes,.lst .lev (Fg p).stack]:=by
 have hN:Bg=274877906944:=rfl
 refine Ar Tryz.func35 Q4 Q4 (w:=let zi:Int→C:= .int .i64;let z1:List C:=[.own 1,.int .u64 0,zi 0,zi 0,zi 0,zi 0,zi 0,.bool false,.bool false,zi 0,zi 0,zi 0,zi 0,zi 0,zi 0,zi 0,zi 0,.int .u64 0,zi 0,.str [],zi 0,zi 0];let z2:=Es p;let z3:=Fg p;(.seg [.call [] (.v (vB z2)) []] (.br (.seg [.at 0,.mkT 1 0,.mk 1 5 .lev] (.leaf () [2,3])) (.seg [.call [] (.v (.agg [.own 0])) [.tree p.shapes],.at 0,.mk 1 5 .lev] (.leaf () [2,3]))),(Fun Tryz.prog 34 [.agg (M1 p)] [] (.v (vB z2)) [])∧((!z2)=true→(.tup [.agg (.own 0::zi 0::zi 0::zi 0::zi 0::z1),vB false]:S)= .tup [.agg (Ad 0 1 z3),vB z2]∧([.tree ([]:List Shp),.lst .lev ([]:List Lev)]:List Blk)=[.tree z3.plan.shapes,.lst .lev z3.stack])∧((!z2)=false→(Fun Tryz.prog 98 [.agg [.seq .shp p.shapes]] [] (.v (.agg [.own 0])) [.tree p.shapes])∧(.tup [.agg (.own 0::zi p.root::zi p.deep::zi p.most::zi 1::z1),vB true]:S)= .tup [.agg (Ad 0 1 z3),vB z2]∧([.tree p.shapes,.lst .lev ([]:List Lev)]:List Blk)=[.tree z3.plan.shapes,.lst .lev z3.stack]))) Q4 ?_
 refine⟨(Tf p),fun h1=>have q1:=Ap h1;?_,fun h1=>have q1:=Ao h1;have p1:=B6 q1;?_⟩
 refine have hm1:Fg p=(⟨(⟨([]:List Shp),0,0,0⟩:Pln),0,([]:List Lev),(⟨0,0⟩:Scn),0,0,(⟨0,0,false,false,0⟩:Fld),0,0,(⟨0,0,0⟩:Utf),(⟨0,0,0,0,[],0,0⟩:Ev)⟩:Dcd):=?_;?_
 rotate_left
 refine⟨(congrArg S.tup (Ah (congrArg V.agg (Ah rfl (Ah (congrArg (C.int .i64) ?_) (Ah (congrArg (C.int .i64) ?_) (Ah (congrArg (C.int .i64) ?_) (Ah (congrArg (C.int .i64) ?_) (Ah rfl (Ah (congrArg (C.int .u64) ?_) (Ah (congrArg (C.int .i64) ?_) (Ah (congrArg (C.int .i64) ?_) (Ah (congrArg (C.int .i64) ?_) (Ah (congrArg (C.int .i64) ?_) (Ah (congrArg (C.int .i64) ?_) (Ah (congrArg C.bool ?_) (Ah (congrArg C.bool ?_) (Ah (congrArg (C.int .i64) ?_) (Ah (congrArg (C.int .i64) ?_) (Ah (congrArg (C.int .i64) ?_) (Ah (congrArg (C.int .i64) ?_) (Ah (congrArg (C.int .i64) ?_) (Ah (congrArg (C.int .i64) ?_) (Ah (congrArg (C.int .i64) ?_) (Ah (congrArg (C.int .i64) ?_) (Ah (congrArg (C.int .u64) ?_) (Ah (congrArg (C.int .i64) ?_) (Ah (congrArg C.str ?_) (Ah (congrArg (C.int .i64) ?_) (Ah (congrArg (C.int .i64) ?_) rfl)))))))))))))))))))))))))))) (Ah (congrArg V.c (congrArg C.bool ?_)) rfl))),Q5⟩
 rotate_left 26
 have hpt:=B6 q1
 refine⟨(Ye p.shapes Q2 (D7 hpt.2.1)),?_⟩
 refine have hm1:Fg p=(⟨p,1,([]:List Lev),(⟨0,0⟩:Scn),0,0,(⟨0,0,false,false,0⟩:Fld),0,0,(⟨0,0,0⟩:Utf),(⟨0,0,0,0,[],0,0⟩:Ev)⟩:Dcd):=?_;?_
 rotate_left
 refine⟨(congrArg S.tup (Ah (congrArg V.agg (Ah rfl (Ah (congrArg (C.int .i64) ?_) (Ah (congrArg (C.int .i64) ?_) (Ah (congrArg (C.int .i64) ?_) (Ah (congrArg (C.int .i64) ?_) (Ah rfl (Ah (congrArg (C.int .u64) ?_) (Ah (congrArg (C.int .i64) ?_) (Ah (congrArg (C.int .i64) ?_) (Ah (congrArg (C.int .i64) ?_) (Ah (congrArg (C.int .i64) ?_) (Ah (congrArg (C.int .i64) ?_) (Ah (congrArg C.bool ?_) (Ah (congrArg C.bool ?_) (Ah (congrArg (C.int .i64) ?_) (Ah (congrArg (C.int .i64) ?_) (Ah (congrArg (C.int .i64) ?_) (Ah (congrArg (C.int .i64) ?_) (Ah (congrArg (C.int .i64) ?_) (Ah (congrArg (C.int .i64) ?_) (Ah (congrArg (C.int .i64) ?_) (Ah (congrArg (C.int .i64) ?_) (Ah (congrArg (C.int .u64) ?_) (Ah (congrArg (C.int .i64) ?_) (Ah (congrArg C.str ?_) (Ah (congrArg (C.int .i64) ?_) (Ah (congrArg (C.int .i64) ?_) rfl)))))))))))))))))))))))))))) (Ah (congrArg V.c (congrArg C.bool ?_)) rfl))),Q5⟩
 rotate_left 26
 all_goals first|(simp_all[Fg,utf0];done)|(grind[Fg,utf0])
theorem E1 (m:Mac) (e:Ev) (hp1:List.length (m).out≤200000000):Fun Tryz.prog 93 [vP 0,.agg (cEv e)] [.cells (Ab 1 2 3 m),.tree m.d.plan.shapes,.lst .lev m.d.stack,.lst .ev m.out] (.tup []) [.cells (Ab 1 2 4 m),.tree (m).d.plan.shapes,.lst .lev (m).d.stack,.dead,.lst .ev ((m).out++[e])]:=by
 have hN:Bg=274877906944:=rfl
 refine Ar Tryz.func93 Q4 Q4 (w:=(.seg [.ord (os 11 [6,7,10]) [3],.ty .ev,.ty .ev] (.leaf () [0,1,2,3,6]),(List.length m.out+List.length [e]≤Bg)∧(.tup []:S)= .tup []∧([.cells (Ab 1 2 4 m),.tree m.d.plan.shapes,.lst .lev m.d.stack,.dead,.lst .ev (m.out++[e])]:List Blk)=[.cells (Ab 1 2 4 m),.tree (m).d.plan.shapes,.lst .lev (m).d.stack,.dead,.lst .ev ((m).out++[e])])) Q4 ?_
 exact⟨Q6,rfl,(Ah rfl (Ah (congrArg Blk.tree (by rfl)) (Ah (congrArg (Blk.lst .lev) (by rfl)) (Ah rfl (Ah (congrArg (Blk.lst .ev) (by rfl)) rfl)))))⟩
theorem B4 (m:Mac) (c:Int) (a:Int) (hp1:List.length (m).out≤200000000):Fun Tryz.prog 94 [vP 0,vI c,vI a] [.cells (Ab 1 2 3 m),.tree m.d.plan.shapes,.lst .lev m.d.stack,.lst .ev m.out] (.tup []) [.cells (Ab 1 2 4 (A0 m c a)),.tree (A0 m c a).d.plan.shapes,.lst .lev (A0 m c a).d.stack,.dead,.lst .ev (A0 m c a).out]:=by
 have hN:Bg=274877906944:=rfl
 refine Ar Tryz.func94 Q4 Q4 (w:=let zi:Int→C:= .int .i64;let z3:=A3 c a;let z1:List C:=[.own 1,zi m.d.plan.root,zi m.d.plan.deep,zi m.d.plan.most,zi 9,.own 2,.int .u64 0,zi 0,zi m.d.start,zi m.d.at_,zi m.d.field.number,zi m.d.field.kind,.bool m.d.field.rep,.bool m.d.field.packed,zi m.d.field.msg,zi m.d.wire,zi 0,zi m.d.utf.want,zi m.d.utf.low,zi m.d.utf.high,zi z3.kind,zi z3.field,.int .u64 z3.bits,zi z3.len,.str z3.text,zi z3.code,zi z3.at_,.own 4];let z2:List Blk:=[.cells z1,.tree m.d.plan.shapes,.lst .lev m.d.stack,.dead,.lst .ev (m.out++[z3])];let z4:=A0 m c a;(.seg [.call [] (.v (.agg (cEv z3))) [],.call [0,1,2,3] (.tup []) z2] (.leaf () [0,1,2,3,4]),(Fun Tryz.prog 152 [vI c,vI a] [] (.v (.agg (cEv z3))) [])∧(Fun Tryz.prog 93 [vP 0,.agg (cEv z3)] [.cells [.own 1,zi m.d.plan.root,zi m.d.plan.deep,zi m.d.plan.most,zi 9,.own 2,.int .u64 0,zi 0,zi m.d.start,zi m.d.at_,zi m.d.field.number,zi m.d.field.kind,.bool m.d.field.rep,.bool m.d.field.packed,zi m.d.field.msg,zi m.d.wire,zi 0,zi m.d.utf.want,zi m.d.utf.low,zi m.d.utf.high,zi z3.kind,zi z3.field,.int .u64 z3.bits,zi z3.len,.str z3.text,zi z3.code,zi z3.at_,.own 3],.tree m.d.plan.shapes,.lst .lev m.d.stack,.lst .ev m.out] (.tup []) z2)∧(.tup []:S)= .tup []∧(z2:List Blk)=[.cells (Ab 1 2 4 z4),.tree z4.d.plan.shapes,.lst .lev z4.d.stack,.dead,.lst .ev z4.out])) Q4 ?_
 refine⟨(Aeb _ _),(E1 (⟨(⟨m.d.plan,9,m.d.stack,(⟨0,0⟩:Scn),m.d.start,m.d.at_,m.d.field,m.d.wire,0,m.d.utf,(A3 c a)⟩:Dcd),m.out⟩:Mac) (A3 c a) Q7),?_⟩
 refine have hm1:A0 m c a=(⟨(⟨m.d.plan,9,m.d.stack,(⟨0,0⟩:Scn),m.d.start,m.d.at_,m.d.field,m.d.wire,0,m.d.utf,(A3 c a)⟩:Dcd),m.out++[(A3 c a)]⟩:Mac):=?_;?_
 rotate_left
 exact⟨rfl,Q5⟩
 all_goals first|(rfl)|(simp_all[A0,A1])
theorem Aim (m:Mac) (hp1:List.length (m).out≤200000000) (hp2:List.length (m).d.stack≤Bg):Fun Tryz.prog 173 [vP 0] [.cells (Ab 1 2 3 m),.tree m.d.plan.shapes,.lst .lev m.d.stack,.lst .ev m.out] (.v (vB (A2 m).isSome)) [.cells (Ab 1 4 5 ((A2 m).getD m)),.tree ((A2 m).getD m).d.plan.shapes,.dead,.dead,.lst .lev ((A2 m).getD m).d.stack,.lst .ev ((A2 m).getD m).out]:=by
 have hN:Bg=274877906944:=rfl
 refine Ar Tryz.func173 Q4 Q4 (w:=let zi:Int→C:= .int .i64;let z4:List C:=[zi 0,.int .u64 0,zi 0,.str [],zi 0,zi 0];let z7:List C:=[zi m.d.end_.kind,zi m.d.end_.field,.int .u64 m.d.end_.bits,zi m.d.end_.len,.str m.d.end_.text,zi m.d.end_.code,zi m.d.end_.at_,.own 5];let z3:List C:= .own 1::zi m.d.plan.root::zi m.d.plan.deep::zi m.d.plan.most::zi 1:: .own 4:: .int .u64 m.d.scan.bits::zi m.d.scan.have_::zi m.d.start::zi m.d.at_::zi m.d.field.number::zi m.d.field.kind:: .bool m.d.field.rep:: .bool m.d.field.packed::zi m.d.field.msg::zi m.d.wire::zi m.d.want::zi m.d.utf.want::zi m.d.utf.low::zi m.d.utf.high::z7;let z5:List C:= .own 1::zi m.d.plan.root::zi m.d.plan.deep::zi m.d.plan.most::zi 2:: .own 4:: .int .u64 m.d.scan.bits::zi m.d.scan.have_::zi m.d.start::zi m.d.at_::zi m.d.field.number::zi m.d.field.kind:: .bool m.d.field.rep:: .bool m.d.field.packed::zi m.d.field.msg::zi m.d.wire::zi 0::zi m.d.utf.want::zi m.d.utf.low::zi m.d.utf.high::z7;let z8:List C:=[zi m.d.end_.kind,zi m.d.end_.field,.int .u64 m.d.end_.bits,zi m.d.end_.len,.str m.d.end_.text,zi m.d.end_.code,zi m.d.end_.at_,.own 3];let z2:List C:= .own 1::zi m.d.plan.root::zi m.d.plan.deep::zi m.d.plan.most::zi 1:: .own 2:: .int .u64 m.d.scan.bits::zi m.d.scan.have_::zi m.d.start::zi m.d.at_::zi m.d.field.number::zi m.d.field.kind:: .bool m.d.field.rep:: .bool m.d.field.packed::zi m.d.field.msg::zi m.d.wire::zi m.d.want::zi m.d.utf.want::zi m.d.utf.low::zi m.d.utf.high::z8;let z9:List C:=[zi m.d.end_.kind,zi m.d.end_.field,.int .u64 m.d.end_.bits,zi m.d.end_.len,.str m.d.end_.text,zi m.d.end_.code,zi m.d.end_.at_,.own 4];let z1:List C:= .own 1::zi m.d.plan.root::zi m.d.plan.deep::zi m.d.plan.most::zi 1:: .own 2:: .int .u64 m.d.scan.bits::zi m.d.scan.have_::zi m.d.start::zi m.d.at_::zi m.d.field.number::zi m.d.field.kind:: .bool m.d.field.rep:: .bool m.d.field.packed::zi m.d.field.msg::zi m.d.wire::zi m.d.want::zi m.d.utf.want::zi m.d.utf.low::zi m.d.utf.high::z9;let z6:List C:= .own 1::zi m.d.plan.root::zi m.d.plan.deep::zi m.d.plan.most::zi 2:: .own 2:: .int .u64 m.d.scan.bits::zi m.d.scan.have_::zi m.d.start::zi m.d.at_::zi m.d.field.number::zi m.d.field.kind:: .bool m.d.field.rep:: .bool m.d.field.packed::zi m.d.field.msg::zi m.d.wire::zi 0::zi 0::zi 0::zi 0::z9;let z12:=([.cells (Ab 1 4 5 m),.tree m.d.plan.shapes,.dead,.dead,.lst .lev m.d.stack,.lst .ev m.out]:List Blk);let z13:=((List.length m.d.stack:Nat):Int);let z11:=List.take ((Int.toNat (z13-1))-0) m.d.stack;let z16:=vB (A2 m).isSome;let z21:=decide (0<((List.length z11:Nat):Int));let z22:List Blk:=[.cells (Ab 1 2 3 m),.tree m.d.plan.shapes,.lst .lev z11,.lst .ev m.out];let z23:=decide (m.d.scan.have_=0);let z26:List Blk:=[.cells z2,.tree m.d.plan.shapes,.lst .lev z11,.lst .ev m.out];let z27:=(.v (vB true):S);let z28:=(0:Int)≤z13-1;let z29:=A0 m 5 m.d.at_;let z30:=decide (m.d.mode=2);let z33:List V:=[vP 0,.agg (zi 7::z4)];let z34:List V:=[vP 0,.agg (zi 8::z4)];let z35:=vI (Dh m.d);let z36:=z13-1≤z13;let z37:=decide (m.d.want<1);let z38:=decide (Dh m.d=0);let z40:List Blk:=[.cells (Ab 1 2 4 z29),.tree z29.d.plan.shapes,.lst .lev z29.d.stack,.dead,.lst .ev z29.out];let z41:=decide (0<z13);let z43:=vI (z13-1);let z18:=(.v (vI (IntKind.i64.wrap (z13-1))):S)= .v z43;let z44:=(.v (vB false):S);let z45:=decide (m.d.mode=7);let z46:=decide (m.d.mode=8);let z47:=(A2 m).getD m;let z10:List Blk:=[.cells (Ab 1 4 5 z47),.tree z47.d.plan.shapes,.dead,.dead,.lst .lev z47.d.stack,.lst .ev z47.out];let z20:=z30=false→z44= .v z16∧z12=z10;let z24:=z38=false→z44= .v z16∧z12=z10;let z25:=z41=false→z44= .v z16∧z12=z10;let z31:=z23=false→z44= .v z16∧z12=z10;let z32:=z37=true→z27= .v z16∧([.cells z5,.tree m.d.plan.shapes,.dead,.dead,.lst .lev m.d.stack,.lst .ev m.out]:List Blk)=z10;let z42:=z23=false→(z30=true→(z23=false)∧z44= .v z16∧z12=z10)∧z20;let z48:=os 18 [17];let z49:=m.out++[(⟨5,0,0,0,[],0,0⟩:Ev)];let z39:List Blk:=[.cells z6,.tree m.d.plan.shapes,.lst .lev m.d.stack,.dead,.lst .ev z49];let z50:=m.out++[(⟨7,0,0,0,[],0,0⟩:Ev)];let z14:List Blk:=[.cells (Ab 1 2 4 m),.tree m.d.plan.shapes,.lst .lev z11,.dead,.lst .ev z50];let z17:=([.cells (Ab 1 4 5 m),.tree m.d.plan.shapes,.dead,.dead,.lst .lev z11,.lst .ev z50]:List Blk);let z51:=m.out++[(⟨8,0,0,0,[],0,0⟩:Ev)];let z15:List Blk:=[.cells z1,.tree m.d.plan.shapes,.lst .lev z11,.dead,.lst .ev z51];let z19:=([.cells z3,.tree m.d.plan.shapes,.dead,.dead,.lst .lev z11,.lst .ev z51]:List Blk);let z52:=Bt m.d;(.br (.br (.br (.seg [.call [0,1,2,3] (.tup []) z40,.at 0,.cut 0 5] (.leaf () [0,1,2,3,5,4])) (.seg [.call [0,1,2,3] (.tup []) z39,.at 0,.cut 0 5] (.leaf () [0,1,2,3,5,4]))) (.br (.seg [.br false] (.br (.br (.br (.seg [.call [] (.v z35) []] (.br (.seg [.ord z48 [],.as 133 (.v z43),.at 13,.cut 0 5] (.br (.seg [.call [0,1,4,3] (.tup []) z14] (.leaf () [0,1,2,3,4,5])) (.seg [.call [0,1,4,3] (.tup []) z15] (.leaf () [0,1,2,3,4,5])))) (.seg [.at 0,.cut 0 5,.cut 0 27] (.leaf () [0,1,2,3,4,5])))) (.seg [.at 0,.cut 0 5,.cut 0 27] (.leaf () [0,1,2,3,4,5]))) (.seg [.at 0,.cut 0 5,.cut 0 27] (.leaf () [0,1,2,3,4,5]))) (.seg [.at 0,.cut 0 5,.cut 0 27] (.leaf () [0,1,2,3,4,5])))) (.br (.br (.seg [.br false] (.br (.seg [.br true] (.br (.seg [.call [] (.v z35) []] (.br (.seg [.ord z48 [],.as 133 (.v z43),.at 13,.cut 0 5] (.br (.seg [.call [0,1,4,3] (.tup []) z14] (.leaf () [0,1,2,3,4,5])) (.seg [.call [0,1,4,3] (.tup []) z15] (.leaf () [0,1,2,3,4,5])))) (.seg [.at 0,.cut 0 5,.cut 0 27] (.leaf () [0,1,2,3,4,5])))) (.seg [.at 0,.cut 0 5,.cut 0 27] (.leaf () [0,1,2,3,4,5])))) (.seg [.at 0,.cut 0 5,.cut 0 27] (.leaf () [0,1,2,3,4,5])))) (.br (.seg [.br false,.at 0,.cut 0 5,.cut 0 27] (.leaf () [0,1,2,3,4,5])) (.seg [.at 0,.cut 0 5,.cut 0 27] (.leaf () [0,1,2,3,4,5])))) (.br (.br (.br (.seg [.call [] (.v z35) []] (.br (.seg [.ord z48 [],.as 133 (.v z43),.at 13,.cut 0 5] (.br (.seg [.call [0,1,4,3] (.tup []) z14] (.leaf () [0,1,2,3,4,5])) (.seg [.call [0,1,4,3] (.tup []) z15] (.leaf () [0,1,2,3,4,5])))) (.seg [.at 0,.cut 0 5,.cut 0 27] (.leaf () [0,1,2,3,4,5])))) (.seg [.at 0,.cut 0 5,.cut 0 27] (.leaf () [0,1,2,3,4,5]))) (.seg [.at 0,.cut 0 5,.cut 0 27] (.leaf () [0,1,2,3,4,5]))) (.seg [.at 0,.cut 0 5,.cut 0 27] (.leaf () [0,1,2,3,4,5])))))) (.br (.br (.seg [.at 0,.cut 0 5,.cut 0 27] (.leaf () [0,1,2,3,4,5])) (.br (.br (.br (.seg [.call [] (.v z35) []] (.br (.seg [.ord z48 [],.as 133 (.v z43),.at 13,.cut 0 5] (.br (.seg [.call [0,1,4,3] (.tup []) z14] (.leaf () [0,1,2,3,4,5])) (.seg [.call [0,1,4,3] (.tup []) z15] (.leaf () [0,1,2,3,4,5])))) (.seg [.at 0,.cut 0 5,.cut 0 27] (.leaf () [0,1,2,3,4,5])))) (.seg [.at 0,.cut 0 5,.cut 0 27] (.leaf () [0,1,2,3,4,5]))) (.seg [.at 0,.cut 0 5,.cut 0 27] (.leaf () [0,1,2,3,4,5]))) (.seg [.at 0,.cut 0 5,.cut 0 27] (.leaf () [0,1,2,3,4,5])))) (.br (.br (.br (.seg [.at 0,.cut 0 5,.cut 0 27] (.leaf () [0,1,2,3,4,5])) (.br (.seg [.br true] (.br (.seg [.call [] (.v z35) []] (.br (.seg [.ord z48 [],.as 133 (.v z43),.at 13,.cut 0 5] (.br (.seg [.call [0,1,4,3] (.tup []) z14] (.leaf () [0,1,2,3,4,5])) (.seg [.call [0,1,4,3] (.tup []) z15] (.leaf () [0,1,2,3,4,5])))) (.seg [.at 0,.cut 0 5,.cut 0 27] (.leaf () [0,1,2,3,4,5])))) (.seg [.at 0,.cut 0 5,.cut 0 27] (.leaf () [0,1,2,3,4,5])))) (.seg [.at 0,.cut 0 5,.cut 0 27] (.leaf () [0,1,2,3,4,5])))) (.br (.seg [.br false,.at 0,.cut 0 5,.cut 0 27] (.leaf () [0,1,2,3,4,5])) (.seg [.at 0,.cut 0 5,.cut 0 27] (.leaf () [0,1,2,3,4,5])))) (.br (.br (.br (.seg [.call [] (.v z35) []] (.br (.seg [.ord z48 [],.as 133 (.v z43),.at 13,.cut 0 5] (.br (.seg [.call [0,1,4,3] (.tup []) z14] (.leaf () [0,1,2,3,4,5])) (.seg [.call [0,1,4,3] (.tup []) z15] (.leaf () [0,1,2,3,4,5])))) (.seg [.at 0,.cut 0 5,.cut 0 27] (.leaf () [0,1,2,3,4,5])))) (.seg [.at 0,.cut 0 5,.cut 0 27] (.leaf () [0,1,2,3,4,5]))) (.seg [.at 0,.cut 0 5,.cut 0 27] (.leaf () [0,1,2,3,4,5]))) (.seg [.at 0,.cut 0 5,.cut 0 27] (.leaf () [0,1,2,3,4,5]))))),((decide (m.d.mode=6))=true→(z37=true→((decide (0<m.d.utf.want))=true→(Fun Tryz.prog 94 [vP 0,vI 5,vI m.d.at_] [.cells (Ab 1 2 3 m),.tree m.d.plan.shapes,.lst .lev m.d.stack,.lst .ev m.out] (.tup []) z40)∧z27= .v z16∧([.cells (Ab 1 4 5 z29),.tree z29.d.plan.shapes,.dead,.dead,.lst .lev z29.d.stack,.lst .ev z29.out]:List Blk)=z10)∧((decide (0<m.d.utf.want))=false→(Fun Tryz.prog 93 [vP 0,.agg (zi 5::z4)] [.cells (.own 1::zi m.d.plan.root::zi m.d.plan.deep::zi m.d.plan.most::zi 2:: .own 2:: .int .u64 m.d.scan.bits::zi m.d.scan.have_::zi m.d.start::zi m.d.at_::zi m.d.field.number::zi m.d.field.kind:: .bool m.d.field.rep:: .bool m.d.field.packed::zi m.d.field.msg::zi m.d.wire::zi 0::zi 0::zi 0::zi 0::z8),.tree m.d.plan.shapes,.lst .lev m.d.stack,.lst .ev m.out] (.tup []) z39)∧z27= .v z16∧([.cells (.own 1::zi m.d.plan.root::zi m.d.plan.deep::zi m.d.plan.most::zi 2:: .own 4:: .int .u64 m.d.scan.bits::zi m.d.scan.have_::zi m.d.start::zi m.d.at_::zi m.d.field.number::zi m.d.field.kind:: .bool m.d.field.rep:: .bool m.d.field.packed::zi m.d.field.msg::zi m.d.wire::zi 0::zi 0::zi 0::zi 0::z7),.tree m.d.plan.shapes,.dead,.dead,.lst .lev m.d.stack,.lst .ev z49]:List Blk)=z10))∧(z37=false→(z45=true→(z37=false)∧(z30=true→(z23=true→(z41=true→(Fun Tryz.prog 85 [.agg z52] [] (.v z35) [])∧(z38=true→z18∧z18∧z36∧z28∧z36∧z28∧(z21=true→(Fun Tryz.prog 93 z33 z22 (.tup []) z14)∧z27= .v z16∧z17=z10)∧(z21=false→(Fun Tryz.prog 93 z34 z26 (.tup []) z15)∧z27= .v z16∧z19=z10))∧z24)∧z25)∧z31)∧z20)∧(z45=false→(z46=true→(z23=true→(z37=false)∧(z30=true→(z23=true)∧(z41=true→(Fun Tryz.prog 85 [.agg z52] [] (.v z35) [])∧(z38=true→z18∧z18∧z36∧z28∧z36∧z28∧(z21=true→(Fun Tryz.prog 93 z33 z22 (.tup []) z14)∧z27= .v z16∧z17=z10)∧(z21=false→(Fun Tryz.prog 93 z34 z26 (.tup []) z15)∧z27= .v z16∧z19=z10))∧z24)∧z25)∧z20)∧z42)∧(z46=false→(z30=true→(z23=true→(z41=true→(Fun Tryz.prog 85 [.agg z52] [] (.v z35) [])∧(z38=true→z18∧z18∧z36∧z28∧z36∧z28∧(z21=true→(Fun Tryz.prog 93 z33 z22 (.tup []) z14)∧z27= .v z16∧z17=z10)∧(z21=false→(Fun Tryz.prog 93 z34 z26 (.tup []) z15)∧z27= .v z16∧z19=z10))∧z24)∧z25)∧z31)∧z20))))∧((decide (m.d.mode=6))=false→(z45=true→z32∧(z37=false→(z30=true→(z23=true→(z41=true→(Fun Tryz.prog 85 [.agg z52] [] (.v z35) [])∧(z38=true→z18∧z18∧z36∧z28∧z36∧z28∧(z21=true→(Fun Tryz.prog 93 z33 z22 (.tup []) z14)∧z27= .v z16∧z17=z10)∧(z21=false→(Fun Tryz.prog 93 z34 z26 (.tup []) z15)∧z27= .v z16∧z19=z10))∧z24)∧z25)∧z31)∧z20))∧(z45=false→(z46=true→(z23=true→z32∧(z37=false→(z30=true→(z23=true)∧(z41=true→(Fun Tryz.prog 85 [.agg z52] [] (.v z35) [])∧(z38=true→z18∧z18∧z36∧z28∧z36∧z28∧(z21=true→(Fun Tryz.prog 93 z33 z22 (.tup []) z14)∧z27= .v z16∧z17=z10)∧(z21=false→(Fun Tryz.prog 93 z34 z26 (.tup []) z15)∧z27= .v z16∧z19=z10))∧z24)∧z25)∧z20))∧z42)∧(z46=false→(z30=true→(z23=true→(z41=true→(Fun Tryz.prog 85 [.agg z52] [] (.v z35) [])∧(z38=true→z18∧z18∧z36∧z28∧z36∧z28∧(z21=true→(Fun Tryz.prog 93 z33 z22 (.tup []) z14)∧z27= .v z16∧z17=z10)∧(z21=false→(Fun Tryz.prog 93 z34 z26 (.tup []) z15)∧z27= .v z16∧z19=z10))∧z24)∧z25)∧z31)∧z20))))) Q4 ?_
 refine dsp (fun h1 p1=>?_) fun h1 p1=>?_
 refine dsp (fun h2 p2=>?_) fun h2 p2=>?_
 refine dsp (fun h3 p3=>?_) fun h3 p3=>?_
 refine⟨(B4 m _ _ Q2),?_⟩
 refine have hm1:(A2 m).getD m=(A0 m 5 m.d.at_):=?_;?_
 rotate_left
 refine⟨(sB ?_),Q5⟩
 rotate_left
 refine⟨(E1 (⟨(⟨m.d.plan,2,m.d.stack,m.d.scan,m.d.start,m.d.at_,m.d.field,m.d.wire,0,(⟨0,0,0⟩:Utf),m.d.end_⟩:Dcd),m.out⟩:Mac) (⟨5,0,0,0,[],0,0⟩:Ev) Q7),?_⟩
 refine have hm1:(A2 m).getD m=(⟨(⟨m.d.plan,2,m.d.stack,m.d.scan,m.d.start,m.d.at_,m.d.field,m.d.wire,0,(⟨0,0,0⟩:Utf),m.d.end_⟩:Dcd),m.out++[(⟨5,0,0,0,[],0,0⟩:Ev)]⟩:Mac):=?_;?_
 rotate_left
 refine⟨(sB ?_),Q5⟩
 rotate_left
 refine dsp (fun h3 p3=>?_) fun h3 p3=>?_
 refine⟨h2,dsp (fun h4 p4=>?_) fun h4 p4=>?_⟩
 refine dsp (fun h5 p5=>?_) fun h5 p5=>?_
 refine dsp (fun h6 p6=>?_) fun h6 p6=>?_
 refine⟨(Dq m.d Q2),dsp (fun h7 p7=>?_) fun h7 p7=>?_⟩
 refine⟨(Ae Q2 Q2),(Ae Q2 Q2),Q2,Q2,Q2,Q2,dsp (fun h8 p8=>?_) fun h8 p8=>?_⟩
 refine⟨(E1 (⟨(⟨m.d.plan,m.d.mode,List.take ((Int.toNat (((List.length m.d.stack:Nat):Int)-1))-0) m.d.stack,m.d.scan,m.d.start,m.d.at_,m.d.field,m.d.wire,m.d.want,m.d.utf,m.d.end_⟩:Dcd),m.out⟩:Mac) (⟨7,0,0,0,[],0,0⟩:Ev) Q7),?_⟩
 refine have hm1:(A2 m).getD m=(⟨(⟨m.d.plan,m.d.mode,List.take ((Int.toNat (((List.length m.d.stack:Nat):Int)-1))-0) m.d.stack,m.d.scan,m.d.start,m.d.at_,m.d.field,m.d.wire,m.d.want,m.d.utf,m.d.end_⟩:Dcd),m.out++[(⟨7,0,0,0,[],0,0⟩:Ev)]⟩:Mac):=?_;?_
 rotate_left
 refine⟨(sB ?_),Q5⟩
 rotate_left
 refine⟨(E1 (⟨(⟨m.d.plan,1,List.take ((Int.toNat (((List.length m.d.stack:Nat):Int)-1))-0) m.d.stack,m.d.scan,m.d.start,m.d.at_,m.d.field,m.d.wire,m.d.want,m.d.utf,m.d.end_⟩:Dcd),m.out⟩:Mac) (⟨8,0,0,0,[],0,0⟩:Ev) Q7),?_⟩
 refine have hm1:(A2 m).getD m=(⟨(⟨m.d.plan,1,List.take ((Int.toNat (((List.length m.d.stack:Nat):Int)-1))-0) m.d.stack,m.d.scan,m.d.start,m.d.at_,m.d.field,m.d.wire,m.d.want,m.d.utf,m.d.end_⟩:Dcd),m.out++[(⟨8,0,0,0,[],0,0⟩:Ev)]⟩:Mac):=?_;?_
 rotate_left
 refine⟨(sB ?_),Q5⟩
 rotate_left
 refine have hm1:(A2 m).getD m=m:=?_;?_
 rotate_left
 refine⟨(sB ?_),Q5⟩
 rotate_left
 refine have hm1:(A2 m).getD m=m:=?_;?_
 rotate_left
 refine⟨(sB ?_),Q5⟩
 rotate_left
 refine have hm1:(A2 m).getD m=m:=?_;?_
 rotate_left
 refine⟨(sB ?_),Q5⟩
 rotate_left
 refine have hm1:(A2 m).getD m=m:=?_;?_
 rotate_left
 refine⟨(sB ?_),Q5⟩
 rotate_left
 refine dsp (fun h4 p4=>?_) fun h4 p4=>?_
 refine dsp (fun h5 p5=>?_) fun h5 p5=>?_
 refine⟨h2,dsp (fun h6 p6=>?_) fun h6 p6=>?_⟩
 refine⟨h5,dsp (fun h7 p7=>?_) fun h7 p7=>?_⟩
 refine⟨(Dq m.d Q2),dsp (fun h8 p8=>?_) fun h8 p8=>?_⟩
 refine⟨(Ae Q2 Q2),(Ae Q2 Q2),Q2,Q2,Q2,Q2,dsp (fun h9 p9=>?_) fun h9 p9=>?_⟩
 refine⟨(E1 (⟨(⟨m.d.plan,m.d.mode,List.take ((Int.toNat (((List.length m.d.stack:Nat):Int)-1))-0) m.d.stack,m.d.scan,m.d.start,m.d.at_,m.d.field,m.d.wire,m.d.want,m.d.utf,m.d.end_⟩:Dcd),m.out⟩:Mac) (⟨7,0,0,0,[],0,0⟩:Ev) Q7),?_⟩
 refine have hm1:(A2 m).getD m=(⟨(⟨m.d.plan,m.d.mode,List.take ((Int.toNat (((List.length m.d.stack:Nat):Int)-1))-0) m.d.stack,m.d.scan,m.d.start,m.d.at_,m.d.field,m.d.wire,m.d.want,m.d.utf,m.d.end_⟩:Dcd),m.out++[(⟨7,0,0,0,[],0,0⟩:Ev)]⟩:Mac):=?_;?_
 rotate_left
 refine⟨(sB ?_),Q5⟩
 rotate_left
 refine⟨(E1 (⟨(⟨m.d.plan,1,List.take ((Int.toNat (((List.length m.d.stack:Nat):Int)-1))-0) m.d.stack,m.d.scan,m.d.start,m.d.at_,m.d.field,m.d.wire,m.d.want,m.d.utf,m.d.end_⟩:Dcd),m.out⟩:Mac) (⟨8,0,0,0,[],0,0⟩:Ev) Q7),?_⟩
 refine have hm1:(A2 m).getD m=(⟨(⟨m.d.plan,1,List.take ((Int.toNat (((List.length m.d.stack:Nat):Int)-1))-0) m.d.stack,m.d.scan,m.d.start,m.d.at_,m.d.field,m.d.wire,m.d.want,m.d.utf,m.d.end_⟩:Dcd),m.out++[(⟨8,0,0,0,[],0,0⟩:Ev)]⟩:Mac):=?_;?_
 rotate_left
 refine⟨(sB ?_),Q5⟩
 rotate_left
 refine have hm1:(A2 m).getD m=m:=?_;?_
 rotate_left
 refine⟨(sB ?_),Q5⟩
 rotate_left
 refine have hm1:(A2 m).getD m=m:=?_;?_
 rotate_left
 refine⟨(sB ?_),Q5⟩
 rotate_left
 refine have hm1:(A2 m).getD m=m:=?_;?_
 rotate_left
 refine⟨(sB ?_),Q5⟩
 rotate_left
 refine dsp (fun h6 p6=>?_) fun h6 p6=>?_
 refine⟨h5,?_⟩
 refine have hm1:(A2 m).getD m=m:=?_;?_
 rotate_left
 refine⟨(sB ?_),Q5⟩
 rotate_left
 refine have hm1:(A2 m).getD m=m:=?_;?_
 rotate_left
 refine⟨(sB ?_),Q5⟩
 rotate_left
 refine dsp (fun h5 p5=>?_) fun h5 p5=>?_
 refine dsp (fun h6 p6=>?_) fun h6 p6=>?_
 refine dsp (fun h7 p7=>?_) fun h7 p7=>?_
 refine⟨(Dq m.d Q2),dsp (fun h8 p8=>?_) fun h8 p8=>?_⟩
 refine⟨(Ae Q2 Q2),(Ae Q2 Q2),Q2,Q2,Q2,Q2,dsp (fun h9 p9=>?_) fun h9 p9=>?_⟩
 refine⟨(E1 (⟨(⟨m.d.plan,m.d.mode,List.take ((Int.toNat (((List.length m.d.stack:Nat):Int)-1))-0) m.d.stack,m.d.scan,m.d.start,m.d.at_,m.d.field,m.d.wire,m.d.want,m.d.utf,m.d.end_⟩:Dcd),m.out⟩:Mac) (⟨7,0,0,0,[],0,0⟩:Ev) Q7),?_⟩
 refine have hm1:(A2 m).getD m=(⟨(⟨m.d.plan,m.d.mode,List.take ((Int.toNat (((List.length m.d.stack:Nat):Int)-1))-0) m.d.stack,m.d.scan,m.d.start,m.d.at_,m.d.field,m.d.wire,m.d.want,m.d.utf,m.d.end_⟩:Dcd),m.out++[(⟨7,0,0,0,[],0,0⟩:Ev)]⟩:Mac):=?_;?_
 rotate_left
 refine⟨(sB ?_),Q5⟩
 rotate_left
 refine⟨(E1 (⟨(⟨m.d.plan,1,List.take ((Int.toNat (((List.length m.d.stack:Nat):Int)-1))-0) m.d.stack,m.d.scan,m.d.start,m.d.at_,m.d.field,m.d.wire,m.d.want,m.d.utf,m.d.end_⟩:Dcd),m.out⟩:Mac) (⟨8,0,0,0,[],0,0⟩:Ev) Q7),?_⟩
 refine have hm1:(A2 m).getD m=(⟨(⟨m.d.plan,1,List.take ((Int.toNat (((List.length m.d.stack:Nat):Int)-1))-0) m.d.stack,m.d.scan,m.d.start,m.d.at_,m.d.field,m.d.wire,m.d.want,m.d.utf,m.d.end_⟩:Dcd),m.out++[(⟨8,0,0,0,[],0,0⟩:Ev)]⟩:Mac):=?_;?_
 rotate_left
 refine⟨(sB ?_),Q5⟩
 rotate_left
 refine have hm1:(A2 m).getD m=m:=?_;?_
 rotate_left
 refine⟨(sB ?_),Q5⟩
 rotate_left
 refine have hm1:(A2 m).getD m=m:=?_;?_
 rotate_left
 refine⟨(sB ?_),Q5⟩
 rotate_left
 refine have hm1:(A2 m).getD m=m:=?_;?_
 rotate_left
 refine⟨(sB ?_),Q5⟩
 rotate_left
 refine have hm1:(A2 m).getD m=m:=?_;?_
 rotate_left
 refine⟨(sB ?_),Q5⟩
 rotate_left
 refine dsp (fun h2 p2=>?_) fun h2 p2=>?_
 refine dsp (fun h3 p3=>?_) fun h3 p3=>?_
 refine have hm1:(A2 m).getD m=(⟨(⟨m.d.plan,2,m.d.stack,m.d.scan,m.d.start,m.d.at_,m.d.field,m.d.wire,0,m.d.utf,m.d.end_⟩:Dcd),m.out⟩:Mac):=?_;?_
 rotate_left
 refine⟨(sB ?_),Q5⟩
 rotate_left
 refine dsp (fun h4 p4=>?_) fun h4 p4=>?_
 refine dsp (fun h5 p5=>?_) fun h5 p5=>?_
 refine dsp (fun h6 p6=>?_) fun h6 p6=>?_
 refine⟨(Dq m.d Q2),dsp (fun h7 p7=>?_) fun h7 p7=>?_⟩
 refine⟨(Ae Q2 Q2),(Ae Q2 Q2),Q2,Q2,Q2,Q2,dsp (fun h8 p8=>?_) fun h8 p8=>?_⟩
 refine⟨(E1 (⟨(⟨m.d.plan,m.d.mode,List.take ((Int.toNat (((List.length m.d.stack:Nat):Int)-1))-0) m.d.stack,m.d.scan,m.d.start,m.d.at_,m.d.field,m.d.wire,m.d.want,m.d.utf,m.d.end_⟩:Dcd),m.out⟩:Mac) (⟨7,0,0,0,[],0,0⟩:Ev) Q7),?_⟩
 refine have hm1:(A2 m).getD m=(⟨(⟨m.d.plan,m.d.mode,List.take ((Int.toNat (((List.length m.d.stack:Nat):Int)-1))-0) m.d.stack,m.d.scan,m.d.start,m.d.at_,m.d.field,m.d.wire,m.d.want,m.d.utf,m.d.end_⟩:Dcd),m.out++[(⟨7,0,0,0,[],0,0⟩:Ev)]⟩:Mac):=?_;?_
 rotate_left
 refine⟨(sB ?_),Q5⟩
 rotate_left
 refine⟨(E1 (⟨(⟨m.d.plan,1,List.take ((Int.toNat (((List.length m.d.stack:Nat):Int)-1))-0) m.d.stack,m.d.scan,m.d.start,m.d.at_,m.d.field,m.d.wire,m.d.want,m.d.utf,m.d.end_⟩:Dcd),m.out⟩:Mac) (⟨8,0,0,0,[],0,0⟩:Ev) Q7),?_⟩
 refine have hm1:(A2 m).getD m=(⟨(⟨m.d.plan,1,List.take ((Int.toNat (((List.length m.d.stack:Nat):Int)-1))-0) m.d.stack,m.d.scan,m.d.start,m.d.at_,m.d.field,m.d.wire,m.d.want,m.d.utf,m.d.end_⟩:Dcd),m.out++[(⟨8,0,0,0,[],0,0⟩:Ev)]⟩:Mac):=?_;?_
 rotate_left
 refine⟨(sB ?_),Q5⟩
 rotate_left
 refine have hm1:(A2 m).getD m=m:=?_;?_
 rotate_left
 refine⟨(sB ?_),Q5⟩
 rotate_left
 refine have hm1:(A2 m).getD m=m:=?_;?_
 rotate_left
 refine⟨(sB ?_),Q5⟩
 rotate_left
 refine have hm1:(A2 m).getD m=m:=?_;?_
 rotate_left
 refine⟨(sB ?_),Q5⟩
 rotate_left
 refine have hm1:(A2 m).getD m=m:=?_;?_
 rotate_left
 refine⟨(sB ?_),Q5⟩
 rotate_left
 refine dsp (fun h3 p3=>?_) fun h3 p3=>?_
 refine dsp (fun h4 p4=>?_) fun h4 p4=>?_
 refine dsp (fun h5 p5=>?_) fun h5 p5=>?_
 refine have hm1:(A2 m).getD m=(⟨(⟨m.d.plan,2,m.d.stack,m.d.scan,m.d.start,m.d.at_,m.d.field,m.d.wire,0,m.d.utf,m.d.end_⟩:Dcd),m.out⟩:Mac):=?_;?_
 rotate_left
 refine⟨(sB ?_),Q5⟩
 rotate_left
 refine dsp (fun h6 p6=>?_) fun h6 p6=>?_
 refine⟨h4,dsp (fun h7 p7=>?_) fun h7 p7=>?_⟩
 refine⟨(Dq m.d Q2),dsp (fun h8 p8=>?_) fun h8 p8=>?_⟩
 refine⟨(Ae Q2 Q2),(Ae Q2 Q2),Q2,Q2,Q2,Q2,dsp (fun h9 p9=>?_) fun h9 p9=>?_⟩
 refine⟨(E1 (⟨(⟨m.d.plan,m.d.mode,List.take ((Int.toNat (((List.length m.d.stack:Nat):Int)-1))-0) m.d.stack,m.d.scan,m.d.start,m.d.at_,m.d.field,m.d.wire,m.d.want,m.d.utf,m.d.end_⟩:Dcd),m.out⟩:Mac) (⟨7,0,0,0,[],0,0⟩:Ev) Q7),?_⟩
 refine have hm1:(A2 m).getD m=(⟨(⟨m.d.plan,m.d.mode,List.take ((Int.toNat (((List.length m.d.stack:Nat):Int)-1))-0) m.d.stack,m.d.scan,m.d.start,m.d.at_,m.d.field,m.d.wire,m.d.want,m.d.utf,m.d.end_⟩:Dcd),m.out++[(⟨7,0,0,0,[],0,0⟩:Ev)]⟩:Mac):=?_;?_
 rotate_left
 refine⟨(sB ?_),Q5⟩
 rotate_left
 refine⟨(E1 (⟨(⟨m.d.plan,1,List.take ((Int.toNat (((List.length m.d.stack:Nat):Int)-1))-0) m.d.stack,m.d.scan,m.d.start,m.d.at_,m.d.field,m.d.wire,m.d.want,m.d.utf,m.d.end_⟩:Dcd),m.out⟩:Mac) (⟨8,0,0,0,[],0,0⟩:Ev) Q7),?_⟩
 refine have hm1:(A2 m).getD m=(⟨(⟨m.d.plan,1,List.take ((Int.toNat (((List.length m.d.stack:Nat):Int)-1))-0) m.d.stack,m.d.scan,m.d.start,m.d.at_,m.d.field,m.d.wire,m.d.want,m.d.utf,m.d.end_⟩:Dcd),m.out++[(⟨8,0,0,0,[],0,0⟩:Ev)]⟩:Mac):=?_;?_
 rotate_left
 refine⟨(sB ?_),Q5⟩
 rotate_left
 refine have hm1:(A2 m).getD m=m:=?_;?_
 rotate_left
 refine⟨(sB ?_),Q5⟩
 rotate_left
 refine have hm1:(A2 m).getD m=m:=?_;?_
 rotate_left
 refine⟨(sB ?_),Q5⟩
 rotate_left
 refine have hm1:(A2 m).getD m=m:=?_;?_
 rotate_left
 refine⟨(sB ?_),Q5⟩
 rotate_left
 refine dsp (fun h5 p5=>?_) fun h5 p5=>?_
 refine⟨h4,?_⟩
 refine have hm1:(A2 m).getD m=m:=?_;?_
 rotate_left
 refine⟨(sB ?_),Q5⟩
 rotate_left
 refine have hm1:(A2 m).getD m=m:=?_;?_
 rotate_left
 refine⟨(sB ?_),Q5⟩
 rotate_left
 refine dsp (fun h4 p4=>?_) fun h4 p4=>?_
 refine dsp (fun h5 p5=>?_) fun h5 p5=>?_
 refine dsp (fun h6 p6=>?_) fun h6 p6=>?_
 refine⟨(Dq m.d Q2),dsp (fun h7 p7=>?_) fun h7 p7=>?_⟩
 refine⟨(Ae Q2 Q2),(Ae Q2 Q2),Q2,Q2,Q2,Q2,dsp (fun h8 p8=>?_) fun h8 p8=>?_⟩
 refine⟨(E1 (⟨(⟨m.d.plan,m.d.mode,List.take ((Int.toNat (((List.length m.d.stack:Nat):Int)-1))-0) m.d.stack,m.d.scan,m.d.start,m.d.at_,m.d.field,m.d.wire,m.d.want,m.d.utf,m.d.end_⟩:Dcd),m.out⟩:Mac) (⟨7,0,0,0,[],0,0⟩:Ev) Q7),?_⟩
 refine have hm1:(A2 m).getD m=(⟨(⟨m.d.plan,m.d.mode,List.take ((Int.toNat (((List.length m.d.stack:Nat):Int)-1))-0) m.d.stack,m.d.scan,m.d.start,m.d.at_,m.d.field,m.d.wire,m.d.want,m.d.utf,m.d.end_⟩:Dcd),m.out++[(⟨7,0,0,0,[],0,0⟩:Ev)]⟩:Mac):=?_;?_
 rotate_left
 refine⟨(sB ?_),Q5⟩
 rotate_left
 refine⟨(E1 (⟨(⟨m.d.plan,1,List.take ((Int.toNat (((List.length m.d.stack:Nat):Int)-1))-0) m.d.stack,m.d.scan,m.d.start,m.d.at_,m.d.field,m.d.wire,m.d.want,m.d.utf,m.d.end_⟩:Dcd),m.out⟩:Mac) (⟨8,0,0,0,[],0,0⟩:Ev) Q7),?_⟩
 refine have hm1:(A2 m).getD m=(⟨(⟨m.d.plan,1,List.take ((Int.toNat (((List.length m.d.stack:Nat):Int)-1))-0) m.d.stack,m.d.scan,m.d.start,m.d.at_,m.d.field,m.d.wire,m.d.want,m.d.utf,m.d.end_⟩:Dcd),m.out++[(⟨8,0,0,0,[],0,0⟩:Ev)]⟩:Mac):=?_;?_
 rotate_left
 refine⟨(sB ?_),Q5⟩
 rotate_left
 refine have hm1:(A2 m).getD m=m:=?_;?_
 rotate_left
 refine⟨(sB ?_),Q5⟩
 rotate_left
 refine have hm1:(A2 m).getD m=m:=?_;?_
 rotate_left
 refine⟨(sB ?_),Q5⟩
 rotate_left
 refine have hm1:(A2 m).getD m=m:=?_;?_
 rotate_left
 refine⟨(sB ?_),Q5⟩
 rotate_left
 refine have hm1:(A2 m).getD m=m:=?_;?_
 rotate_left
 refine⟨(sB ?_),Q5⟩
 rotate_left
 all_goals first|(simp_all[A2,A0,A1,Ue,Ahm,J7,utf0];done)|(grind[A2,A0,A1,Ue,Ahm,J7,utf0])
structure L6 where
 m:Mac
def L7 (m:Mac):Fam:=⟨L6,fun q1=>[(0,.v (vP 0))],fun q1=>[.cells (Ab 4 5 6 q1.m),.dead,.dead,.dead,.tree q1.m.d.plan.shapes,.lst .lev q1.m.d.stack,.lst .ev q1.m.out],fun q1=>Ac q1.m=Ac m∧List.length (q1.m).out+wM q1.m≤List.length m.out+wM m∧List.length (q1.m).d.stack≤List.length m.d.stack,fun q1=>wM q1.m⟩
theorem D0 (m:Mac) (hp1:A7 (m).d=true) (hp2:List.length (m).out≤100000100):Fun Tryz.prog 120 [vP 0] [.cells (Ab 1 2 3 m),.tree m.d.plan.shapes,.lst .lev m.d.stack,.lst .ev m.out] (.tup []) [.cells (Ab 4 5 6 (Ac m)),.dead,.dead,.dead,.tree (Ac m).d.plan.shapes,.lst .lev (Ac m).d.stack,.lst .ev (Ac m).out]:=by
 have hN:Bg=274877906944:=rfl
 have hlv:=B0 hp1
 have hpt:=B6 hlv.1
 have htb:=Gk hp1
 have hwm:=Acw m
 refine Ar Tryz.func120 Q4 Q4 (w:=let z4:=L7 m;(.seg [.call [] (.v (vB (A7 m.d))) [],.br false,.at 0,.cut 0 0,.cut 0 5,.cut 0 27,.keep [0],.sel [0,1,2,3,4,5,6]] (.loop z4 fun q1=>let z1:=(A2 q1.m).getD q1.m;.seg [.call [0,4,5,6] (.v (vB (A2 q1.m).isSome)) [.cells (Ab 1 4 5 z1),.tree z1.d.plan.shapes,.dead,.dead,.lst .lev z1.d.stack,.lst .ev z1.out]] (.br (.seg [.at 0,.keep [0],.sel [0,1,2,3,4,7,8]] (.next)) (.leaf () [0,1,2,3,4,7,8]))),(Fun Tryz.prog 78 [.agg (Bt m.d)] [] (.v (vB (A7 m.d))) [])∧((!(A7 m.d))=false)∧z4.Has [(0,.v (vP 0))] [.cells (Ab 4 5 6 m),.dead,.dead,.dead,.tree m.d.plan.shapes,.lst .lev m.d.stack,.lst .ev m.out]∧∀q1,z4.inv q1→(let z3:=A2 q1.m;let z2:=z3.getD q1.m;(Fun Tryz.prog 173 [vP 0] [.cells (Ab 1 2 3 q1.m),.tree q1.m.d.plan.shapes,.lst .lev q1.m.d.stack,.lst .ev q1.m.out] (.v (vB z3.isSome)) [.cells (Ab 1 4 5 z2),.tree z2.d.plan.shapes,.dead,.dead,.lst .lev z2.d.stack,.lst .ev z2.out])∧(z3.isSome=true→z4.Nxt q1 [(0,.v (vP 0))] [.cells (Ab 4 5 6 z2),.dead,.dead,.dead,.tree z2.d.plan.shapes,.lst .lev z2.d.stack,.lst .ev z2.out])∧(z3.isSome=false→(.tup []:S)= .tup []∧([.cells (Ab 4 5 6 z2),.dead,.dead,.dead,.tree z2.d.plan.shapes,.lst .lev z2.d.stack,.lst .ev z2.out]:List Blk)=[.cells (Ab 4 5 6 (Ac m)),.dead,.dead,.dead,.tree (Ac m).d.plan.shapes,.lst .lev (Ac m).d.stack,.lst .ev (Ac m).out])))) Q4 ?_
 refine⟨(V5 m.d Q2 Q2),(by simp[hp1]),Bk (j:=(⟨m⟩:L6)) rfl rfl (by dsimp only[L7];exact⟨rfl,Nat.le_refl _,Nat.le_refl _⟩),fun (q1:L6) hq_q1=>?_⟩
 have hi_q1:Ac q1.m=Ac m∧List.length (q1.m).out+wM q1.m≤List.length m.out+wM m∧List.length (q1.m).d.stack≤List.length m.d.stack:=hq_q1
 obtain ⟨v1,v2,v3⟩:=hi_q1
 refine⟨(Aim q1.m Q2 Q2),fun h1=>?_,fun h1=>?_⟩
 obtain ⟨q,hq⟩:=Option.isSome_iff_exists.1 h1
 have hg:(A2 q1.m).getD q1.m=q:=by rw[hq];rfl
 exact Bd (j:=(⟨((A2 q1.m).getD q1.m)⟩:L6)) rfl rfl (by dsimp only[L7];exact⟨by rw[hg,←v1];exact(Cr hq).symm,by rw[hg];have:=Ca hq;omega,by rw[hg];have:=(Jb hq).1;omega⟩) (by dsimp only[L7];rw[hg];exact(Ca hq).1)
 have hz:A2 q1.m=none:=by simpa using h1
 have hg:(A2 q1.m).getD q1.m=q1.m:=by rw[hz];rfl
 have hst:Ac m=q1.m:=by rw[←v1,B5 hz]
 refine have hm1:Ac m=((A2 q1.m).getD q1.m):=?_;?_
 rotate_left
 exact⟨rfl,Q5⟩
 all_goals first|((rw[hst,hg];done))|((rw[hst];done))|(grind)
theorem Aem (m:Mac) (u:Int) (hp1:A7 (m).d=true) (hp2:List.length (m).out≤100000000) (hp3:(0:Int)≤u∧u≤18446744073709551615):Fun Tryz.prog 178 [vP 0,.c (.int .u64 u)] [.cells (Ab 1 2 3 m),.tree m.d.plan.shapes,.lst .lev m.d.stack,.lst .ev m.out] (.tup []) [.cells (Ab 4 5 6 (Cs m u)),.dead,.dead,.dead,.tree (Cs m u).d.plan.shapes,.lst .lev (Cs m u).d.stack,.lst .ev (Cs m u).out]:=by
 have hN:Bg=274877906944:=rfl
 have hlv:=B0 hp1
 have hpt:=B6 hlv.1
 have htb:=Gk hp1
 have hwm:=Acw m
 refine Ar Tryz.func178 Q4 Q4 (w:=let zi:Int→C:= .int .i64;let z1:List C:=[.own 2,.int .u64 0,zi 0,zi m.d.start,zi m.d.at_,zi m.d.field.number,zi m.d.field.kind,.bool m.d.field.rep,.bool m.d.field.packed,zi m.d.field.msg,zi m.d.wire,zi m.d.want,zi m.d.utf.want,zi m.d.utf.low,zi m.d.utf.high,zi m.d.end_.kind,zi m.d.end_.field,.int .u64 m.d.end_.bits,zi m.d.end_.len,.str m.d.end_.text,zi m.d.end_.code,zi m.d.end_.at_,.own 3];let z2:List C:=[.own 1,zi m.d.plan.root,zi m.d.plan.deep,zi m.d.plan.most,zi m.d.mode,.own 2,.int .u64 0,zi 0,zi m.d.start,zi m.d.at_,zi m.d.field.number,zi m.d.field.kind,.bool m.d.field.rep,.bool m.d.field.packed,zi m.d.field.msg,zi m.d.wire,zi m.d.want,zi m.d.utf.want,zi m.d.utf.low,zi m.d.utf.high,zi m.d.end_.kind,zi m.d.end_.field,.int .u64 m.d.end_.bits,zi m.d.end_.len,.str m.d.end_.text,zi m.d.end_.code,zi m.d.end_.at_,.own 4];let z4:=A0 (⟨(⟨m.d.plan,m.d.mode,m.d.stack,(⟨0,0⟩:Scn),m.d.start,m.d.at_,m.d.field,m.d.wire,m.d.want,m.d.utf,m.d.end_⟩:Dcd),m.out⟩:Mac) 7 m.d.start;let z6:List Blk:=[.cells (.own 1::zi m.d.plan.root::zi m.d.plan.deep::zi m.d.plan.most::zi m.d.mode::z1),.tree m.d.plan.shapes,.lst .lev m.d.stack,.lst .ev m.out];let z7:List Blk:=[.cells (Ab 4 5 6 (Cs m u)),.dead,.dead,.dead,.tree (Cs m u).d.plan.shapes,.lst .lev (Cs m u).d.stack,.lst .ev (Cs m u).out];let z9:List Blk:=[.cells (Ab 1 2 4 z4),.tree z4.d.plan.shapes,.lst .lev z4.d.stack,.dead,.lst .ev z4.out];let z10:=(⟨1,0,0,u,[],0,0⟩:Ev);let z3:=Ac (⟨(⟨m.d.plan,2,[(⟨m.d.plan.root,u⟩:Lev)],(⟨0,0⟩:Scn),m.d.start,m.d.at_,m.d.field,m.d.wire,m.d.want,m.d.utf,m.d.end_⟩:Dcd),m.out++[z10]⟩:Mac);let z5:List Blk:=[.cells (Ab 4 5 6 z3),.dead,.dead,.dead,.tree z3.d.plan.shapes,.lst .lev z3.d.stack,.lst .ev z3.out];let z8:List Blk:=[.cells z2,.tree m.d.plan.shapes,.lst .lev m.d.stack,.dead,.lst .ev (m.out++[z10])];let z11:=(.v (vI (IntKind.i64.wrap (u))):S)= .v (vI u);(.seg [.as 16 (.v (.c (.int .u64 m.d.plan.most)))] (.br (.seg [.call [0,1,2,3] (.tup []) z9,.at 0,.cut 0 0,.cut 0 5] (.leaf () [0,1,2,3,5,6,4])) (.seg [.as 27 (.v (vI u)),.call [0,1,2,3] (.tup []) z8,.as 39 (.v (vI u)),.ty .lev,.call [0,1,5,4] (.tup []) z5,.at 0,.kill 2] (.leaf () [0,1,2,3,6,7,8]))),((.v (.c (.int .u64 (IntKind.u64.wrap (m.d.plan.most)))):S)= .v (.c (.int .u64 m.d.plan.most)))∧((decide (m.d.plan.most<u))=true→(Fun Tryz.prog 94 [vP 0,vI 7,vI m.d.start] z6 (.tup []) z9)∧(.tup []:S)= .tup []∧([.cells (Ab 4 5 6 z4),.dead,.dead,.dead,.tree z4.d.plan.shapes,.lst .lev z4.d.stack,.lst .ev z4.out]:List Blk)=z7)∧((decide (m.d.plan.most<u))=false→z11∧(Fun Tryz.prog 93 [vP 0,.agg [zi 1,zi 0,.int .u64 0,zi u,.str [],zi 0,zi 0]] z6 (.tup []) z8)∧z11∧(Fun Tryz.prog 120 [vP 0] [.cells (.own 1::zi m.d.plan.root::zi m.d.plan.deep::zi m.d.plan.most::zi 2::z1),.tree m.d.plan.shapes,.lst .lev [(⟨m.d.plan.root,u⟩:Lev)],.lst .ev (m.out++[z10])] (.tup []) z5)∧(.tup []:S)= .tup []∧(z5:List Blk)=z7))) Q4 ?_
 refine⟨(Bv Q2 Q2),dsp (fun h1 p1=>?_) fun h1 p1=>?_⟩
 refine⟨(B4 (⟨(⟨m.d.plan,m.d.mode,m.d.stack,(⟨0,0⟩:Scn),m.d.start,m.d.at_,m.d.field,m.d.wire,m.d.want,m.d.utf,m.d.end_⟩:Dcd),m.out⟩:Mac) _ _ Q7),?_⟩
 refine have hm1:Cs m u=(A0 (⟨(⟨m.d.plan,m.d.mode,m.d.stack,(⟨0,0⟩:Scn),m.d.start,m.d.at_,m.d.field,m.d.wire,m.d.want,m.d.utf,m.d.end_⟩:Dcd),m.out⟩:Mac) 7 m.d.start):=?_;?_
 rotate_left
 exact⟨rfl,Q5⟩
 refine⟨(Ae Q2 Q2),(E1 (⟨(⟨m.d.plan,m.d.mode,m.d.stack,(⟨0,0⟩:Scn),m.d.start,m.d.at_,m.d.field,m.d.wire,m.d.want,m.d.utf,m.d.end_⟩:Dcd),m.out⟩:Mac) (⟨1,0,0,u,[],0,0⟩:Ev) Q7),(Ae Q2 Q2),(D0 (⟨(⟨m.d.plan,2,[(⟨m.d.plan.root,u⟩:Lev)],(⟨0,0⟩:Scn),m.d.start,m.d.at_,m.d.field,m.d.wire,m.d.want,m.d.utf,m.d.end_⟩:Dcd),m.out++[(⟨1,0,0,u,[],0,0⟩:Ev)]⟩:Mac) (Pv hp1 rfl rfl hp3.1 Q2) Q15),?_⟩
 refine have hm1:Cs m u=(Ac (⟨(⟨m.d.plan,2,[(⟨m.d.plan.root,u⟩:Lev)],(⟨0,0⟩:Scn),m.d.start,m.d.at_,m.d.field,m.d.wire,m.d.want,m.d.utf,m.d.end_⟩:Dcd),m.out++[(⟨1,0,0,u,[],0,0⟩:Ev)]⟩:Mac)):=?_;?_
 rotate_left
 exact⟨rfl,Q5⟩
 all_goals first|(simp_all[Cs,A0,A1,Ad5,scn0];done)|(grind[Cs,A0,A1,Ad5,scn0])
theorem Ajv (m:Mac) (u:Int) (hp1:A7 (m).d=true) (hp2:List.length (m).out≤100000000) (hp3:(0:Int)≤u∧u≤18446744073709551615):Fun Tryz.prog 179 [vP 0,.c (.int .u64 u)] [.cells (Ab 1 2 3 m),.tree m.d.plan.shapes,.lst .lev m.d.stack,.lst .ev m.out] (.tup []) [.cells (Ab 4 5 6 (D6 m u)),.dead,.dead,.dead,.tree (D6 m u).d.plan.shapes,.lst .lev (D6 m u).d.stack,.lst .ev (D6 m u).out]:=by
 have hN:Bg=274877906944:=rfl
 have hlv:=B0 hp1
 have hpt:=B6 hlv.1
 have htb:=Gk hp1
 have hwm:=Acw m
 have htw:=Ahn u
 have hmx:max (Ay (Aj u)) 1=if 1>Ay (Aj u) then 1 else Ay (Aj u):=by split<;>omega
 refine Ar Tryz.func179 Q4 Q4 (w:=let zi:Int→C:= .int .i64;let z9:List C:=[zi m.d.want,zi m.d.utf.want,zi m.d.utf.low,zi m.d.utf.high,zi m.d.end_.kind,zi m.d.end_.field,.int .u64 m.d.end_.bits,zi m.d.end_.len,.str m.d.end_.text,zi m.d.end_.code,zi m.d.end_.at_,.own 3];let z8:List C:= .own 1::zi m.d.plan.root::zi m.d.plan.deep::zi m.d.plan.most::zi m.d.mode:: .own 2:: .int .u64 0::zi 0::zi m.d.start::zi m.d.at_::zi m.d.field.number::zi m.d.field.kind:: .bool m.d.field.rep:: .bool m.d.field.packed::zi m.d.field.msg::zi m.d.wire::z9;let z13:List Blk:=[.cells (Ab 4 5 6 (D6 m u)),.dead,.dead,.dead,.tree (D6 m u).d.plan.shapes,.lst .lev (D6 m u).d.stack,.lst .ev (D6 m u).out];let z16:=(⟨0,0⟩:Scn);let z12:=(⟨m.d.plan,m.d.mode,m.d.stack,z16,m.d.start,m.d.at_,m.d.field,m.d.wire,m.d.want,m.d.utf,m.d.end_⟩:Dcd);let z15:=A0 (⟨z12,m.out⟩:Mac) 2 m.d.start;let z17:=((List.length m.d.stack:Nat):Int);let z18:=A0 (⟨z12,m.out⟩:Mac) 3 m.d.start;let z19:=A0 (⟨z12,m.out⟩:Mac) 4 m.d.start;let z20:=Aj u;let z10:List C:=[zi z20,zi m.d.want,zi m.d.utf.want,zi m.d.utf.low,zi m.d.utf.high,zi m.d.end_.kind,zi m.d.end_.field,.int .u64 m.d.end_.bits,zi m.d.end_.len,.str m.d.end_.text,zi m.d.end_.code,zi m.d.end_.at_,.own 6];let z11:List C:=[zi z20,zi m.d.want,zi m.d.utf.want,zi m.d.utf.low,zi m.d.utf.high,zi m.d.end_.kind,zi m.d.end_.field,.int .u64 m.d.end_.bits,zi m.d.end_.len,.str m.d.end_.text,zi m.d.end_.code,zi m.d.end_.at_];let z14:=decide (Dh m.d<(if 1>(Ay z20) then 1 else Ay z20));let z21:List Blk:=[.cells (Ab 1 2 4 z15),.tree z15.d.plan.shapes,.lst .lev z15.d.stack,.dead,.lst .ev z15.out];let z22:List Blk:=[.cells z8,.tree m.d.plan.shapes,.lst .lev m.d.stack,.lst .ev m.out];let z23:=vI (Ay z20);let z24:=(.tup []:S);let z25:=vI (Dh m.d);let z26:=([.cells (Ab 4 5 6 z15),.dead,.dead,.dead,.tree z15.d.plan.shapes,.lst .lev z15.d.stack,.lst .ev z15.out]:List Blk);let z27:List V:=[vP 0,vI 9,vI m.d.at_];let z28:List Blk:=[.cells (Ab 1 2 4 z18),.tree z18.d.plan.shapes,.lst .lev z18.d.stack,.dead,.lst .ev z18.out];let z29:List Blk:=[.cells (Ab 1 2 4 z19),.tree z19.d.plan.shapes,.lst .lev z19.d.stack,.dead,.lst .ev z19.out];let z30:=decide (Aj u=0);let z31:=decide (Aj u=2);let z32:=(.v (vI (IntKind.i64.wrap (z17-1))):S)= .v (vI (z17-1));let z33:=Bu u;(.seg [.call [] (.tup [vI z33,vI z20,vB (Hr u)]) []] (.br (.seg [.call [0,1,2,3] (.tup []) z21,.at 0,.cut 0 0,.cut 0 5] (.leaf () [0,1,2,3,5,6,4])) (.br (.seg [.call [0,1,2,3] (.tup []) z21,.at 0,.cut 0 0,.cut 0 5] (.leaf () [0,1,2,3,5,6,4])) (.intro (fun (x1:Lev)=>m.d.stack[Int.toNat (z17-1)]? =some x1) fun x1=>let z4:=fieldAt m.d.plan.shapes x1.msg z33;let z1:=A0 (⟨(⟨m.d.plan,3,m.d.stack,z16,m.d.start,m.d.at_,(z4.getD fld0),Aj u,m.d.want,m.d.utf,m.d.end_⟩:Dcd),m.out⟩:Mac) 9 m.d.at_;let z2:=A0 (⟨(⟨m.d.plan,4,m.d.stack,z16,m.d.start,m.d.at_,(z4.getD fld0),Aj u,m.d.want,m.d.utf,m.d.end_⟩:Dcd),m.out⟩:Mac) 9 m.d.at_;let z3:=A0 (⟨(⟨m.d.plan,5,m.d.stack,z16,m.d.start,m.d.at_,(z4.getD fld0),Aj u,m.d.want,m.d.utf,m.d.end_⟩:Dcd),m.out⟩:Mac) 9 m.d.at_;.seg [.tree (fr (.two 22 (fr (.one 26 (.one 27 (.first 28 (.done)))) 23 3) 26 (.one 22 (fr (.one 27 (.first 28 (.done))) 23 3))) 0 22) 29 [],.as 56 (.v (vI (z17-1))),.el .lev x1,.call [] (.tup [.agg (Fm (z4.getD fld0)),vB z4.isSome]) [],.at 0,.keep [0,5,7,8],.sel [0,1,2,3,4],.call [] (.tup [.agg (Fm (z4.getD fld0)),vB z4.isSome]) [],.at 0,.keep [0,5,7,8],.sel [0,1,2,3,4],.call [] (.v (vB (Dx z20))) []] (.br (.seg [.call [0,1,2,3] (.tup []) z28,.at 0,.cut 0 0,.cut 0 5] (.leaf () [0,1,2,3,6,7,5])) (.br (.seg [.call [] (.v (vB (Cy (z4.getD fld0) z20))) []] (.br (.seg [.call [0,1,2,3] (.tup []) z29,.at 0,.cut 0 0,.cut 0 5] (.leaf () [0,1,2,3,6,7,5])) (.br (.seg [.call [] (.v z25) [],.call [] (.v z23) []] (.br (.seg [.call [0,1,2,3] (.tup []) [.cells (Ab 1 2 4 z1),.tree z1.d.plan.shapes,.lst .lev z1.d.stack,.dead,.lst .ev z1.out],.at 0,.cut 0 0,.cut 0 5] (.leaf () [0,1,2,3,6,7,5])) (.seg [.at 0,.cut 0 0,.cut 0 5,.cut 0 27] (.leaf () [0,1,2,3,5,6,7])))) (.br (.seg [.call [] (.v z25) [],.call [] (.v z23) []] (.br (.seg [.call [0,1,2,3] (.tup []) [.cells (Ab 1 2 4 z2),.tree z2.d.plan.shapes,.lst .lev z2.d.stack,.dead,.lst .ev z2.out],.at 0,.cut 0 0,.cut 0 5] (.leaf () [0,1,2,3,6,7,5])) (.seg [.at 0,.cut 0 0,.cut 0 5,.cut 0 27] (.leaf () [0,1,2,3,5,6,7])))) (.seg [.call [] (.v z25) [],.call [] (.v z23) []] (.br (.seg [.call [0,1,2,3] (.tup []) [.cells (Ab 1 2 4 z3),.tree z3.d.plan.shapes,.lst .lev z3.d.stack,.dead,.lst .ev z3.out],.at 0,.cut 0 0,.cut 0 5] (.leaf () [0,1,2,3,6,7,5])) (.seg [.at 0,.cut 0 0,.cut 0 5,.cut 0 27] (.leaf () [0,1,2,3,5,6,7])))))))) (.br (.seg [.call [] (.v z25) [],.call [] (.v z23) []] (.br (.seg [.call [0,1,2,3] (.tup []) [.cells (Ab 1 2 4 z1),.tree z1.d.plan.shapes,.lst .lev z1.d.stack,.dead,.lst .ev z1.out],.at 0,.cut 0 0,.cut 0 5] (.leaf () [0,1,2,3,6,7,5])) (.seg [.at 0,.cut 0 0,.cut 0 5,.cut 0 27] (.leaf () [0,1,2,3,5,6,7])))) (.br (.seg [.call [] (.v z25) [],.call [] (.v z23) []] (.br (.seg [.call [0,1,2,3] (.tup []) [.cells (Ab 1 2 4 z2),.tree z2.d.plan.shapes,.lst .lev z2.d.stack,.dead,.lst .ev z2.out],.at 0,.cut 0 0,.cut 0 5] (.leaf () [0,1,2,3,6,7,5])) (.seg [.at 0,.cut 0 0,.cut 0 5,.cut 0 27] (.leaf () [0,1,2,3,5,6,7])))) (.seg [.call [] (.v z25) [],.call [] (.v z23) []] (.br (.seg [.call [0,1,2,3] (.tup []) [.cells (Ab 1 2 4 z3),.tree z3.d.plan.shapes,.lst .lev z3.d.stack,.dead,.lst .ev z3.out],.at 0,.cut 0 0,.cut 0 5] (.leaf () [0,1,2,3,6,7,5])) (.seg [.at 0,.cut 0 0,.cut 0 5,.cut 0 27] (.leaf () [0,1,2,3,5,6,7]))))))))))),(Fun Tryz.prog 160 [.c (.int .u64 u)] [] (.tup [vI z33,vI z20,vB (Hr u)]) [])∧((!(Hr u))=true→(Fun Tryz.prog 94 [vP 0,vI 2,vI m.d.start] z22 (.tup []) z21)∧z24= .tup []∧z26=z13)∧((!(Hr u))=false→((decide (z17=0))=true→(Fun Tryz.prog 94 [vP 0,vI 2,vI m.d.start] z22 (.tup []) z21)∧z24= .tup []∧z26=z13)∧((decide (z17=0))=false→(∃(x1:Lev),m.d.stack[Int.toNat (z17-1)]? =some x1)∧∀(x1:Lev),(m.d.stack[Int.toNat (z17-1)]? =some x1)→(let z6:=fieldAt m.d.plan.shapes x1.msg z33;let z5:=z6.getD fld0;let z7:=m.d.stack[Int.toNat (z17-1)]? =some x1;z32∧z32∧(z17-1<z17)∧((0:Int)≤z17-1)∧(z17-1<z17)∧((0:Int)≤z17-1)∧z7∧z7∧(Fun Tryz.prog 140 [.agg [.seq .shp m.d.plan.shapes],vI x1.msg,vI z33] [] (.tup [.agg (Fm z5),vB z6.isSome]) [])∧(Fun Tryz.prog 140 [.agg [.seq .shp m.d.plan.shapes],vI x1.msg,vI z33] [] (.tup [.agg (Fm z5),vB z6.isSome]) [])∧(([.cells z8,.tree m.d.plan.shapes,.lst .lev m.d.stack,.lst .ev m.out,.cells (Fm z5)]:List Blk)=[.cells z8,.tree m.d.plan.shapes,.lst .lev m.d.stack,.lst .ev m.out,.cells (Fm z5)])∧(([(0,.v (vP 0)),(5,.v (vI z20)),(7,.v (vP 4)),(8,.v (vB z6.isSome))]:List (Nat×S))=[(0,.v (vP 0)),(5,.v (vI z20)),(7,.v (vP 4)),(8,.v (vB z6.isSome))])∧(Fun Tryz.prog 81 [vI z20] [] (.v (vB (Dx z20))) [])∧((!(Dx z20))=true→(Fun Tryz.prog 94 [vP 0,vI 3,vI m.d.start] z22 (.tup []) z28)∧z24= .tup []∧([.cells (Ab 4 5 6 z18),.dead,.dead,.dead,.tree z18.d.plan.shapes,.lst .lev z18.d.stack,.lst .ev z18.out]:List Blk)=z13)∧((!(Dx z20))=false→(z6.isSome=true→(Fun Tryz.prog 145 [.agg (Fm z5),vI z20] [] (.v (vB (Cy z5 z20))) [])∧((!(Cy z5 z20))=true→(Fun Tryz.prog 94 [vP 0,vI 4,vI m.d.start] z22 (.tup []) z29)∧z24= .tup []∧([.cells (Ab 4 5 6 z19),.dead,.dead,.dead,.tree z19.d.plan.shapes,.lst .lev z19.d.stack,.lst .ev z19.out]:List Blk)=z13)∧((!(Cy z5 z20))=false→(z30=true→(Fun Tryz.prog 85 [.agg (.seq .shp m.d.plan.shapes::zi m.d.plan.root::zi m.d.plan.deep::zi m.d.plan.most::zi 3:: .seq .lev m.d.stack:: .int .u64 0::zi 0::zi m.d.start::zi m.d.at_::zi z5.number::zi z5.kind:: .bool z5.rep:: .bool z5.packed::zi z5.msg::z11)] [] (.v z25) [])∧(Fun Tryz.prog 146 [vI z20] [] (.v z23) [])∧(z14=true→(Fun Tryz.prog 94 z27 [.cells (.own 1::zi m.d.plan.root::zi m.d.plan.deep::zi m.d.plan.most::zi 3:: .own 2:: .int .u64 0::zi 0::zi m.d.start::zi m.d.at_::zi z5.number::zi z5.kind:: .bool z5.rep:: .bool z5.packed::zi z5.msg::zi z20::z9),.tree m.d.plan.shapes,.lst .lev m.d.stack,.lst .ev m.out] (.tup []) [.cells (Ab 1 2 4 (A0 (⟨(⟨m.d.plan,3,m.d.stack,z16,m.d.start,m.d.at_,z5,Aj u,m.d.want,m.d.utf,m.d.end_⟩:Dcd),m.out⟩:Mac) 9 m.d.at_)),.tree (A0 (⟨(⟨m.d.plan,3,m.d.stack,z16,m.d.start,m.d.at_,z5,Aj u,m.d.want,m.d.utf,m.d.end_⟩:Dcd),m.out⟩:Mac) 9 m.d.at_).d.plan.shapes,.lst .lev (A0 (⟨(⟨m.d.plan,3,m.d.stack,z16,m.d.start,m.d.at_,z5,Aj u,m.d.want,m.d.utf,m.d.end_⟩:Dcd),m.out⟩:Mac) 9 m.d.at_).d.stack,.dead,.lst .ev (A0 (⟨(⟨m.d.plan,3,m.d.stack,z16,m.d.start,m.d.at_,z5,Aj u,m.d.want,m.d.utf,m.d.end_⟩:Dcd),m.out⟩:Mac) 9 m.d.at_).out])∧z24= .tup []∧([.cells (Ab 4 5 6 (A0 (⟨(⟨m.d.plan,3,m.d.stack,z16,m.d.start,m.d.at_,z5,Aj u,m.d.want,m.d.utf,m.d.end_⟩:Dcd),m.out⟩:Mac) 9 m.d.at_)),.dead,.dead,.dead,.tree (A0 (⟨(⟨m.d.plan,3,m.d.stack,z16,m.d.start,m.d.at_,z5,Aj u,m.d.want,m.d.utf,m.d.end_⟩:Dcd),m.out⟩:Mac) 9 m.d.at_).d.plan.shapes,.lst .lev (A0 (⟨(⟨m.d.plan,3,m.d.stack,z16,m.d.start,m.d.at_,z5,Aj u,m.d.want,m.d.utf,m.d.end_⟩:Dcd),m.out⟩:Mac) 9 m.d.at_).d.stack,.lst .ev (A0 (⟨(⟨m.d.plan,3,m.d.stack,z16,m.d.start,m.d.at_,z5,Aj u,m.d.want,m.d.utf,m.d.end_⟩:Dcd),m.out⟩:Mac) 9 m.d.at_).out]:List Blk)=z13)∧(z14=false→z24= .tup []∧([.cells (.own 4::zi m.d.plan.root::zi m.d.plan.deep::zi m.d.plan.most::zi 3:: .own 5:: .int .u64 0::zi 0::zi m.d.start::zi m.d.at_::zi z5.number::zi z5.kind:: .bool z5.rep:: .bool z5.packed::zi z5.msg::z10),.dead,.dead,.dead,.tree m.d.plan.shapes,.lst .lev m.d.stack,.lst .ev m.out]:List Blk)=z13))∧(z30=false→(z31=true→(Fun Tryz.prog 85 [.agg (.seq .shp m.d.plan.shapes::zi m.d.plan.root::zi m.d.plan.deep::zi m.d.plan.most::zi 4:: .seq .lev m.d.stack:: .int .u64 0::zi 0::zi m.d.start::zi m.d.at_::zi z5.number::zi z5.kind:: .bool z5.rep:: .bool z5.packed::zi z5.msg::z11)] [] (.v z25) [])∧(Fun Tryz.prog 146 [vI z20] [] (.v z23) [])∧(z14=true→(Fun Tryz.prog 94 z27 [.cells (.own 1::zi m.d.plan.root::zi m.d.plan.deep::zi m.d.plan.most::zi 4:: .own 2:: .int .u64 0::zi 0::zi m.d.start::zi m.d.at_::zi z5.number::zi z5.kind:: .bool z5.rep:: .bool z5.packed::zi z5.msg::zi z20::z9),.tree m.d.plan.shapes,.lst .lev m.d.stack,.lst .ev m.out] (.tup []) [.cells (Ab 1 2 4 (A0 (⟨(⟨m.d.plan,4,m.d.stack,z16,m.d.start,m.d.at_,z5,Aj u,m.d.want,m.d.utf,m.d.end_⟩:Dcd),m.out⟩:Mac) 9 m.d.at_)),.tree (A0 (⟨(⟨m.d.plan,4,m.d.stack,z16,m.d.start,m.d.at_,z5,Aj u,m.d.want,m.d.utf,m.d.end_⟩:Dcd),m.out⟩:Mac) 9 m.d.at_).d.plan.shapes,.lst .lev (A0 (⟨(⟨m.d.plan,4,m.d.stack,z16,m.d.start,m.d.at_,z5,Aj u,m.d.want,m.d.utf,m.d.end_⟩:Dcd),m.out⟩:Mac) 9 m.d.at_).d.stack,.dead,.lst .ev (A0 (⟨(⟨m.d.plan,4,m.d.stack,z16,m.d.start,m.d.at_,z5,Aj u,m.d.want,m.d.utf,m.d.end_⟩:Dcd),m.out⟩:Mac) 9 m.d.at_).out])∧z24= .tup []∧([.cells (Ab 4 5 6 (A0 (⟨(⟨m.d.plan,4,m.d.stack,z16,m.d.start,m.d.at_,z5,Aj u,m.d.want,m.d.utf,m.d.end_⟩:Dcd),m.out⟩:Mac) 9 m.d.at_)),.dead,.dead,.dead,.tree (A0 (⟨(⟨m.d.plan,4,m.d.stack,z16,m.d.start,m.d.at_,z5,Aj u,m.d.want,m.d.utf,m.d.end_⟩:Dcd),m.out⟩:Mac) 9 m.d.at_).d.plan.shapes,.lst .lev (A0 (⟨(⟨m.d.plan,4,m.d.stack,z16,m.d.start,m.d.at_,z5,Aj u,m.d.want,m.d.utf,m.d.end_⟩:Dcd),m.out⟩:Mac) 9 m.d.at_).d.stack,.lst .ev (A0 (⟨(⟨m.d.plan,4,m.d.stack,z16,m.d.start,m.d.at_,z5,Aj u,m.d.want,m.d.utf,m.d.end_⟩:Dcd),m.out⟩:Mac) 9 m.d.at_).out]:List Blk)=z13)∧(z14=false→z24= .tup []∧([.cells (.own 4::zi m.d.plan.root::zi m.d.plan.deep::zi m.d.plan.most::zi 4:: .own 5:: .int .u64 0::zi 0::zi m.d.start::zi m.d.at_::zi z5.number::zi z5.kind:: .bool z5.rep:: .bool z5.packed::zi z5.msg::z10),.dead,.dead,.dead,.tree m.d.plan.shapes,.lst .lev m.d.stack,.lst .ev m.out]:List Blk)=z13))∧(z31=false→(Fun Tryz.prog 85 [.agg (.seq .shp m.d.plan.shapes::zi m.d.plan.root::zi m.d.plan.deep::zi m.d.plan.most::zi 5:: .seq .lev m.d.stack:: .int .u64 0::zi 0::zi m.d.start::zi m.d.at_::zi z5.number::zi z5.kind:: .bool z5.rep:: .bool z5.packed::zi z5.msg::z11)] [] (.v z25) [])∧(Fun Tryz.prog 146 [vI z20] [] (.v z23) [])∧(z14=true→(Fun Tryz.prog 94 z27 [.cells (.own 1::zi m.d.plan.root::zi m.d.plan.deep::zi m.d.plan.most::zi 5:: .own 2:: .int .u64 0::zi 0::zi m.d.start::zi m.d.at_::zi z5.number::zi z5.kind:: .bool z5.rep:: .bool z5.packed::zi z5.msg::zi z20::z9),.tree m.d.plan.shapes,.lst .lev m.d.stack,.lst .ev m.out] (.tup []) [.cells (Ab 1 2 4 (A0 (⟨(⟨m.d.plan,5,m.d.stack,z16,m.d.start,m.d.at_,z5,Aj u,m.d.want,m.d.utf,m.d.end_⟩:Dcd),m.out⟩:Mac) 9 m.d.at_)),.tree (A0 (⟨(⟨m.d.plan,5,m.d.stack,z16,m.d.start,m.d.at_,z5,Aj u,m.d.want,m.d.utf,m.d.end_⟩:Dcd),m.out⟩:Mac) 9 m.d.at_).d.plan.shapes,.lst .lev (A0 (⟨(⟨m.d.plan,5,m.d.stack,z16,m.d.start,m.d.at_,z5,Aj u,m.d.want,m.d.utf,m.d.end_⟩:Dcd),m.out⟩:Mac) 9 m.d.at_).d.stack,.dead,.lst .ev (A0 (⟨(⟨m.d.plan,5,m.d.stack,z16,m.d.start,m.d.at_,z5,Aj u,m.d.want,m.d.utf,m.d.end_⟩:Dcd),m.out⟩:Mac) 9 m.d.at_).out])∧z24= .tup []∧([.cells (Ab 4 5 6 (A0 (⟨(⟨m.d.plan,5,m.d.stack,z16,m.d.start,m.d.at_,z5,Aj u,m.d.want,m.d.utf,m.d.end_⟩:Dcd),m.out⟩:Mac) 9 m.d.at_)),.dead,.dead,.dead,.tree (A0 (⟨(⟨m.d.plan,5,m.d.stack,z16,m.d.start,m.d.at_,z5,Aj u,m.d.want,m.d.utf,m.d.end_⟩:Dcd),m.out⟩:Mac) 9 m.d.at_).d.plan.shapes,.lst .lev (A0 (⟨(⟨m.d.plan,5,m.d.stack,z16,m.d.start,m.d.at_,z5,Aj u,m.d.want,m.d.utf,m.d.end_⟩:Dcd),m.out⟩:Mac) 9 m.d.at_).d.stack,.lst .ev (A0 (⟨(⟨m.d.plan,5,m.d.stack,z16,m.d.start,m.d.at_,z5,Aj u,m.d.want,m.d.utf,m.d.end_⟩:Dcd),m.out⟩:Mac) 9 m.d.at_).out]:List Blk)=z13)∧(z14=false→z24= .tup []∧([.cells (.own 4::zi m.d.plan.root::zi m.d.plan.deep::zi m.d.plan.most::zi 5:: .own 5:: .int .u64 0::zi 0::zi m.d.start::zi m.d.at_::zi z5.number::zi z5.kind:: .bool z5.rep:: .bool z5.packed::zi z5.msg::z10),.dead,.dead,.dead,.tree m.d.plan.shapes,.lst .lev m.d.stack,.lst .ev m.out]:List Blk)=z13)))))∧(z6.isSome=false→(z30=true→(Fun Tryz.prog 85 [.agg (.seq .shp m.d.plan.shapes::zi m.d.plan.root::zi m.d.plan.deep::zi m.d.plan.most::zi 3:: .seq .lev m.d.stack:: .int .u64 0::zi 0::zi m.d.start::zi m.d.at_::zi z5.number::zi z5.kind:: .bool z5.rep:: .bool z5.packed::zi z5.msg::z11)] [] (.v z25) [])∧(Fun Tryz.prog 146 [vI z20] [] (.v z23) [])∧(z14=true→(Fun Tryz.prog 94 z27 [.cells (.own 1::zi m.d.plan.root::zi m.d.plan.deep::zi m.d.plan.most::zi 3:: .own 2:: .int .u64 0::zi 0::zi m.d.start::zi m.d.at_::zi z5.number::zi z5.kind:: .bool z5.rep:: .bool z5.packed::zi z5.msg::zi z20::z9),.tree m.d.plan.shapes,.lst .lev m.d.stack,.lst .ev m.out] (.tup []) [.cells (Ab 1 2 4 (A0 (⟨(⟨m.d.plan,3,m.d.stack,z16,m.d.start,m.d.at_,z5,Aj u,m.d.want,m.d.utf,m.d.end_⟩:Dcd),m.out⟩:Mac) 9 m.d.at_)),.tree (A0 (⟨(⟨m.d.plan,3,m.d.stack,z16,m.d.start,m.d.at_,z5,Aj u,m.d.want,m.d.utf,m.d.end_⟩:Dcd),m.out⟩:Mac) 9 m.d.at_).d.plan.shapes,.lst .lev (A0 (⟨(⟨m.d.plan,3,m.d.stack,z16,m.d.start,m.d.at_,z5,Aj u,m.d.want,m.d.utf,m.d.end_⟩:Dcd),m.out⟩:Mac) 9 m.d.at_).d.stack,.dead,.lst .ev (A0 (⟨(⟨m.d.plan,3,m.d.stack,z16,m.d.start,m.d.at_,z5,Aj u,m.d.want,m.d.utf,m.d.end_⟩:Dcd),m.out⟩:Mac) 9 m.d.at_).out])∧z24= .tup []∧([.cells (Ab 4 5 6 (A0 (⟨(⟨m.d.plan,3,m.d.stack,z16,m.d.start,m.d.at_,z5,Aj u,m.d.want,m.d.utf,m.d.end_⟩:Dcd),m.out⟩:Mac) 9 m.d.at_)),.dead,.dead,.dead,.tree (A0 (⟨(⟨m.d.plan,3,m.d.stack,z16,m.d.start,m.d.at_,z5,Aj u,m.d.want,m.d.utf,m.d.end_⟩:Dcd),m.out⟩:Mac) 9 m.d.at_).d.plan.shapes,.lst .lev (A0 (⟨(⟨m.d.plan,3,m.d.stack,z16,m.d.start,m.d.at_,z5,Aj u,m.d.want,m.d.utf,m.d.end_⟩:Dcd),m.out⟩:Mac) 9 m.d.at_).d.stack,.lst .ev (A0 (⟨(⟨m.d.plan,3,m.d.stack,z16,m.d.start,m.d.at_,z5,Aj u,m.d.want,m.d.utf,m.d.end_⟩:Dcd),m.out⟩:Mac) 9 m.d.at_).out]:List Blk)=z13)∧(z14=false→z24= .tup []∧([.cells (.own 4::zi m.d.plan.root::zi m.d.plan.deep::zi m.d.plan.most::zi 3:: .own 5:: .int .u64 0::zi 0::zi m.d.start::zi m.d.at_::zi z5.number::zi z5.kind:: .bool z5.rep:: .bool z5.packed::zi z5.msg::z10),.dead,.dead,.dead,.tree m.d.plan.shapes,.lst .lev m.d.stack,.lst .ev m.out]:List Blk)=z13))∧(z30=false→(z31=true→(Fun Tryz.prog 85 [.agg (.seq .shp m.d.plan.shapes::zi m.d.plan.root::zi m.d.plan.deep::zi m.d.plan.most::zi 4:: .seq .lev m.d.stack:: .int .u64 0::zi 0::zi m.d.start::zi m.d.at_::zi z5.number::zi z5.kind:: .bool z5.rep:: .bool z5.packed::zi z5.msg::z11)] [] (.v z25) [])∧(Fun Tryz.prog 146 [vI z20] [] (.v z23) [])∧(z14=true→(Fun Tryz.prog 94 z27 [.cells (.own 1::zi m.d.plan.root::zi m.d.plan.deep::zi m.d.plan.most::zi 4:: .own 2:: .int .u64 0::zi 0::zi m.d.start::zi m.d.at_::zi z5.number::zi z5.kind:: .bool z5.rep:: .bool z5.packed::zi z5.msg::zi z20::z9),.tree m.d.plan.shapes,.lst .lev m.d.stack,.lst .ev m.out] (.tup []) [.cells (Ab 1 2 4 (A0 (⟨(⟨m.d.plan,4,m.d.stack,z16,m.d.start,m.d.at_,z5,Aj u,m.d.want,m.d.utf,m.d.end_⟩:Dcd),m.out⟩:Mac) 9 m.d.at_)),.tree (A0 (⟨(⟨m.d.plan,4,m.d.stack,z16,m.d.start,m.d.at_,z5,Aj u,m.d.want,m.d.utf,m.d.end_⟩:Dcd),m.out⟩:Mac) 9 m.d.at_).d.plan.shapes,.lst .lev (A0 (⟨(⟨m.d.plan,4,m.d.stack,z16,m.d.start,m.d.at_,z5,Aj u,m.d.want,m.d.utf,m.d.end_⟩:Dcd),m.out⟩:Mac) 9 m.d.at_).d.stack,.dead,.lst .ev (A0 (⟨(⟨m.d.plan,4,m.d.stack,z16,m.d.start,m.d.at_,z5,Aj u,m.d.want,m.d.utf,m.d.end_⟩:Dcd),m.out⟩:Mac) 9 m.d.at_).out])∧z24= .tup []∧([.cells (Ab 4 5 6 (A0 (⟨(⟨m.d.plan,4,m.d.stack,z16,m.d.start,m.d.at_,z5,Aj u,m.d.want,m.d.utf,m.d.end_⟩:Dcd),m.out⟩:Mac) 9 m.d.at_)),.dead,.dead,.dead,.tree (A0 (⟨(⟨m.d.plan,4,m.d.stack,z16,m.d.start,m.d.at_,z5,Aj u,m.d.want,m.d.utf,m.d.end_⟩:Dcd),m.out⟩:Mac) 9 m.d.at_).d.plan.shapes,.lst .lev (A0 (⟨(⟨m.d.plan,4,m.d.stack,z16,m.d.start,m.d.at_,z5,Aj u,m.d.want,m.d.utf,m.d.end_⟩:Dcd),m.out⟩:Mac) 9 m.d.at_).d.stack,.lst .ev (A0 (⟨(⟨m.d.plan,4,m.d.stack,z16,m.d.start,m.d.at_,z5,Aj u,m.d.want,m.d.utf,m.d.end_⟩:Dcd),m.out⟩:Mac) 9 m.d.at_).out]:List Blk)=z13)∧(z14=false→z24= .tup []∧([.cells (.own 4::zi m.d.plan.root::zi m.d.plan.deep::zi m.d.plan.most::zi 4:: .own 5:: .int .u64 0::zi 0::zi m.d.start::zi m.d.at_::zi z5.number::zi z5.kind:: .bool z5.rep:: .bool z5.packed::zi z5.msg::z10),.dead,.dead,.dead,.tree m.d.plan.shapes,.lst .lev m.d.stack,.lst .ev m.out]:List Blk)=z13))∧(z31=false→(Fun Tryz.prog 85 [.agg (.seq .shp m.d.plan.shapes::zi m.d.plan.root::zi m.d.plan.deep::zi m.d.plan.most::zi 5:: .seq .lev m.d.stack:: .int .u64 0::zi 0::zi m.d.start::zi m.d.at_::zi z5.number::zi z5.kind:: .bool z5.rep:: .bool z5.packed::zi z5.msg::z11)] [] (.v z25) [])∧(Fun Tryz.prog 146 [vI z20] [] (.v z23) [])∧(z14=true→(Fun Tryz.prog 94 z27 [.cells (.own 1::zi m.d.plan.root::zi m.d.plan.deep::zi m.d.plan.most::zi 5:: .own 2:: .int .u64 0::zi 0::zi m.d.start::zi m.d.at_::zi z5.number::zi z5.kind:: .bool z5.rep:: .bool z5.packed::zi z5.msg::zi z20::z9),.tree m.d.plan.shapes,.lst .lev m.d.stack,.lst .ev m.out] (.tup []) [.cells (Ab 1 2 4 (A0 (⟨(⟨m.d.plan,5,m.d.stack,z16,m.d.start,m.d.at_,z5,Aj u,m.d.want,m.d.utf,m.d.end_⟩:Dcd),m.out⟩:Mac) 9 m.d.at_)),.tree (A0 (⟨(⟨m.d.plan,5,m.d.stack,z16,m.d.start,m.d.at_,z5,Aj u,m.d.want,m.d.utf,m.d.end_⟩:Dcd),m.out⟩:Mac) 9 m.d.at_).d.plan.shapes,.lst .lev (A0 (⟨(⟨m.d.plan,5,m.d.stack,z16,m.d.start,m.d.at_,z5,Aj u,m.d.want,m.d.utf,m.d.end_⟩:Dcd),m.out⟩:Mac) 9 m.d.at_).d.stack,.dead,.lst .ev (A0 (⟨(⟨m.d.plan,5,m.d.stack,z16,m.d.start,m.d.at_,z5,Aj u,m.d.want,m.d.utf,m.d.end_⟩:Dcd),m.out⟩:Mac) 9 m.d.at_).out])∧z24= .tup []∧([.cells (Ab 4 5 6 (A0 (⟨(⟨m.d.plan,5,m.d.stack,z16,m.d.start,m.d.at_,z5,Aj u,m.d.want,m.d.utf,m.d.end_⟩:Dcd),m.out⟩:Mac) 9 m.d.at_)),.dead,.dead,.dead,.tree (A0 (⟨(⟨m.d.plan,5,m.d.stack,z16,m.d.start,m.d.at_,z5,Aj u,m.d.want,m.d.utf,m.d.end_⟩:Dcd),m.out⟩:Mac) 9 m.d.at_).d.plan.shapes,.lst .lev (A0 (⟨(⟨m.d.plan,5,m.d.stack,z16,m.d.start,m.d.at_,z5,Aj u,m.d.want,m.d.utf,m.d.end_⟩:Dcd),m.out⟩:Mac) 9 m.d.at_).d.stack,.lst .ev (A0 (⟨(⟨m.d.plan,5,m.d.stack,z16,m.d.start,m.d.at_,z5,Aj u,m.d.want,m.d.utf,m.d.end_⟩:Dcd),m.out⟩:Mac) 9 m.d.at_).out]:List Blk)=z13)∧(z14=false→z24= .tup []∧([.cells (.own 4::zi m.d.plan.root::zi m.d.plan.deep::zi m.d.plan.most::zi 5:: .own 5:: .int .u64 0::zi 0::zi m.d.start::zi m.d.at_::zi z5.number::zi z5.kind:: .bool z5.rep:: .bool z5.packed::zi z5.msg::z10),.dead,.dead,.dead,.tree m.d.plan.shapes,.lst .lev m.d.stack,.lst .ev m.out]:List Blk)=z13)))))))))) Q4 ?_
 refine⟨(Aig _ Q2),fun h1=>have q1:=Ap h1;?_,fun h1=>have q1:=Ao h1;?_⟩
 refine⟨(B4 (⟨(⟨m.d.plan,m.d.mode,m.d.stack,(⟨0,0⟩:Scn),m.d.start,m.d.at_,m.d.field,m.d.wire,m.d.want,m.d.utf,m.d.end_⟩:Dcd),m.out⟩:Mac) _ _ Q7),?_⟩
 refine have hm1:D6 m u=(A0 (⟨(⟨m.d.plan,m.d.mode,m.d.stack,(⟨0,0⟩:Scn),m.d.start,m.d.at_,m.d.field,m.d.wire,m.d.want,m.d.utf,m.d.end_⟩:Dcd),m.out⟩:Mac) 2 m.d.start):=?_;?_
 rotate_left
 exact⟨rfl,Q5⟩
 refine dsp (fun h2 p2=>?_) fun h2 p2=>?_
 refine⟨(B4 (⟨(⟨m.d.plan,m.d.mode,m.d.stack,(⟨0,0⟩:Scn),m.d.start,m.d.at_,m.d.field,m.d.wire,m.d.want,m.d.utf,m.d.end_⟩:Dcd),m.out⟩:Mac) _ _ Q7),?_⟩
 refine have hm1:D6 m u=(A0 (⟨(⟨m.d.plan,m.d.mode,m.d.stack,(⟨0,0⟩:Scn),m.d.start,m.d.at_,m.d.field,m.d.wire,m.d.want,m.d.utf,m.d.end_⟩:Dcd),m.out⟩:Mac) 2 m.d.start):=?_;?_
 rotate_left
 exact⟨rfl,Q5⟩
 refine⟨(Bm (l:=m.d.stack) (i:=Int.toNat (((List.length m.d.stack:Nat):Int)-1)) Q2),fun x1 hx1=>?_⟩
 have hll:=Hs (d:=m.d) (by rw[←hx1];congr 1;omega)
 have hix:Int.toNat ((m.d.stack.length:Int)-1)=m.d.stack.length-1:=by omega
 refine⟨(Ae Q2 Q2),(Ae Q2 Q2),Q2,Q2,Q2,Q2,hx1,hx1,(Uj m.d.plan.shapes _ _ Q2 (Dj hpt.2.1)),(Uj m.d.plan.shapes _ _ Q2 (Dj hpt.2.1)),rfl,rfl,(Aau _),fun h3=>have q3:=Ap h3;?_,fun h3=>have q3:=Ao h3;?_⟩
 refine⟨(B4 (⟨(⟨m.d.plan,m.d.mode,m.d.stack,(⟨0,0⟩:Scn),m.d.start,m.d.at_,m.d.field,m.d.wire,m.d.want,m.d.utf,m.d.end_⟩:Dcd),m.out⟩:Mac) _ _ Q7),?_⟩
 refine have hm1:D6 m u=(A0 (⟨(⟨m.d.plan,m.d.mode,m.d.stack,(⟨0,0⟩:Scn),m.d.start,m.d.at_,m.d.field,m.d.wire,m.d.want,m.d.utf,m.d.end_⟩:Dcd),m.out⟩:Mac) 3 m.d.start):=?_;?_
 rotate_left
 exact⟨rfl,Q5⟩
 refine⟨fun h4=>?_,fun h4=>?_⟩
 refine⟨(Js ((fieldAt m.d.plan.shapes x1.msg (Bu u)).getD fld0) _ Q2),fun h5=>have q5:=Ap h5;?_,fun h5=>have q5:=Ao h5;?_⟩
 refine⟨(B4 (⟨(⟨m.d.plan,m.d.mode,m.d.stack,(⟨0,0⟩:Scn),m.d.start,m.d.at_,m.d.field,m.d.wire,m.d.want,m.d.utf,m.d.end_⟩:Dcd),m.out⟩:Mac) _ _ Q7),?_⟩
 refine have hm1:D6 m u=(A0 (⟨(⟨m.d.plan,m.d.mode,m.d.stack,(⟨0,0⟩:Scn),m.d.start,m.d.at_,m.d.field,m.d.wire,m.d.want,m.d.utf,m.d.end_⟩:Dcd),m.out⟩:Mac) 4 m.d.start):=?_;?_
 rotate_left
 exact⟨rfl,Q5⟩
 refine dsp (fun h6 p6=>?_) fun h6 p6=>?_
 refine⟨(Dq (⟨m.d.plan,3,m.d.stack,(⟨0,0⟩:Scn),m.d.start,m.d.at_,((fieldAt m.d.plan.shapes x1.msg (Bu u)).getD fld0),Aj u,m.d.want,m.d.utf,m.d.end_⟩:Dcd) Q7),(E0 _),dsp (fun h7 p7=>?_) fun h7 p7=>?_⟩
 refine⟨(B4 (⟨(⟨m.d.plan,3,m.d.stack,(⟨0,0⟩:Scn),m.d.start,m.d.at_,((fieldAt m.d.plan.shapes x1.msg (Bu u)).getD fld0),Aj u,m.d.want,m.d.utf,m.d.end_⟩:Dcd),m.out⟩:Mac) _ _ Q7),?_⟩
 refine have hm1:D6 m u=(A0 (⟨(⟨m.d.plan,3,m.d.stack,(⟨0,0⟩:Scn),m.d.start,m.d.at_,((fieldAt m.d.plan.shapes x1.msg (Bu u)).getD fld0),Aj u,m.d.want,m.d.utf,m.d.end_⟩:Dcd),m.out⟩:Mac) 9 m.d.at_):=?_;?_
 rotate_left
 exact⟨rfl,Q5⟩
 refine have hm1:D6 m u=(⟨(⟨m.d.plan,3,m.d.stack,(⟨0,0⟩:Scn),m.d.start,m.d.at_,((fieldAt m.d.plan.shapes x1.msg (Bu u)).getD fld0),Aj u,m.d.want,m.d.utf,m.d.end_⟩:Dcd),m.out⟩:Mac):=?_;?_
 rotate_left
 exact⟨rfl,Q5⟩
 refine dsp (fun h7 p7=>?_) fun h7 p7=>?_
 refine⟨(Dq (⟨m.d.plan,4,m.d.stack,(⟨0,0⟩:Scn),m.d.start,m.d.at_,((fieldAt m.d.plan.shapes x1.msg (Bu u)).getD fld0),Aj u,m.d.want,m.d.utf,m.d.end_⟩:Dcd) Q7),(E0 _),dsp (fun h8 p8=>?_) fun h8 p8=>?_⟩
 refine⟨(B4 (⟨(⟨m.d.plan,4,m.d.stack,(⟨0,0⟩:Scn),m.d.start,m.d.at_,((fieldAt m.d.plan.shapes x1.msg (Bu u)).getD fld0),Aj u,m.d.want,m.d.utf,m.d.end_⟩:Dcd),m.out⟩:Mac) _ _ Q7),?_⟩
 refine have hm1:D6 m u=(A0 (⟨(⟨m.d.plan,4,m.d.stack,(⟨0,0⟩:Scn),m.d.start,m.d.at_,((fieldAt m.d.plan.shapes x1.msg (Bu u)).getD fld0),Aj u,m.d.want,m.d.utf,m.d.end_⟩:Dcd),m.out⟩:Mac) 9 m.d.at_):=?_;?_
 rotate_left
 exact⟨rfl,Q5⟩
 refine have hm1:D6 m u=(⟨(⟨m.d.plan,4,m.d.stack,(⟨0,0⟩:Scn),m.d.start,m.d.at_,((fieldAt m.d.plan.shapes x1.msg (Bu u)).getD fld0),Aj u,m.d.want,m.d.utf,m.d.end_⟩:Dcd),m.out⟩:Mac):=?_;?_
 rotate_left
 exact⟨rfl,Q5⟩
 refine⟨(Dq (⟨m.d.plan,5,m.d.stack,(⟨0,0⟩:Scn),m.d.start,m.d.at_,((fieldAt m.d.plan.shapes x1.msg (Bu u)).getD fld0),Aj u,m.d.want,m.d.utf,m.d.end_⟩:Dcd) Q7),(E0 _),dsp (fun h8 p8=>?_) fun h8 p8=>?_⟩
 refine⟨(B4 (⟨(⟨m.d.plan,5,m.d.stack,(⟨0,0⟩:Scn),m.d.start,m.d.at_,((fieldAt m.d.plan.shapes x1.msg (Bu u)).getD fld0),Aj u,m.d.want,m.d.utf,m.d.end_⟩:Dcd),m.out⟩:Mac) _ _ Q7),?_⟩
 refine have hm1:D6 m u=(A0 (⟨(⟨m.d.plan,5,m.d.stack,(⟨0,0⟩:Scn),m.d.start,m.d.at_,((fieldAt m.d.plan.shapes x1.msg (Bu u)).getD fld0),Aj u,m.d.want,m.d.utf,m.d.end_⟩:Dcd),m.out⟩:Mac) 9 m.d.at_):=?_;?_
 rotate_left
 exact⟨rfl,Q5⟩
 refine have hm1:D6 m u=(⟨(⟨m.d.plan,5,m.d.stack,(⟨0,0⟩:Scn),m.d.start,m.d.at_,((fieldAt m.d.plan.shapes x1.msg (Bu u)).getD fld0),Aj u,m.d.want,m.d.utf,m.d.end_⟩:Dcd),m.out⟩:Mac):=?_;?_
 rotate_left
 exact⟨rfl,Q5⟩
 refine dsp (fun h5 p5=>?_) fun h5 p5=>?_
 refine⟨(Dq (⟨m.d.plan,3,m.d.stack,(⟨0,0⟩:Scn),m.d.start,m.d.at_,((fieldAt m.d.plan.shapes x1.msg (Bu u)).getD fld0),Aj u,m.d.want,m.d.utf,m.d.end_⟩:Dcd) Q7),(E0 _),dsp (fun h6 p6=>?_) fun h6 p6=>?_⟩
 refine⟨(B4 (⟨(⟨m.d.plan,3,m.d.stack,(⟨0,0⟩:Scn),m.d.start,m.d.at_,((fieldAt m.d.plan.shapes x1.msg (Bu u)).getD fld0),Aj u,m.d.want,m.d.utf,m.d.end_⟩:Dcd),m.out⟩:Mac) _ _ Q7),?_⟩
 refine have hm1:D6 m u=(A0 (⟨(⟨m.d.plan,3,m.d.stack,(⟨0,0⟩:Scn),m.d.start,m.d.at_,((fieldAt m.d.plan.shapes x1.msg (Bu u)).getD fld0),Aj u,m.d.want,m.d.utf,m.d.end_⟩:Dcd),m.out⟩:Mac) 9 m.d.at_):=?_;?_
 rotate_left
 exact⟨rfl,Q5⟩
 refine have hm1:D6 m u=(⟨(⟨m.d.plan,3,m.d.stack,(⟨0,0⟩:Scn),m.d.start,m.d.at_,((fieldAt m.d.plan.shapes x1.msg (Bu u)).getD fld0),Aj u,m.d.want,m.d.utf,m.d.end_⟩:Dcd),m.out⟩:Mac):=?_;?_
 rotate_left
 exact⟨rfl,Q5⟩
 refine dsp (fun h6 p6=>?_) fun h6 p6=>?_
 refine⟨(Dq (⟨m.d.plan,4,m.d.stack,(⟨0,0⟩:Scn),m.d.start,m.d.at_,((fieldAt m.d.plan.shapes x1.msg (Bu u)).getD fld0),Aj u,m.d.want,m.d.utf,m.d.end_⟩:Dcd) Q7),(E0 _),dsp (fun h7 p7=>?_) fun h7 p7=>?_⟩
 refine⟨(B4 (⟨(⟨m.d.plan,4,m.d.stack,(⟨0,0⟩:Scn),m.d.start,m.d.at_,((fieldAt m.d.plan.shapes x1.msg (Bu u)).getD fld0),Aj u,m.d.want,m.d.utf,m.d.end_⟩:Dcd),m.out⟩:Mac) _ _ Q7),?_⟩
 refine have hm1:D6 m u=(A0 (⟨(⟨m.d.plan,4,m.d.stack,(⟨0,0⟩:Scn),m.d.start,m.d.at_,((fieldAt m.d.plan.shapes x1.msg (Bu u)).getD fld0),Aj u,m.d.want,m.d.utf,m.d.end_⟩:Dcd),m.out⟩:Mac) 9 m.d.at_):=?_;?_
 rotate_left
 exact⟨rfl,Q5⟩
 refine have hm1:D6 m u=(⟨(⟨m.d.plan,4,m.d.stack,(⟨0,0⟩:Scn),m.d.start,m.d.at_,((fieldAt m.d.plan.shapes x1.msg (Bu u)).getD fld0),Aj u,m.d.want,m.d.utf,m.d.end_⟩:Dcd),m.out⟩:Mac):=?_;?_
 rotate_left
 exact⟨rfl,Q5⟩
 refine⟨(Dq (⟨m.d.plan,5,m.d.stack,(⟨0,0⟩:Scn),m.d.start,m.d.at_,((fieldAt m.d.plan.shapes x1.msg (Bu u)).getD fld0),Aj u,m.d.want,m.d.utf,m.d.end_⟩:Dcd) Q7),(E0 _),dsp (fun h7 p7=>?_) fun h7 p7=>?_⟩
 refine⟨(B4 (⟨(⟨m.d.plan,5,m.d.stack,(⟨0,0⟩:Scn),m.d.start,m.d.at_,((fieldAt m.d.plan.shapes x1.msg (Bu u)).getD fld0),Aj u,m.d.want,m.d.utf,m.d.end_⟩:Dcd),m.out⟩:Mac) _ _ Q7),?_⟩
 refine have hm1:D6 m u=(A0 (⟨(⟨m.d.plan,5,m.d.stack,(⟨0,0⟩:Scn),m.d.start,m.d.at_,((fieldAt m.d.plan.shapes x1.msg (Bu u)).getD fld0),Aj u,m.d.want,m.d.utf,m.d.end_⟩:Dcd),m.out⟩:Mac) 9 m.d.at_):=?_;?_
 rotate_left
 exact⟨rfl,Q5⟩
 refine have hm1:D6 m u=(⟨(⟨m.d.plan,5,m.d.stack,(⟨0,0⟩:Scn),m.d.start,m.d.at_,((fieldAt m.d.plan.shapes x1.msg (Bu u)).getD fld0),Aj u,m.d.want,m.d.utf,m.d.end_⟩:Dcd),m.out⟩:Mac):=?_;?_
 rotate_left
 exact⟨rfl,Q5⟩
 all_goals first|(simp_all[D6,A0,A1,scn0];done)|(grind[D6,A0,A1,scn0])
end Go.Proofs.YtcmnedgnppnhoaaGreat.Ax
