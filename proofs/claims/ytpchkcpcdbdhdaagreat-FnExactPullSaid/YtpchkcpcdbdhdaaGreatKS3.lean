/- Decoders: what is valid: both sides. Copies. Readers. New streams. Events as frames: the steps. Events as frames. What the exact laws do with schemas, plans and events. What the exact laws do with plans and events: copies of their own. -/
import Derived.Test.YtpchkcpcdbdhdaaGreatKS2
import Derived.Test.YtpchkcpcdbdhdaaGreatKS1
set_option linter.unusedSimpArgs false
set_option linter.unusedVariables false
namespace Go.Proofs.YtpchkcpcdbdhdaaGreat.Ax
open Go.RowKit
theorem Aae {w:Int} (h:C4 w=true):0≤w∧w≤5:=by simp[C4] at h;omega
theorem Abh {d:Dcd} (h:A5 d=true):Cv d.plan=true:=by simp only[A5,Bool.and_eq_true] at h;exact h.1.1
theorem Sy (d:Dcd) (hp1:List.length (d).stack≤bigN) (hp2:List.length (d).plan.shapes≤bigN):Fun Tryz.prog 134 [.agg (Bi d)] [] (.v (vB (Be d))) []:=by
 have hN:bigN=274877906944:=rfl
 refine Af Tryz.func134 (by kernel_rfl) (by kernel_rfl) (w:=let z2:=Fk d&&Gq d;let z3:= !(decide (d.end_.kind=0)&&(decide (d.end_.field=0)&&(decide (d.end_.bits=0)&&(decide (d.end_.len=0)&&(decide (d.end_.text=[])&&(decide (d.end_.code=0)&&decide (d.end_.at_=0)))))));let z4:=vB (H3 d);let z6:=([]:List Blk);let z7:=vB (Be d);let z8:= !decide (d.mode=1);let z10:= !decide (d.mode=9);let z11:=decide (0<(d.stack.length:Int));let z12:=(.v (vB false):S);let z1:=z2=false→z12= .v z7∧z6=[];let z5:=z11=true→z12= .v z7∧z6=[];let z13:=decide (d.mode=1);let z14:=(.v z4:S);let z15:= !(decide (d.field.number=0)&&(decide (d.field.kind=0)&&(decide (d.field.rep=false)&&(decide (d.field.packed=false)&&decide (d.field.msg=0)))));let z16:=vI (Dm d);let z17:=decide (Dm d<1);let z9:=z17=true→z12= .v z7∧z6=[];let z18:=Bt d.end_;let z19:=z3=true→z12= .v z7∧z6=[];let z20:=Gs d.end_;let z21:=H4 (d.plan).shapes d.field;let z22:=Ak d.at_ 0 1000000000;let z23:=z10=false;let z24:=Ak d.start 0 d.at_;let z25:=z10=true;let z26:=decide (d.mode=9);let z27:=Ak d.mode 1 9;let z28:=C4 d.wire;let z29:=(!z20)=true→z12= .v z7∧z6=[];let z30:=(!z18)=true→z12= .v z7∧z6=[];let z31:=Ew d.utf;(.seg [.call [] (.v (vB (A5 d))) []] (.br (.leaf () []) (.seg [.call [] (.v (vB z27)) []] (.br (.leaf () []) (.seg [.call [] (.v (vB z22)) []] (.br (.leaf () []) (.seg [.call [] (.v (vB z24)) []] (.br (.leaf () []) (.seg [.call [] (.v (vB z31)) []] (.br (.leaf () []) (.seg [.call [] (.v (vB z28)) []] (.br (.leaf () []) (.br (.seg [.call [] (.v (vB z21)) []] (.br (.leaf () []) (.br (.seg [.call [] (.v (vB z20)) []] (.br (.leaf () []) (.seg [.call [] (.v (vB z18)) []] (.br (.leaf () []) (.br (.br (.leaf () []) (.br (.br (.leaf () []) (.br (.seg [.br true,.call [] (.v z16) []] (.br (.leaf () []) (.seg [.call [] (.v (vB z2)) []] (.br (.seg [.call [] (.v z4) []] (.leaf () [])) (.leaf () []))))) (.seg [.call [] (.v (vB z2)) []] (.br (.seg [.call [] (.v z4) []] (.leaf () [])) (.leaf () []))))) (.br (.seg [.br true,.call [] (.v z16) []] (.br (.leaf () []) (.seg [.call [] (.v (vB z2)) []] (.br (.seg [.call [] (.v z4) []] (.leaf () [])) (.leaf () []))))) (.seg [.call [] (.v (vB z2)) []] (.br (.seg [.call [] (.v z4) []] (.leaf () [])) (.leaf () [])))))) (.br (.br (.leaf () []) (.br (.seg [.br false,.call [] (.v (vB z2)) []] (.br (.seg [.call [] (.v z4) []] (.leaf () [])) (.leaf () []))) (.seg [.call [] (.v (vB z2)) []] (.br (.seg [.call [] (.v z4) []] (.leaf () [])) (.leaf () []))))) (.br (.seg [.br false,.call [] (.v (vB z2)) []] (.br (.seg [.call [] (.v z4) []] (.leaf () [])) (.leaf () []))) (.seg [.call [] (.v (vB z2)) []] (.br (.seg [.call [] (.v z4) []] (.leaf () [])) (.leaf () [])))))))))) (.br (.br (.leaf () []) (.br (.br (.leaf () []) (.br (.seg [.br true,.call [] (.v z16) []] (.br (.leaf () []) (.seg [.call [] (.v (vB z2)) []] (.br (.seg [.call [] (.v z4) []] (.leaf () [])) (.leaf () []))))) (.seg [.call [] (.v (vB z2)) []] (.br (.seg [.call [] (.v z4) []] (.leaf () [])) (.leaf () []))))) (.br (.seg [.br true,.call [] (.v z16) []] (.br (.leaf () []) (.seg [.call [] (.v (vB z2)) []] (.br (.seg [.call [] (.v z4) []] (.leaf () [])) (.leaf () []))))) (.seg [.call [] (.v (vB z2)) []] (.br (.seg [.call [] (.v z4) []] (.leaf () [])) (.leaf () [])))))) (.br (.br (.leaf () []) (.br (.seg [.br false,.call [] (.v (vB z2)) []] (.br (.seg [.call [] (.v z4) []] (.leaf () [])) (.leaf () []))) (.seg [.call [] (.v (vB z2)) []] (.br (.seg [.call [] (.v z4) []] (.leaf () [])) (.leaf () []))))) (.br (.seg [.br false,.call [] (.v (vB z2)) []] (.br (.seg [.call [] (.v z4) []] (.leaf () [])) (.leaf () []))) (.seg [.call [] (.v (vB z2)) []] (.br (.seg [.call [] (.v z4) []] (.leaf () [])) (.leaf () []))))))))) (.br (.seg [.call [] (.v (vB z20)) []] (.br (.leaf () []) (.seg [.call [] (.v (vB z18)) []] (.br (.leaf () []) (.br (.br (.leaf () []) (.br (.br (.leaf () []) (.br (.seg [.br true,.call [] (.v z16) []] (.br (.leaf () []) (.seg [.call [] (.v (vB z2)) []] (.br (.seg [.call [] (.v z4) []] (.leaf () [])) (.leaf () []))))) (.seg [.call [] (.v (vB z2)) []] (.br (.seg [.call [] (.v z4) []] (.leaf () [])) (.leaf () []))))) (.br (.seg [.br true,.call [] (.v z16) []] (.br (.leaf () []) (.seg [.call [] (.v (vB z2)) []] (.br (.seg [.call [] (.v z4) []] (.leaf () [])) (.leaf () []))))) (.seg [.call [] (.v (vB z2)) []] (.br (.seg [.call [] (.v z4) []] (.leaf () [])) (.leaf () [])))))) (.br (.br (.leaf () []) (.br (.seg [.br false,.call [] (.v (vB z2)) []] (.br (.seg [.call [] (.v z4) []] (.leaf () [])) (.leaf () []))) (.seg [.call [] (.v (vB z2)) []] (.br (.seg [.call [] (.v z4) []] (.leaf () [])) (.leaf () []))))) (.br (.seg [.br false,.call [] (.v (vB z2)) []] (.br (.seg [.call [] (.v z4) []] (.leaf () [])) (.leaf () []))) (.seg [.call [] (.v (vB z2)) []] (.br (.seg [.call [] (.v z4) []] (.leaf () [])) (.leaf () [])))))))))) (.br (.br (.leaf () []) (.br (.br (.leaf () []) (.br (.seg [.br true,.call [] (.v z16) []] (.br (.leaf () []) (.seg [.call [] (.v (vB z2)) []] (.br (.seg [.call [] (.v z4) []] (.leaf () [])) (.leaf () []))))) (.seg [.call [] (.v (vB z2)) []] (.br (.seg [.call [] (.v z4) []] (.leaf () [])) (.leaf () []))))) (.br (.seg [.br true,.call [] (.v z16) []] (.br (.leaf () []) (.seg [.call [] (.v (vB z2)) []] (.br (.seg [.call [] (.v z4) []] (.leaf () [])) (.leaf () []))))) (.seg [.call [] (.v (vB z2)) []] (.br (.seg [.call [] (.v z4) []] (.leaf () [])) (.leaf () [])))))) (.br (.br (.leaf () []) (.br (.seg [.br false,.call [] (.v (vB z2)) []] (.br (.seg [.call [] (.v z4) []] (.leaf () [])) (.leaf () []))) (.seg [.call [] (.v (vB z2)) []] (.br (.seg [.call [] (.v z4) []] (.leaf () [])) (.leaf () []))))) (.br (.seg [.br false,.call [] (.v (vB z2)) []] (.br (.seg [.call [] (.v z4) []] (.leaf () [])) (.leaf () []))) (.seg [.call [] (.v (vB z2)) []] (.br (.seg [.call [] (.v z4) []] (.leaf () [])) (.leaf () []))))))))))))))))))),(Fun Tryz.prog 174 [.agg (Bi d)] [] (.v (vB (A5 d))) [])∧((!(A5 d))=true→z12= .v z7∧z6=[])∧((!(A5 d))=false→(Fun Tryz.prog 173 [vI d.mode,vI 1,vI 9] [] (.v (vB z27)) [])∧((!z27)=true→z12= .v z7∧z6=[])∧((!z27)=false→(Fun Tryz.prog 173 [vI d.at_,vI 0,vI 1000000000] [] (.v (vB z22)) [])∧((!z22)=true→z12= .v z7∧z6=[])∧((!z22)=false→(Fun Tryz.prog 173 [vI d.start,vI 0,vI d.at_] [] (.v (vB z24)) [])∧((!z24)=true→z12= .v z7∧z6=[])∧((!z24)=false→(Fun Tryz.prog 175 [.agg (Lb d.utf)] [] (.v (vB z31)) [])∧((!z31)=true→z12= .v z7∧z6=[])∧((!z31)=false→(Fun Tryz.prog 176 [vI d.wire] [] (.v (vB z28)) [])∧((!z28)=true→z12= .v z7∧z6=[])∧((!z28)=false→(z15=true→(Fun Tryz.prog 177 [.agg (F4 d.plan),.agg (Fd d.field)] [] (.v (vB z21)) [])∧((!z21)=true→z12= .v z7∧z6=[])∧((!z21)=false→(z26=true→(Fun Tryz.prog 178 [.agg (cEv d.end_)] [] (.v (vB z20)) [])∧z29∧((!z20)=false→(Fun Tryz.prog 129 [.agg (cEv d.end_)] [] (.v (vB z18)) [])∧z30∧((!z18)=false→(z10=true→z19∧(z3=false→(z13=true→z5∧(z11=false→(z8=true→z25∧(Fun Tryz.prog 179 [.agg (Bi d)] [] (.v z16) [])∧z9∧(z17=false→(Fun Tryz.prog 180 [.agg (Bi d)] [] (.v (vB z2)) [])∧(z2=true→(Fun Tryz.prog 181 [.agg (Bi d)] [] (.v z4) [])∧z14= .v z7∧z6=[])∧z1))∧(z8=false→(Fun Tryz.prog 180 [.agg (Bi d)] [] (.v (vB z2)) [])∧(z2=true→(Fun Tryz.prog 181 [.agg (Bi d)] [] (.v z4) [])∧z14= .v z7∧z6=[])∧z1)))∧(z13=false→(z8=true→z25∧(Fun Tryz.prog 179 [.agg (Bi d)] [] (.v z16) [])∧z9∧(z17=false→(Fun Tryz.prog 180 [.agg (Bi d)] [] (.v (vB z2)) [])∧(z2=true→(Fun Tryz.prog 181 [.agg (Bi d)] [] (.v z4) [])∧z14= .v z7∧z6=[])∧z1))∧(z8=false→(Fun Tryz.prog 180 [.agg (Bi d)] [] (.v (vB z2)) [])∧(z2=true→(Fun Tryz.prog 181 [.agg (Bi d)] [] (.v z4) [])∧z14= .v z7∧z6=[])∧z1))))∧(z10=false→(z13=true→z5∧(z11=false→(z8=true→z23∧(Fun Tryz.prog 180 [.agg (Bi d)] [] (.v (vB z2)) [])∧(z2=true→(Fun Tryz.prog 181 [.agg (Bi d)] [] (.v z4) [])∧z14= .v z7∧z6=[])∧z1)∧(z8=false→(Fun Tryz.prog 180 [.agg (Bi d)] [] (.v (vB z2)) [])∧(z2=true→(Fun Tryz.prog 181 [.agg (Bi d)] [] (.v z4) [])∧z14= .v z7∧z6=[])∧z1)))∧(z13=false→(z8=true→z23∧(Fun Tryz.prog 180 [.agg (Bi d)] [] (.v (vB z2)) [])∧(z2=true→(Fun Tryz.prog 181 [.agg (Bi d)] [] (.v z4) [])∧z14= .v z7∧z6=[])∧z1)∧(z8=false→(Fun Tryz.prog 180 [.agg (Bi d)] [] (.v (vB z2)) [])∧(z2=true→(Fun Tryz.prog 181 [.agg (Bi d)] [] (.v z4) [])∧z14= .v z7∧z6=[])∧z1))))))∧(z26=false→(z10=true→z19∧(z3=false→(z13=true→z5∧(z11=false→(z8=true→z25∧(Fun Tryz.prog 179 [.agg (Bi d)] [] (.v z16) [])∧z9∧(z17=false→(Fun Tryz.prog 180 [.agg (Bi d)] [] (.v (vB z2)) [])∧(z2=true→(Fun Tryz.prog 181 [.agg (Bi d)] [] (.v z4) [])∧z14= .v z7∧z6=[])∧z1))∧(z8=false→(Fun Tryz.prog 180 [.agg (Bi d)] [] (.v (vB z2)) [])∧(z2=true→(Fun Tryz.prog 181 [.agg (Bi d)] [] (.v z4) [])∧z14= .v z7∧z6=[])∧z1)))∧(z13=false→(z8=true→z25∧(Fun Tryz.prog 179 [.agg (Bi d)] [] (.v z16) [])∧z9∧(z17=false→(Fun Tryz.prog 180 [.agg (Bi d)] [] (.v (vB z2)) [])∧(z2=true→(Fun Tryz.prog 181 [.agg (Bi d)] [] (.v z4) [])∧z14= .v z7∧z6=[])∧z1))∧(z8=false→(Fun Tryz.prog 180 [.agg (Bi d)] [] (.v (vB z2)) [])∧(z2=true→(Fun Tryz.prog 181 [.agg (Bi d)] [] (.v z4) [])∧z14= .v z7∧z6=[])∧z1))))∧(z10=false→(z13=true→z5∧(z11=false→(z8=true→z23∧(Fun Tryz.prog 180 [.agg (Bi d)] [] (.v (vB z2)) [])∧(z2=true→(Fun Tryz.prog 181 [.agg (Bi d)] [] (.v z4) [])∧z14= .v z7∧z6=[])∧z1)∧(z8=false→(Fun Tryz.prog 180 [.agg (Bi d)] [] (.v (vB z2)) [])∧(z2=true→(Fun Tryz.prog 181 [.agg (Bi d)] [] (.v z4) [])∧z14= .v z7∧z6=[])∧z1)))∧(z13=false→(z8=true→z23∧(Fun Tryz.prog 180 [.agg (Bi d)] [] (.v (vB z2)) [])∧(z2=true→(Fun Tryz.prog 181 [.agg (Bi d)] [] (.v z4) [])∧z14= .v z7∧z6=[])∧z1)∧(z8=false→(Fun Tryz.prog 180 [.agg (Bi d)] [] (.v (vB z2)) [])∧(z2=true→(Fun Tryz.prog 181 [.agg (Bi d)] [] (.v z4) [])∧z14= .v z7∧z6=[])∧z1))))))∧(z15=false→(z26=true→(Fun Tryz.prog 178 [.agg (cEv d.end_)] [] (.v (vB z20)) [])∧z29∧((!z20)=false→(Fun Tryz.prog 129 [.agg (cEv d.end_)] [] (.v (vB z18)) [])∧z30∧((!z18)=false→(z10=true→z19∧(z3=false→(z13=true→z5∧(z11=false→(z8=true→z25∧(Fun Tryz.prog 179 [.agg (Bi d)] [] (.v z16) [])∧z9∧(z17=false→(Fun Tryz.prog 180 [.agg (Bi d)] [] (.v (vB z2)) [])∧(z2=true→(Fun Tryz.prog 181 [.agg (Bi d)] [] (.v z4) [])∧z14= .v z7∧z6=[])∧z1))∧(z8=false→(Fun Tryz.prog 180 [.agg (Bi d)] [] (.v (vB z2)) [])∧(z2=true→(Fun Tryz.prog 181 [.agg (Bi d)] [] (.v z4) [])∧z14= .v z7∧z6=[])∧z1)))∧(z13=false→(z8=true→z25∧(Fun Tryz.prog 179 [.agg (Bi d)] [] (.v z16) [])∧z9∧(z17=false→(Fun Tryz.prog 180 [.agg (Bi d)] [] (.v (vB z2)) [])∧(z2=true→(Fun Tryz.prog 181 [.agg (Bi d)] [] (.v z4) [])∧z14= .v z7∧z6=[])∧z1))∧(z8=false→(Fun Tryz.prog 180 [.agg (Bi d)] [] (.v (vB z2)) [])∧(z2=true→(Fun Tryz.prog 181 [.agg (Bi d)] [] (.v z4) [])∧z14= .v z7∧z6=[])∧z1))))∧(z10=false→(z13=true→z5∧(z11=false→(z8=true→z23∧(Fun Tryz.prog 180 [.agg (Bi d)] [] (.v (vB z2)) [])∧(z2=true→(Fun Tryz.prog 181 [.agg (Bi d)] [] (.v z4) [])∧z14= .v z7∧z6=[])∧z1)∧(z8=false→(Fun Tryz.prog 180 [.agg (Bi d)] [] (.v (vB z2)) [])∧(z2=true→(Fun Tryz.prog 181 [.agg (Bi d)] [] (.v z4) [])∧z14= .v z7∧z6=[])∧z1)))∧(z13=false→(z8=true→z23∧(Fun Tryz.prog 180 [.agg (Bi d)] [] (.v (vB z2)) [])∧(z2=true→(Fun Tryz.prog 181 [.agg (Bi d)] [] (.v z4) [])∧z14= .v z7∧z6=[])∧z1)∧(z8=false→(Fun Tryz.prog 180 [.agg (Bi d)] [] (.v (vB z2)) [])∧(z2=true→(Fun Tryz.prog 181 [.agg (Bi d)] [] (.v z4) [])∧z14= .v z7∧z6=[])∧z1))))))∧(z26=false→(z10=true→z19∧(z3=false→(z13=true→z5∧(z11=false→(z8=true→z25∧(Fun Tryz.prog 179 [.agg (Bi d)] [] (.v z16) [])∧z9∧(z17=false→(Fun Tryz.prog 180 [.agg (Bi d)] [] (.v (vB z2)) [])∧(z2=true→(Fun Tryz.prog 181 [.agg (Bi d)] [] (.v z4) [])∧z14= .v z7∧z6=[])∧z1))∧(z8=false→(Fun Tryz.prog 180 [.agg (Bi d)] [] (.v (vB z2)) [])∧(z2=true→(Fun Tryz.prog 181 [.agg (Bi d)] [] (.v z4) [])∧z14= .v z7∧z6=[])∧z1)))∧(z13=false→(z8=true→z25∧(Fun Tryz.prog 179 [.agg (Bi d)] [] (.v z16) [])∧z9∧(z17=false→(Fun Tryz.prog 180 [.agg (Bi d)] [] (.v (vB z2)) [])∧(z2=true→(Fun Tryz.prog 181 [.agg (Bi d)] [] (.v z4) [])∧z14= .v z7∧z6=[])∧z1))∧(z8=false→(Fun Tryz.prog 180 [.agg (Bi d)] [] (.v (vB z2)) [])∧(z2=true→(Fun Tryz.prog 181 [.agg (Bi d)] [] (.v z4) [])∧z14= .v z7∧z6=[])∧z1))))∧(z10=false→(z13=true→z5∧(z11=false→(z8=true→z23∧(Fun Tryz.prog 180 [.agg (Bi d)] [] (.v (vB z2)) [])∧(z2=true→(Fun Tryz.prog 181 [.agg (Bi d)] [] (.v z4) [])∧z14= .v z7∧z6=[])∧z1)∧(z8=false→(Fun Tryz.prog 180 [.agg (Bi d)] [] (.v (vB z2)) [])∧(z2=true→(Fun Tryz.prog 181 [.agg (Bi d)] [] (.v z4) [])∧z14= .v z7∧z6=[])∧z1)))∧(z13=false→(z8=true→z23∧(Fun Tryz.prog 180 [.agg (Bi d)] [] (.v (vB z2)) [])∧(z2=true→(Fun Tryz.prog 181 [.agg (Bi d)] [] (.v z4) [])∧z14= .v z7∧z6=[])∧z1)∧(z8=false→(Fun Tryz.prog 180 [.agg (Bi d)] [] (.v (vB z2)) [])∧(z2=true→(Fun Tryz.prog 181 [.agg (Bi d)] [] (.v z4) [])∧z14= .v z7∧z6=[])∧z1))))))))))))) (by kernel_rfl) ?_
 refine⟨(Uq d (by omega) (by omega)),fun h1=>have q1:=Am h1;?_,fun h1=>have q1:=Aj h1;?_⟩
 refine⟨(sB ?_),rfl⟩
 rotate_left
 have hpt:=By (Abh q1)
 refine⟨(B1 _ _ _),fun h2=>have q2:=Am h2;have p2:=Ay q2;?_,fun h2=>have q2:=Aj h2;have p2:=Ap q2;?_⟩
 refine⟨(sB ?_),rfl⟩
 rotate_left
 refine⟨(B1 _ _ _),fun h3=>have q3:=Am h3;have p3:=Ay q3;?_,fun h3=>have q3:=Aj h3;have p3:=Ap q3;?_⟩
 refine⟨(sB ?_),rfl⟩
 rotate_left
 refine⟨(B1 _ _ _),fun h4=>have q4:=Am h4;have p4:=Ay q4;?_,fun h4=>have q4:=Aj h4;have p4:=Ap q4;?_⟩
 refine⟨(sB ?_),rfl⟩
 rotate_left
 refine⟨(Adm d.utf),fun h5=>have q5:=Am h5;?_,fun h5=>have q5:=Aj h5;have p5:=Kz q5;?_⟩
 refine⟨(sB ?_),rfl⟩
 rotate_left
 refine⟨(Z9 _),fun h6=>have q6:=Am h6;?_,fun h6=>have q6:=Aj h6;?_⟩
 refine⟨(sB ?_),rfl⟩
 rotate_left
 have hwk:=Aae (w:=d.wire) q6
 refine⟨fun h7=>have q7:=Am h7;have p7:=(Cp dT (Cp dT (Cp dT (Cp dT dF)))).1 q7;?_,fun h7=>have q7:=Aj h7;have p7:=(Co dT (Co dT (Co dT (Co dT dT)))).1 q7;?_⟩
 refine⟨(Ahr d.plan d.field (by omega) (Dr hpt.2.1)),fun h8=>have q8:=Am h8;?_,fun h8=>have q8:=Aj h8;?_⟩
 refine⟨(sB ?_),rfl⟩
 rotate_left
 refine dsp (fun h9 p9=>?_) fun h9 p9=>?_
 refine⟨(Xf d.end_),fun h10=>have q10:=Am h10;?_,fun h10=>have q10:=Aj h10;?_⟩
 refine⟨(sB ?_),rfl⟩
 rotate_left
 refine⟨(M0 d.end_),fun h11=>have q11:=Am h11;?_,fun h11=>have q11:=Aj h11;?_⟩
 refine⟨(sB ?_),rfl⟩
 rotate_left
 refine⟨fun h12=>have q12:=Am h12;have p12:=of_decide_eq_false q12;?_,fun h12=>have q12:=Aj h12;have p12:=of_decide_eq_true q12;?_⟩
 refine⟨fun h13=>have q13:=Am h13;have p13:=(Cp dT (Cp dT (Cp dT (Cp dT (Cp dT (Cp dT dF)))))).1 q13;?_,fun h13=>have q13:=Aj h13;have p13:=(Co dT (Co dT (Co dT (Co dT (Co dT (Co dT dT)))))).1 q13;?_⟩
 refine⟨(sB ?_),rfl⟩
 rotate_left
 refine dsp (fun h14 p14=>?_) fun h14 p14=>?_
 refine dsp (fun h15 p15=>?_) fun h15 p15=>?_
 refine⟨(sB ?_),rfl⟩
 rotate_left
 refine⟨fun h16=>have q16:=Am h16;have p16:=of_decide_eq_false q16;?_,fun h16=>have q16:=Aj h16;have p16:=of_decide_eq_true q16;?_⟩
 refine⟨h12,(Dz d (by omega)),dsp (fun h17 p17=>?_) fun h17 p17=>?_⟩
 refine⟨(sB ?_),rfl⟩
 rotate_left
 refine⟨(Ci d (by omega)),fun h18=>?_,fun h18=>?_⟩
 refine⟨(Ch d (by omega)),(sB ?_),rfl⟩
 rotate_left
 refine⟨(sB ?_),rfl⟩
 rotate_left
 refine⟨(Ci d (by omega)),fun h17=>?_,fun h17=>?_⟩
 refine⟨(Ch d (by omega)),(sB ?_),rfl⟩
 rotate_left
 refine⟨(sB ?_),rfl⟩
 rotate_left
 refine⟨fun h15=>have q15:=Am h15;have p15:=of_decide_eq_false q15;?_,fun h15=>have q15:=Aj h15;have p15:=of_decide_eq_true q15;?_⟩
 refine⟨h12,(Dz d (by omega)),dsp (fun h16 p16=>?_) fun h16 p16=>?_⟩
 refine⟨(sB ?_),rfl⟩
 rotate_left
 refine⟨(Ci d (by omega)),fun h17=>?_,fun h17=>?_⟩
 refine⟨(Ch d (by omega)),(sB ?_),rfl⟩
 rotate_left
 refine⟨(sB ?_),rfl⟩
 rotate_left
 refine⟨(Ci d (by omega)),fun h16=>?_,fun h16=>?_⟩
 refine⟨(Ch d (by omega)),(sB ?_),rfl⟩
 rotate_left
 refine⟨(sB ?_),rfl⟩
 rotate_left
 refine dsp (fun h13 p13=>?_) fun h13 p13=>?_
 refine dsp (fun h14 p14=>?_) fun h14 p14=>?_
 refine⟨(sB ?_),rfl⟩
 rotate_left
 refine⟨fun h15=>have q15:=Am h15;have p15:=of_decide_eq_false q15;?_,fun h15=>have q15:=Aj h15;have p15:=of_decide_eq_true q15;?_⟩
 refine⟨h12,(Ci d (by omega)),fun h16=>?_,fun h16=>?_⟩
 refine⟨(Ch d (by omega)),(sB ?_),rfl⟩
 rotate_left
 refine⟨(sB ?_),rfl⟩
 rotate_left
 refine⟨(Ci d (by omega)),fun h16=>?_,fun h16=>?_⟩
 refine⟨(Ch d (by omega)),(sB ?_),rfl⟩
 rotate_left
 refine⟨(sB ?_),rfl⟩
 rotate_left
 refine⟨fun h14=>have q14:=Am h14;have p14:=of_decide_eq_false q14;?_,fun h14=>have q14:=Aj h14;have p14:=of_decide_eq_true q14;?_⟩
 refine⟨h12,(Ci d (by omega)),fun h15=>?_,fun h15=>?_⟩
 refine⟨(Ch d (by omega)),(sB ?_),rfl⟩
 rotate_left
 refine⟨(sB ?_),rfl⟩
 rotate_left
 refine⟨(Ci d (by omega)),fun h15=>?_,fun h15=>?_⟩
 refine⟨(Ch d (by omega)),(sB ?_),rfl⟩
 rotate_left
 refine⟨(sB ?_),rfl⟩
 rotate_left
 refine⟨fun h10=>have q10:=Am h10;have p10:=of_decide_eq_false q10;?_,fun h10=>have q10:=Aj h10;have p10:=of_decide_eq_true q10;?_⟩
 refine⟨fun h11=>have q11:=Am h11;have p11:=(Cp dT (Cp dT (Cp dT (Cp dT (Cp dT (Cp dT dF)))))).1 q11;?_,fun h11=>have q11:=Aj h11;have p11:=(Co dT (Co dT (Co dT (Co dT (Co dT (Co dT dT)))))).1 q11;?_⟩
 refine⟨(sB ?_),rfl⟩
 rotate_left
 refine dsp (fun h12 p12=>?_) fun h12 p12=>?_
 refine dsp (fun h13 p13=>?_) fun h13 p13=>?_
 refine⟨(sB ?_),rfl⟩
 rotate_left
 refine⟨fun h14=>have q14:=Am h14;have p14:=of_decide_eq_false q14;?_,fun h14=>have q14:=Aj h14;have p14:=of_decide_eq_true q14;?_⟩
 refine⟨h10,(Dz d (by omega)),dsp (fun h15 p15=>?_) fun h15 p15=>?_⟩
 refine⟨(sB ?_),rfl⟩
 rotate_left
 refine⟨(Ci d (by omega)),fun h16=>?_,fun h16=>?_⟩
 refine⟨(Ch d (by omega)),(sB ?_),rfl⟩
 rotate_left
 refine⟨(sB ?_),rfl⟩
 rotate_left
 refine⟨(Ci d (by omega)),fun h15=>?_,fun h15=>?_⟩
 refine⟨(Ch d (by omega)),(sB ?_),rfl⟩
 rotate_left
 refine⟨(sB ?_),rfl⟩
 rotate_left
 refine⟨fun h13=>have q13:=Am h13;have p13:=of_decide_eq_false q13;?_,fun h13=>have q13:=Aj h13;have p13:=of_decide_eq_true q13;?_⟩
 refine⟨h10,(Dz d (by omega)),dsp (fun h14 p14=>?_) fun h14 p14=>?_⟩
 refine⟨(sB ?_),rfl⟩
 rotate_left
 refine⟨(Ci d (by omega)),fun h15=>?_,fun h15=>?_⟩
 refine⟨(Ch d (by omega)),(sB ?_),rfl⟩
 rotate_left
 refine⟨(sB ?_),rfl⟩
 rotate_left
 refine⟨(Ci d (by omega)),fun h14=>?_,fun h14=>?_⟩
 refine⟨(Ch d (by omega)),(sB ?_),rfl⟩
 rotate_left
 refine⟨(sB ?_),rfl⟩
 rotate_left
 refine dsp (fun h11 p11=>?_) fun h11 p11=>?_
 refine dsp (fun h12 p12=>?_) fun h12 p12=>?_
 refine⟨(sB ?_),rfl⟩
 rotate_left
 refine⟨fun h13=>have q13:=Am h13;have p13:=of_decide_eq_false q13;?_,fun h13=>have q13:=Aj h13;have p13:=of_decide_eq_true q13;?_⟩
 refine⟨h10,(Ci d (by omega)),fun h14=>?_,fun h14=>?_⟩
 refine⟨(Ch d (by omega)),(sB ?_),rfl⟩
 rotate_left
 refine⟨(sB ?_),rfl⟩
 rotate_left
 refine⟨(Ci d (by omega)),fun h14=>?_,fun h14=>?_⟩
 refine⟨(Ch d (by omega)),(sB ?_),rfl⟩
 rotate_left
 refine⟨(sB ?_),rfl⟩
 rotate_left
 refine⟨fun h12=>have q12:=Am h12;have p12:=of_decide_eq_false q12;?_,fun h12=>have q12:=Aj h12;have p12:=of_decide_eq_true q12;?_⟩
 refine⟨h10,(Ci d (by omega)),fun h13=>?_,fun h13=>?_⟩
 refine⟨(Ch d (by omega)),(sB ?_),rfl⟩
 rotate_left
 refine⟨(sB ?_),rfl⟩
 rotate_left
 refine⟨(Ci d (by omega)),fun h13=>?_,fun h13=>?_⟩
 refine⟨(Ch d (by omega)),(sB ?_),rfl⟩
 rotate_left
 refine⟨(sB ?_),rfl⟩
 rotate_left
 refine dsp (fun h8 p8=>?_) fun h8 p8=>?_
 refine⟨(Xf d.end_),fun h9=>have q9:=Am h9;?_,fun h9=>have q9:=Aj h9;?_⟩
 refine⟨(sB ?_),rfl⟩
 rotate_left
 refine⟨(M0 d.end_),fun h10=>have q10:=Am h10;?_,fun h10=>have q10:=Aj h10;?_⟩
 refine⟨(sB ?_),rfl⟩
 rotate_left
 refine⟨fun h11=>have q11:=Am h11;have p11:=of_decide_eq_false q11;?_,fun h11=>have q11:=Aj h11;have p11:=of_decide_eq_true q11;?_⟩
 refine⟨fun h12=>have q12:=Am h12;have p12:=(Cp dT (Cp dT (Cp dT (Cp dT (Cp dT (Cp dT dF)))))).1 q12;?_,fun h12=>have q12:=Aj h12;have p12:=(Co dT (Co dT (Co dT (Co dT (Co dT (Co dT dT)))))).1 q12;?_⟩
 refine⟨(sB ?_),rfl⟩
 rotate_left
 refine dsp (fun h13 p13=>?_) fun h13 p13=>?_
 refine dsp (fun h14 p14=>?_) fun h14 p14=>?_
 refine⟨(sB ?_),rfl⟩
 rotate_left
 refine⟨fun h15=>have q15:=Am h15;have p15:=of_decide_eq_false q15;?_,fun h15=>have q15:=Aj h15;have p15:=of_decide_eq_true q15;?_⟩
 refine⟨h11,(Dz d (by omega)),dsp (fun h16 p16=>?_) fun h16 p16=>?_⟩
 refine⟨(sB ?_),rfl⟩
 rotate_left
 refine⟨(Ci d (by omega)),fun h17=>?_,fun h17=>?_⟩
 refine⟨(Ch d (by omega)),(sB ?_),rfl⟩
 rotate_left
 refine⟨(sB ?_),rfl⟩
 rotate_left
 refine⟨(Ci d (by omega)),fun h16=>?_,fun h16=>?_⟩
 refine⟨(Ch d (by omega)),(sB ?_),rfl⟩
 rotate_left
 refine⟨(sB ?_),rfl⟩
 rotate_left
 refine⟨fun h14=>have q14:=Am h14;have p14:=of_decide_eq_false q14;?_,fun h14=>have q14:=Aj h14;have p14:=of_decide_eq_true q14;?_⟩
 refine⟨h11,(Dz d (by omega)),dsp (fun h15 p15=>?_) fun h15 p15=>?_⟩
 refine⟨(sB ?_),rfl⟩
 rotate_left
 refine⟨(Ci d (by omega)),fun h16=>?_,fun h16=>?_⟩
 refine⟨(Ch d (by omega)),(sB ?_),rfl⟩
 rotate_left
 refine⟨(sB ?_),rfl⟩
 rotate_left
 refine⟨(Ci d (by omega)),fun h15=>?_,fun h15=>?_⟩
 refine⟨(Ch d (by omega)),(sB ?_),rfl⟩
 rotate_left
 refine⟨(sB ?_),rfl⟩
 rotate_left
 refine dsp (fun h12 p12=>?_) fun h12 p12=>?_
 refine dsp (fun h13 p13=>?_) fun h13 p13=>?_
 refine⟨(sB ?_),rfl⟩
 rotate_left
 refine⟨fun h14=>have q14:=Am h14;have p14:=of_decide_eq_false q14;?_,fun h14=>have q14:=Aj h14;have p14:=of_decide_eq_true q14;?_⟩
 refine⟨h11,(Ci d (by omega)),fun h15=>?_,fun h15=>?_⟩
 refine⟨(Ch d (by omega)),(sB ?_),rfl⟩
 rotate_left
 refine⟨(sB ?_),rfl⟩
 rotate_left
 refine⟨(Ci d (by omega)),fun h15=>?_,fun h15=>?_⟩
 refine⟨(Ch d (by omega)),(sB ?_),rfl⟩
 rotate_left
 refine⟨(sB ?_),rfl⟩
 rotate_left
 refine⟨fun h13=>have q13:=Am h13;have p13:=of_decide_eq_false q13;?_,fun h13=>have q13:=Aj h13;have p13:=of_decide_eq_true q13;?_⟩
 refine⟨h11,(Ci d (by omega)),fun h14=>?_,fun h14=>?_⟩
 refine⟨(Ch d (by omega)),(sB ?_),rfl⟩
 rotate_left
 refine⟨(sB ?_),rfl⟩
 rotate_left
 refine⟨(Ci d (by omega)),fun h14=>?_,fun h14=>?_⟩
 refine⟨(Ch d (by omega)),(sB ?_),rfl⟩
 rotate_left
 refine⟨(sB ?_),rfl⟩
 rotate_left
 refine⟨fun h9=>have q9:=Am h9;have p9:=of_decide_eq_false q9;?_,fun h9=>have q9:=Aj h9;have p9:=of_decide_eq_true q9;?_⟩
 refine⟨fun h10=>have q10:=Am h10;have p10:=(Cp dT (Cp dT (Cp dT (Cp dT (Cp dT (Cp dT dF)))))).1 q10;?_,fun h10=>have q10:=Aj h10;have p10:=(Co dT (Co dT (Co dT (Co dT (Co dT (Co dT dT)))))).1 q10;?_⟩
 refine⟨(sB ?_),rfl⟩
 rotate_left
 refine dsp (fun h11 p11=>?_) fun h11 p11=>?_
 refine dsp (fun h12 p12=>?_) fun h12 p12=>?_
 refine⟨(sB ?_),rfl⟩
 rotate_left
 refine⟨fun h13=>have q13:=Am h13;have p13:=of_decide_eq_false q13;?_,fun h13=>have q13:=Aj h13;have p13:=of_decide_eq_true q13;?_⟩
 refine⟨h9,(Dz d (by omega)),dsp (fun h14 p14=>?_) fun h14 p14=>?_⟩
 refine⟨(sB ?_),rfl⟩
 rotate_left
 refine⟨(Ci d (by omega)),fun h15=>?_,fun h15=>?_⟩
 refine⟨(Ch d (by omega)),(sB ?_),rfl⟩
 rotate_left
 refine⟨(sB ?_),rfl⟩
 rotate_left
 refine⟨(Ci d (by omega)),fun h14=>?_,fun h14=>?_⟩
 refine⟨(Ch d (by omega)),(sB ?_),rfl⟩
 rotate_left
 refine⟨(sB ?_),rfl⟩
 rotate_left
 refine⟨fun h12=>have q12:=Am h12;have p12:=of_decide_eq_false q12;?_,fun h12=>have q12:=Aj h12;have p12:=of_decide_eq_true q12;?_⟩
 refine⟨h9,(Dz d (by omega)),dsp (fun h13 p13=>?_) fun h13 p13=>?_⟩
 refine⟨(sB ?_),rfl⟩
 rotate_left
 refine⟨(Ci d (by omega)),fun h14=>?_,fun h14=>?_⟩
 refine⟨(Ch d (by omega)),(sB ?_),rfl⟩
 rotate_left
 refine⟨(sB ?_),rfl⟩
 rotate_left
 refine⟨(Ci d (by omega)),fun h13=>?_,fun h13=>?_⟩
 refine⟨(Ch d (by omega)),(sB ?_),rfl⟩
 rotate_left
 refine⟨(sB ?_),rfl⟩
 rotate_left
 refine dsp (fun h10 p10=>?_) fun h10 p10=>?_
 refine dsp (fun h11 p11=>?_) fun h11 p11=>?_
 refine⟨(sB ?_),rfl⟩
 rotate_left
 refine⟨fun h12=>have q12:=Am h12;have p12:=of_decide_eq_false q12;?_,fun h12=>have q12:=Aj h12;have p12:=of_decide_eq_true q12;?_⟩
 refine⟨h9,(Ci d (by omega)),fun h13=>?_,fun h13=>?_⟩
 refine⟨(Ch d (by omega)),(sB ?_),rfl⟩
 rotate_left
 refine⟨(sB ?_),rfl⟩
 rotate_left
 refine⟨(Ci d (by omega)),fun h13=>?_,fun h13=>?_⟩
 refine⟨(Ch d (by omega)),(sB ?_),rfl⟩
 rotate_left
 refine⟨(sB ?_),rfl⟩
 rotate_left
 refine⟨fun h11=>have q11:=Am h11;have p11:=of_decide_eq_false q11;?_,fun h11=>have q11:=Aj h11;have p11:=of_decide_eq_true q11;?_⟩
 refine⟨h9,(Ci d (by omega)),fun h12=>?_,fun h12=>?_⟩
 refine⟨(Ch d (by omega)),(sB ?_),rfl⟩
 rotate_left
 refine⟨(sB ?_),rfl⟩
 rotate_left
 refine⟨(Ci d (by omega)),fun h12=>?_,fun h12=>?_⟩
 refine⟨(Ch d (by omega)),(sB ?_),rfl⟩
 rotate_left
 refine⟨(sB ?_),rfl⟩
 rotate_left
 all_goals first|(simp_all[Be,N0,H6,B3,Fm];done)|(grind[Be,N0,H6,B3,Fm])
structure Ce where
 v:Bool
def Cw (d:Dcd):Fam:=⟨Ce,fun j1000003=>[(1,.v (vP 0)),(76,.v (vB j1000003.v))],fun _=>[.cells (Bi d)],fun j1000003=>j1000003.v= !N0 d,fun _=>0⟩
structure F5 where
 u_:Nat
def Ht (d:Dcd):Fam:=⟨F5,fun j0=>[(1,.v (vP 0))],fun _=>[.cells (Bi d)],fun _=>Fk d=true,fun _=>0⟩
structure Bh where
 wires:Bool
def Bq (d:Dcd):Fam:=⟨Bh,fun j1000013=>[(1,.v (vP 0)),(3,.v (vB j1000013.wires))],fun _=>[.cells (Bi d)],fun j1000013=>j1000013.wires=D4 d,fun _=>0⟩
structure Db where
 v:Bool
def Dc (d:Dcd) (j1000013:Bh):Fam:=⟨Db,fun j1000014=>[(1,.v (vP 0)),(140,.v (vB j1000014.v))],fun _=>[.cells (Bi d)],fun j1000014=>j1000014.v=(j1000013.wires||(Ak d.mode 3 5&&(!decide (d.field=fld0)&& !Cx d.field d.wire))),fun _=>0⟩
theorem Sz (d:Dcd) (hp1:List.length (d).stack≤bigN) (hp2:List.length (d).plan.shapes≤bigN):Fun Tryz.prog 104 [.agg (Bi d)] [] (.v (vB (Be d))) []:=by
 have hN:bigN=274877906944:=rfl
 refine Af Tryz.func104 (by kernel_rfl) (by kernel_rfl) (w:=let z4:=([]:List Blk);let z5:=(.v (vB false):S);let z6:=vB (Be d);let z7:List Blk:=[.cells (Bi d)];let z8:=Ak d.want 1 (Dm d);let z9:=vB (Ym d);let z10:=decide ((d).field=fld0)||H4 (d).plan.shapes (d).field;let z11:=Bq d;let z12:=Q9 d.field;let z13:= !(decide (d.field.number=0)&&(decide (d.field.kind=0)&&(decide (d.field.rep=false)&&(decide (d.field.packed=false)&&decide (d.field.msg=0)))));let z14:= !decide (d.mode=8);let z15:=vI (Aw d.wire);let z16:=Cw d;let z3:=(!decide (d.mode=9))=true→z16.Has [(1,.v (vP 0)),(76,.v (vB (!(decide (d.end_.kind=0)&&(decide (d.end_.field=0)&&(decide (d.end_.bits=0)&&(decide (d.end_.len=0)&&(decide (d.end_.text=[])&&(decide (d.end_.code=0)&&decide (d.end_.at_=0))))))))))] z7;let z18:=z12=false→z5= .v z6∧z4=[];let z19:=vB (decide (Aw d.wire=0));let z20:=(!decide (d.mode=9))=false→z16.Has [(1,.v (vP 0)),(76,.v (vB false))] z7;let z22:=Ak d.at_ 0 1000000000;let z23:=decide (d.mode=5);let z2:=z23=false→z11.Has [(1,.v (vP 0)),(3,.v (vB false))] z7;let z24:=(!z8)=true→z5= .v z6∧z4=[];let z25:=Ak d.start 0 d.at_;let z26:= !decide (d.mode=6);let z27:=(.v z9:S);let z28:=decide (d.mode=4);let z29:=vI (Dm d);let z30:=Ak d.mode 1 9;let z31:=Ak d.mode 3 5;let z32:List V:=[vI d.want,vI 1,vI (Dm d)];let z33:=Fd d.field;let z34:=Bt d.end_;let z35:=Cx d.field d.wire;let z36:=Gs d.end_;let z37:=Ht d;let z17:=(!z8)=false→z37.Has [(1,.v (vP 0))] z7;let z38:= !decide (d.wire=2);let z21:=z38=true→z11.Has [(1,.v (vP 0)),(3,.v (vB true))] z7;let z39:=Cv d.plan;let z40:=C4 d.wire;let z41:=decide (d.mode=6);let z42:=decide (d.mode=7);let z43:=Ew d.utf;(.seg [.call [] (.v (vB z39)) []] (.br (.leaf () []) (.seg [.call [] (.v (vB z30)) []] (.br (.leaf () []) (.seg [.call [] (.v (vB z22)) []] (.br (.leaf () []) (.seg [.call [] (.v (vB z25)) []] (.br (.leaf () []) (.seg [.call [] (.v (vB z43)) []] (.br (.leaf () []) (.seg [.call [] (.v (vB z40)) []] (.br (.leaf () []) (.seg [.call [] (.v (vB z10)) []] (.br (.leaf () []) (.seg [.call [] (.v (vB (Mu d))) []] (.br (.leaf () []) (.join 1000003 z16 (.br (.seg [.call [] (.v (vB z36)) []] (.br (.seg [.at 0,.keep [1,76],.sel [0]] (.next)) (.seg [.call [] (.v (vB z34)) []] (.br (.seg [.at 0,.keep [1,76],.sel [0]] (.next)) (.br (.seg [.at 0,.keep [1,76],.sel [0]] (.next)) (.seg [.at 0,.keep [1,76],.sel [0]] (.next))))))) (.br (.seg [.at 0,.keep [1,76],.sel [0]] (.next)) (.seg [.at 0,.keep [1,76],.sel [0]] (.next)))) fun j1000003=> .br (.leaf () []) (.join 0 z37 (.br (.seg [.br true,.ord (os 6 [3,4]) [],.call [] (.v z29) [],.call [] (.v (vB z8)) []] (.br (.leaf () []) (.seg [.at 0,.keep [1],.sel [0]] (.next)))) (.br (.seg [.br true,.ord (os 6 [3,4]) [],.call [] (.v z29) [],.call [] (.v (vB z8)) []] (.br (.leaf () []) (.seg [.at 0,.keep [1],.sel [0]] (.next)))) (.br (.seg [.ord (os 6 [3,4]) [],.call [] (.v z29) [],.call [] (.v (vB z8)) []] (.br (.leaf () []) (.seg [.at 0,.keep [1],.sel [0]] (.next)))) (.br (.leaf () []) (.seg [.at 0,.keep [1],.sel [0]] (.next)))))) fun j0=> .join 1000013 z11 (.br (.br (.seg [.at 0,.keep [1,3],.sel [0]] (.next)) (.br (.br (.seg [.at 0,.keep [1,3],.sel [0]] (.next)) (.br (.seg [.call [] (.v z15) [],.at 0,.keep [1,3],.sel [0]] (.next)) (.seg [.at 0,.keep [1,3],.sel [0]] (.next)))) (.br (.seg [.call [] (.v z15) [],.at 0,.keep [1,3],.sel [0]] (.next)) (.seg [.at 0,.keep [1,3],.sel [0]] (.next))))) (.br (.br (.seg [.at 0,.keep [1,3],.sel [0]] (.next)) (.br (.seg [.call [] (.v z15) [],.at 0,.keep [1,3],.sel [0]] (.next)) (.seg [.at 0,.keep [1,3],.sel [0]] (.next)))) (.br (.seg [.call [] (.v z15) [],.at 0,.keep [1,3],.sel [0]] (.next)) (.seg [.at 0,.keep [1,3],.sel [0]] (.next))))) fun j1000013=> .join 1000014 (Dc d j1000013) (.br (.seg [.at 0,.keep [1,140],.sel [0]] (.next)) (.seg [.call [] (.v (vB z31)) []] (.br (.br (.seg [.call [] (.v (vB z35)) [],.at 0,.keep [1,140],.sel [0]] (.next)) (.seg [.at 0,.keep [1,140],.sel [0]] (.next))) (.seg [.at 0,.keep [1,140],.sel [0]] (.next))))) fun j1000014=> .br (.leaf () []) (.br (.br (.br (.seg [.call [] (.v z9) []] (.leaf () [])) (.seg [.call [] (.v (vB z12)) []] (.br (.seg [.call [] (.v z9) []] (.leaf () [])) (.leaf () [])))) (.br (.seg [.call [] (.v z9) []] (.leaf () [])) (.seg [.call [] (.v (vB z12)) []] (.br (.seg [.call [] (.v z9) []] (.leaf () [])) (.leaf () []))))) (.br (.br (.seg [.call [] (.v z9) []] (.leaf () [])) (.seg [.call [] (.v (vB z12)) []] (.br (.seg [.call [] (.v z9) []] (.leaf () [])) (.leaf () [])))) (.br (.br (.seg [.call [] (.v z9) []] (.leaf () [])) (.seg [.call [] (.v (vB z12)) []] (.br (.seg [.call [] (.v z9) []] (.leaf () [])) (.leaf () [])))) (.leaf () []))))))))))))))))))))),(Fun Tryz.prog 102 [.agg (F4 d.plan)] [] (.v (vB z39)) [])∧((!z39)=true→z5= .v z6∧z4=[])∧((!z39)=false→(Fun Tryz.prog 105 [vI d.mode,vI 1,vI 9] [] (.v (vB z30)) [])∧((!z30)=true→z5= .v z6∧z4=[])∧((!z30)=false→(Fun Tryz.prog 105 [vI d.at_,vI 0,vI 1000000000] [] (.v (vB z22)) [])∧((!z22)=true→z5= .v z6∧z4=[])∧((!z22)=false→(Fun Tryz.prog 105 [vI d.start,vI 0,vI d.at_] [] (.v (vB z25)) [])∧((!z25)=true→z5= .v z6∧z4=[])∧((!z25)=false→(Fun Tryz.prog 144 [.agg (Lb d.utf)] [] (.v (vB z43)) [])∧((!z43)=true→z5= .v z6∧z4=[])∧((!z43)=false→(Fun Tryz.prog 145 [vI d.wire] [] (.v (vB z40)) [])∧((!z40)=true→z5= .v z6∧z4=[])∧((!z40)=false→(Fun Tryz.prog 146 [.agg (Bi d)] [] (.v (vB z10)) [])∧((!z10)=true→z5= .v z6∧z4=[])∧((!z10)=false→(Fun Tryz.prog 147 [.agg (Bi d)] [] (.v (vB (Mu d))) [])∧((!(Mu d))=true→z5= .v z6∧z4=[])∧((!(Mu d))=false→(((decide (d.mode=9))=true→(Fun Tryz.prog 148 [.agg (cEv d.end_)] [] (.v (vB z36)) [])∧((!z36)=true→z16.Has [(1,.v (vP 0)),(76,.v (vB true))] z7)∧((!z36)=false→(Fun Tryz.prog 132 [.agg (cEv d.end_)] [] (.v (vB z34)) [])∧((!z34)=true→z16.Has [(1,.v (vP 0)),(76,.v (vB true))] z7)∧((!z34)=false→z3∧z20)))∧((decide (d.mode=9))=false→z3∧z20))∧∀j1000003,z16.inv j1000003→((j1000003.v=true→z5= .v z6∧z4=[])∧(j1000003.v=false→((z41=true→(z41=true)∧(Fun Tryz.prog 149 [.agg (Bi d)] [] (.v z29) [])∧(Fun Tryz.prog 105 z32 [] (.v (vB z8)) [])∧z24∧z17)∧(z41=false→(z42=true→(z42=true)∧(Fun Tryz.prog 149 [.agg (Bi d)] [] (.v z29) [])∧(Fun Tryz.prog 105 z32 [] (.v (vB z8)) [])∧z24∧z17)∧(z42=false→((decide (d.mode=8))=true→(Fun Tryz.prog 149 [.agg (Bi d)] [] (.v z29) [])∧(Fun Tryz.prog 105 z32 [] (.v (vB z8)) [])∧z24∧z17)∧((decide (d.mode=8))=false→((!decide (d.want=0))=true→z5= .v z6∧z4=[])∧((!decide (d.want=0))=false→z37.Has [(1,.v (vP 0))] z7)))))∧∀j0,z37.inv j0→((((decide (d.mode=3))=true→((!decide (d.wire=0))=true→z11.Has [(1,.v (vP 0)),(3,.v (vB true))] z7)∧((!decide (d.wire=0))=false→(z28=true→z21∧(z38=false→(z23=true→(Fun Tryz.prog 150 [vI d.wire] [] (.v z15) [])∧z11.Has [(1,.v (vP 0)),(3,.v z19)] z7)∧z2))∧(z28=false→(z23=true→(Fun Tryz.prog 150 [vI d.wire] [] (.v z15) [])∧z11.Has [(1,.v (vP 0)),(3,.v z19)] z7)∧z2)))∧((decide (d.mode=3))=false→(z28=true→z21∧(z38=false→(z23=true→(Fun Tryz.prog 150 [vI d.wire] [] (.v z15) [])∧z11.Has [(1,.v (vP 0)),(3,.v z19)] z7)∧z2))∧(z28=false→(z23=true→(Fun Tryz.prog 150 [vI d.wire] [] (.v z15) [])∧z11.Has [(1,.v (vP 0)),(3,.v z19)] z7)∧z2)))∧∀j1000013,z11.inv j1000013→(let z1:=Dc d j1000013;((j1000013.wires=true→z1.Has [(1,.v (vP 0)),(140,.v (vB true))] z7)∧(j1000013.wires=false→(Fun Tryz.prog 105 [vI d.mode,vI 3,vI 5] [] (.v (vB z31)) [])∧(z31=true→(z13=true→(Fun Tryz.prog 151 [.agg z33,vI d.wire] [] (.v (vB z35)) [])∧z1.Has [(1,.v (vP 0)),(140,.v (vB (!z35)))] z7)∧(z13=false→z1.Has [(1,.v (vP 0)),(140,.v (vB false))] z7))∧(z31=false→z1.Has [(1,.v (vP 0)),(140,.v (vB false))] z7)))∧∀j1000014,z1.inv j1000014→((j1000014.v=true→z5= .v z6∧z4=[])∧(j1000014.v=false→((decide (d.field.kind=6))=true→(z26=true→(z14=true→(Fun Tryz.prog 153 [.agg (Bi d)] [] (.v z9) [])∧z27= .v z6∧z4=[])∧(z14=false→(Fun Tryz.prog 152 [.agg z33] [] (.v (vB z12)) [])∧(z12=true→(Fun Tryz.prog 153 [.agg (Bi d)] [] (.v z9) [])∧z27= .v z6∧z4=[])∧z18))∧(z26=false→(z14=true→(Fun Tryz.prog 153 [.agg (Bi d)] [] (.v z9) [])∧z27= .v z6∧z4=[])∧(z14=false→(Fun Tryz.prog 152 [.agg z33] [] (.v (vB z12)) [])∧(z12=true→(Fun Tryz.prog 153 [.agg (Bi d)] [] (.v z9) [])∧z27= .v z6∧z4=[])∧z18)))∧((decide (d.field.kind=6))=false→(z26=true→(z14=true→(Fun Tryz.prog 153 [.agg (Bi d)] [] (.v z9) [])∧z27= .v z6∧z4=[])∧(z14=false→(Fun Tryz.prog 152 [.agg z33] [] (.v (vB z12)) [])∧(z12=true→(Fun Tryz.prog 153 [.agg (Bi d)] [] (.v z9) [])∧z27= .v z6∧z4=[])∧z18))∧(z26=false→((decide (d.field.kind=7))=true→(z14=true→(Fun Tryz.prog 153 [.agg (Bi d)] [] (.v z9) [])∧z27= .v z6∧z4=[])∧(z14=false→(Fun Tryz.prog 152 [.agg z33] [] (.v (vB z12)) [])∧(z12=true→(Fun Tryz.prog 153 [.agg (Bi d)] [] (.v z9) [])∧z27= .v z6∧z4=[])∧z18))∧((decide (d.field.kind=7))=false→z5= .v z6∧z4=[]))))))))))))))))))) (by kernel_rfl) ?_
 refine⟨(Vv d.plan),fun h1=>have q1:=Am h1;?_,fun h1=>have q1:=Aj h1;have p1:=By q1;?_⟩
 refine⟨(sB ?_),rfl⟩
 rotate_left
 have hpt:=By q1
 refine⟨(A8 _ _ _),fun h2=>have q2:=Am h2;have p2:=Ay q2;?_,fun h2=>have q2:=Aj h2;have p2:=Ap q2;?_⟩
 refine⟨(sB ?_),rfl⟩
 rotate_left
 refine⟨(A8 _ _ _),fun h3=>have q3:=Am h3;have p3:=Ay q3;?_,fun h3=>have q3:=Aj h3;have p3:=Ap q3;?_⟩
 refine⟨(sB ?_),rfl⟩
 rotate_left
 refine⟨(A8 _ _ _),fun h4=>have q4:=Am h4;have p4:=Ay q4;?_,fun h4=>have q4:=Aj h4;have p4:=Ap q4;?_⟩
 refine⟨(sB ?_),rfl⟩
 rotate_left
 refine⟨(Adn d.utf),fun h5=>have q5:=Am h5;?_,fun h5=>have q5:=Aj h5;have p5:=Kz q5;?_⟩
 refine⟨(sB ?_),rfl⟩
 rotate_left
 refine⟨(Aaa _),fun h6=>have q6:=Am h6;?_,fun h6=>have q6:=Aj h6;?_⟩
 refine⟨(sB ?_),rfl⟩
 rotate_left
 have hwk:=Aae (w:=d.wire) q6
 refine⟨(Abg d (by omega) (Dr hpt.2.1)),fun h7=>have q7:=Am h7;have p7:=(orF dF Iff.rfl).1 q7;?_,fun h7=>have q7:=Aj h7;have p7:=(orT dT Iff.rfl).1 q7;?_⟩
 refine⟨(sB ?_),rfl⟩
 rotate_left
 refine⟨(Afk d (by omega) (by omega)),fun h8=>have q8:=Am h8;?_,fun h8=>have q8:=Aj h8;?_⟩
 refine⟨(sB ?_),rfl⟩
 rotate_left
 refine⟨?_,fun (j1000003:Ce) hq_j1000003=>?_⟩
 refine dsp (fun h10 p10=>?_) fun h10 p10=>?_
 refine⟨(Adr d.end_),fun h11=>have q11:=Am h11;?_,fun h11=>have q11:=Aj h11;?_⟩
 exact Bc (j:=(⟨true⟩:Ce)) rfl rfl (by dsimp only[Cw];first|((simp_all[N0,Fm];done))|(grind[N0,Fm]))
 refine⟨(Qf d.end_),fun h12=>have q12:=Am h12;?_,fun h12=>have q12:=Aj h12;?_⟩
 exact Bc (j:=(⟨true⟩:Ce)) rfl rfl (by dsimp only[Cw];first|((simp_all[N0,Fm];done))|(grind[N0,Fm]))
 refine⟨fun h13=>have q13:=Am h13;have p13:=of_decide_eq_false q13;?_,fun h13=>have q13:=Aj h13;have p13:=of_decide_eq_true q13;?_⟩
 exact Bc (j:=(⟨!(decide (d.end_.kind=0)&&(decide (d.end_.field=0)&&(decide (d.end_.bits=0)&&(decide (d.end_.len=0)&&(decide (d.end_.text=[])&&(decide (d.end_.code=0)&&decide (d.end_.at_=0)))))))⟩:Ce)) rfl rfl (by dsimp only[Cw];first|((simp_all[N0,Fm];done))|(grind[N0,Fm]))
 exact Bc (j:=(⟨false⟩:Ce)) rfl rfl (by dsimp only[Cw];first|((simp_all[N0,Fm];done))|(grind[N0,Fm]))
 refine⟨fun h11=>have q11:=Am h11;have p11:=of_decide_eq_false q11;?_,fun h11=>have q11:=Aj h11;have p11:=of_decide_eq_true q11;?_⟩
 exact Bc (j:=(⟨!(decide (d.end_.kind=0)&&(decide (d.end_.field=0)&&(decide (d.end_.bits=0)&&(decide (d.end_.len=0)&&(decide (d.end_.text=[])&&(decide (d.end_.code=0)&&decide (d.end_.at_=0)))))))⟩:Ce)) rfl rfl (by dsimp only[Cw];first|((simp_all[N0,Fm];done))|(grind[N0,Fm]))
 exact Bc (j:=(⟨false⟩:Ce)) rfl rfl (by dsimp only[Cw];first|((simp_all[N0,Fm];done))|(grind[N0,Fm]))
 have hi_j1000003:j1000003.v= !N0 d:=hq_j1000003
 refine⟨fun h10=>?_,fun h10=>?_⟩
 refine⟨(sB ?_),rfl⟩
 rotate_left
 refine⟨?_,fun (j0:F5) hq_j0=>?_⟩
 refine dsp (fun h12 p12=>?_) fun h12 p12=>?_
 refine⟨h12,(L8 d (by omega)),(A8 _ _ _),fun h13=>have q13:=Am h13;have p13:=Ay q13;?_,fun h13=>have q13:=Aj h13;have p13:=Ap q13;?_⟩
 refine⟨(sB ?_),rfl⟩
 rotate_left
 exact Bc (j:=(⟨0⟩:F5)) rfl rfl (by dsimp only[Ht];first|((simp_all[Fk];done))|(grind[Fk]))
 refine dsp (fun h13 p13=>?_) fun h13 p13=>?_
 refine⟨h13,(L8 d (by omega)),(A8 _ _ _),fun h14=>have q14:=Am h14;have p14:=Ay q14;?_,fun h14=>have q14:=Aj h14;have p14:=Ap q14;?_⟩
 refine⟨(sB ?_),rfl⟩
 rotate_left
 exact Bc (j:=(⟨0⟩:F5)) rfl rfl (by dsimp only[Ht];first|((simp_all[Fk];done))|(grind[Fk]))
 refine dsp (fun h14 p14=>?_) fun h14 p14=>?_
 refine⟨(L8 d (by omega)),(A8 _ _ _),fun h15=>have q15:=Am h15;have p15:=Ay q15;?_,fun h15=>have q15:=Aj h15;have p15:=Ap q15;?_⟩
 refine⟨(sB ?_),rfl⟩
 rotate_left
 exact Bc (j:=(⟨0⟩:F5)) rfl rfl (by dsimp only[Ht];first|((simp_all[Fk];done))|(grind[Fk]))
 refine⟨fun h15=>have q15:=Am h15;have p15:=of_decide_eq_false q15;?_,fun h15=>have q15:=Aj h15;have p15:=of_decide_eq_true q15;?_⟩
 refine⟨(sB ?_),rfl⟩
 rotate_left
 exact Bc (j:=(⟨0⟩:F5)) rfl rfl (by dsimp only[Ht];first|((simp_all[Fk];done))|(grind[Fk]))
 have hi_j0:Fk d=true:=hq_j0
 refine⟨?_,fun (j1000013:Bh) hq_j1000013=>?_⟩
 refine dsp (fun h13 p13=>?_) fun h13 p13=>?_
 refine⟨fun h14=>have q14:=Am h14;have p14:=of_decide_eq_false q14;?_,fun h14=>have q14:=Aj h14;have p14:=of_decide_eq_true q14;?_⟩
 exact Bc (j:=(⟨true⟩:Bh)) rfl rfl (by dsimp only[Bq];first|((simp_all[D4];done))|(grind[D4]))
 refine dsp (fun h15 p15=>?_) fun h15 p15=>?_
 refine⟨fun h16=>have q16:=Am h16;have p16:=of_decide_eq_false q16;?_,fun h16=>have q16:=Aj h16;have p16:=of_decide_eq_true q16;?_⟩
 exact Bc (j:=(⟨true⟩:Bh)) rfl rfl (by dsimp only[Bq];first|((simp_all[D4];done))|(grind[D4]))
 refine dsp (fun h17 p17=>?_) fun h17 p17=>?_
 exact⟨(Gd _),Bc (j:=(⟨decide (Aw d.wire=0)⟩:Bh)) rfl rfl (by dsimp only[Bq];first|((simp_all[D4];done))|(grind[D4]))⟩
 exact Bc (j:=(⟨false⟩:Bh)) rfl rfl (by dsimp only[Bq];first|((simp_all[D4];done))|(grind[D4]))
 refine dsp (fun h16 p16=>?_) fun h16 p16=>?_
 exact⟨(Gd _),Bc (j:=(⟨decide (Aw d.wire=0)⟩:Bh)) rfl rfl (by dsimp only[Bq];first|((simp_all[D4];done))|(grind[D4]))⟩
 exact Bc (j:=(⟨false⟩:Bh)) rfl rfl (by dsimp only[Bq];first|((simp_all[D4];done))|(grind[D4]))
 refine dsp (fun h14 p14=>?_) fun h14 p14=>?_
 refine⟨fun h15=>have q15:=Am h15;have p15:=of_decide_eq_false q15;?_,fun h15=>have q15:=Aj h15;have p15:=of_decide_eq_true q15;?_⟩
 exact Bc (j:=(⟨true⟩:Bh)) rfl rfl (by dsimp only[Bq];first|((simp_all[D4];done))|(grind[D4]))
 refine dsp (fun h16 p16=>?_) fun h16 p16=>?_
 exact⟨(Gd _),Bc (j:=(⟨decide (Aw d.wire=0)⟩:Bh)) rfl rfl (by dsimp only[Bq];first|((simp_all[D4];done))|(grind[D4]))⟩
 exact Bc (j:=(⟨false⟩:Bh)) rfl rfl (by dsimp only[Bq];first|((simp_all[D4];done))|(grind[D4]))
 refine dsp (fun h15 p15=>?_) fun h15 p15=>?_
 exact⟨(Gd _),Bc (j:=(⟨decide (Aw d.wire=0)⟩:Bh)) rfl rfl (by dsimp only[Bq];first|((simp_all[D4];done))|(grind[D4]))⟩
 exact Bc (j:=(⟨false⟩:Bh)) rfl rfl (by dsimp only[Bq];first|((simp_all[D4];done))|(grind[D4]))
 have hi_j1000013:j1000013.wires=D4 d:=hq_j1000013
 refine⟨?_,fun (j1000014:Db) hq_j1000014=>?_⟩
 refine⟨fun h14=>?_,fun h14=>?_⟩
 exact Bc (j:=(⟨true⟩:Db)) rfl rfl (by dsimp only[Dc];first|((simp_all[B3];done))|(grind[B3]))
 refine⟨(A8 _ _ _),fun h15=>have p15:=Ap h15;?_,fun h15=>have p15:=Ay h15;?_⟩
 refine⟨fun h16=>have q16:=Am h16;have p16:=(Cp dT (Cp dT (Cp dT (Cp dT dF)))).1 q16;?_,fun h16=>have q16:=Aj h16;have p16:=(Co dT (Co dT (Co dT (Co dT dT)))).1 q16;?_⟩
 exact⟨(Xd d.field _ (by omega)),Bc (j:=(⟨!(Cx d.field d.wire)⟩:Db)) rfl rfl (by dsimp only[Dc];first|((simp_all[B3];done))|(grind[B3]))⟩
 exact Bc (j:=(⟨false⟩:Db)) rfl rfl (by dsimp only[Dc];first|((simp_all[B3];done))|(grind[B3]))
 exact Bc (j:=(⟨false⟩:Db)) rfl rfl (by dsimp only[Dc];first|((simp_all[B3];done))|(grind[B3]))
 have hi_j1000014:j1000014.v=(j1000013.wires||(Ak d.mode 3 5&&(!decide (d.field=fld0)&& !Cx d.field d.wire))):=hq_j1000014
 refine⟨fun h14=>?_,fun h14=>?_⟩
 refine⟨(sB ?_),rfl⟩
 rotate_left
 refine dsp (fun h15 p15=>?_) fun h15 p15=>?_
 refine⟨fun h16=>have q16:=Am h16;have p16:=of_decide_eq_false q16;?_,fun h16=>have q16:=Aj h16;have p16:=of_decide_eq_true q16;?_⟩
 refine⟨fun h17=>have q17:=Am h17;have p17:=of_decide_eq_false q17;?_,fun h17=>have q17:=Aj h17;have p17:=of_decide_eq_true q17;?_⟩
 refine⟨(Mv d (by omega)),(sB ?_),rfl⟩
 rotate_left
 refine⟨(Uo d.field),fun h18=>?_,fun h18=>?_⟩
 refine⟨(Mv d (by omega)),(sB ?_),rfl⟩
 rotate_left
 refine⟨(sB ?_),rfl⟩
 rotate_left
 refine⟨fun h17=>have q17:=Am h17;have p17:=of_decide_eq_false q17;?_,fun h17=>have q17:=Aj h17;have p17:=of_decide_eq_true q17;?_⟩
 refine⟨(Mv d (by omega)),(sB ?_),rfl⟩
 rotate_left
 refine⟨(Uo d.field),fun h18=>?_,fun h18=>?_⟩
 refine⟨(Mv d (by omega)),(sB ?_),rfl⟩
 rotate_left
 refine⟨(sB ?_),rfl⟩
 rotate_left
 refine⟨fun h16=>have q16:=Am h16;have p16:=of_decide_eq_false q16;?_,fun h16=>have q16:=Aj h16;have p16:=of_decide_eq_true q16;?_⟩
 refine⟨fun h17=>have q17:=Am h17;have p17:=of_decide_eq_false q17;?_,fun h17=>have q17:=Aj h17;have p17:=of_decide_eq_true q17;?_⟩
 refine⟨(Mv d (by omega)),(sB ?_),rfl⟩
 rotate_left
 refine⟨(Uo d.field),fun h18=>?_,fun h18=>?_⟩
 refine⟨(Mv d (by omega)),(sB ?_),rfl⟩
 rotate_left
 refine⟨(sB ?_),rfl⟩
 rotate_left
 refine dsp (fun h17 p17=>?_) fun h17 p17=>?_
 refine⟨fun h18=>have q18:=Am h18;have p18:=of_decide_eq_false q18;?_,fun h18=>have q18:=Aj h18;have p18:=of_decide_eq_true q18;?_⟩
 refine⟨(Mv d (by omega)),(sB ?_),rfl⟩
 rotate_left
 refine⟨(Uo d.field),fun h19=>?_,fun h19=>?_⟩
 refine⟨(Mv d (by omega)),(sB ?_),rfl⟩
 rotate_left
 refine⟨(sB ?_),rfl⟩
 rotate_left
 refine⟨(sB ?_),rfl⟩
 rotate_left
 all_goals rw[←Adc];first|(simp_all[W7,N0,Fk,D4,B3,Fm];done)|(grind[W7,N0,Fk,D4,B3,Fm,F1])
theorem Vx (l:List Lev) (hp1:l.length≤bigN):Fun Tryz.prog 122 [.c (.seq .lev l)] [] (.v (vO 0)) [.lst .lev l]:=by
 refine⟨C1 Tryz.func122 (by kernel_rfl) (by kernel_rfl),?_⟩
 have key:Sm Tryz.prog 8 0 (W4 Tryz.f122 1) [(2,.v (.c .nil)),(0,.v (.c (.seq .lev l)))] [] .ret [(2,.v (.c (.own 0)))] [.lst .lev l]:=by
  refine Sm.nilTest' (s:=0) (t3:=3) (t4:=4) (t:= .lev) (l:=l) rfl rfl rfl rfl rfl rfl rfl Tryz.underlying52 (by kernel_rfl) rfl rfl rfl fun p hp=>?_
  cases p with
  |true=>
   have hl:=hp rfl
   subst hl
   exact .inr ⟨by decide,Bj (ds:=[.br true,.at 0,.mkS 2 .lev,.keep [2],.sel [0]]) (ob:=[true=true]) (by kernel_rfl) ⟨rfl,trivial⟩⟩
  |false=>
   exact .inl ⟨[(0,.v (.c (.seq .lev l)))],[],Bj (ds:=[.br false,.at 0,.keep [0],.sel []]) (ob:=[false=false]) (by kernel_rfl) ⟨rfl,trivial⟩,
    (Bj (tm':=[(2,.v (.c (.own 0)))]) (H':=[.lst .lev ([]++l)]) (ds:=[.ty .lev,.ty .lev,.at 0,.keep [2],.sel [1]]) (ob:=[List.length ([]:List Lev)+l.length≤bigN]) (by kernel_rfl) ⟨by simpa using hp1,trivial⟩).to (by rfl) (by rfl)⟩
 exact D0 Tryz.func122 (res:= .v (.c (.own 0))) (L':=[.lst .lev l]) (ds:=[.jump 1 .ret [(2,.v (.c (.own 0)))] [.lst .lev l]]) (σ:=[0]) (ob:=[Sm Tryz.prog 8 0 (W4 Tryz.f122 1) [(2,.v (.c .nil)),(0,.v (.c (.seq .lev l)))] [] .ret [(2,.v (.c (.own 0)))] [.lst .lev l]]) (by kernel_rfl) ⟨key,trivial⟩
theorem Afm (l:List Fld) (hp1:l.length≤bigN):Fun Tryz.prog 204 [.c (.seq .fld l)] [] (.v (vO 0)) [.lst .fld l]:=by
 refine⟨C1 Tryz.func204 (by kernel_rfl) (by kernel_rfl),?_⟩
 have key:Sm Tryz.prog 8 0 (W4 Tryz.f204 1) [(2,.v (.c .nil)),(0,.v (.c (.seq .fld l)))] [] .ret [(2,.v (.c (.own 0)))] [.lst .fld l]:=by
  refine Sm.nilTest' (s:=0) (t3:=3) (t4:=4) (t:= .fld) (l:=l) rfl rfl rfl rfl rfl rfl rfl Tryz.underlying183 (by kernel_rfl) rfl rfl rfl fun p hp=>?_
  cases p with
  |true=>
   have hl:=hp rfl
   subst hl
   exact .inr ⟨by decide,Bj (ds:=[.br true,.at 0,.mkS 2 .fld,.keep [2],.sel [0]]) (ob:=[true=true]) (by kernel_rfl) ⟨rfl,trivial⟩⟩
  |false=>
   exact .inl ⟨[(0,.v (.c (.seq .fld l)))],[],Bj (ds:=[.br false,.at 0,.keep [0],.sel []]) (ob:=[false=false]) (by kernel_rfl) ⟨rfl,trivial⟩,
    (Bj (tm':=[(2,.v (.c (.own 0)))]) (H':=[.lst .fld ([]++l)]) (ds:=[.ty .fld,.ty .fld,.at 0,.keep [2],.sel [1]]) (ob:=[List.length ([]:List Fld)+l.length≤bigN]) (by kernel_rfl) ⟨by simpa using hp1,trivial⟩).to (by rfl) (by rfl)⟩
 exact D0 Tryz.func204 (res:= .v (.c (.own 0))) (L':=[.lst .fld l]) (ds:=[.jump 1 .ret [(2,.v (.c (.own 0)))] [.lst .fld l]]) (σ:=[0]) (ob:=[Sm Tryz.prog 8 0 (W4 Tryz.f204 1) [(2,.v (.c .nil)),(0,.v (.c (.seq .fld l)))] [] .ret [(2,.v (.c (.own 0)))] [.lst .fld l]]) (by kernel_rfl) ⟨key,trivial⟩
structure Kg where
 sh:List Shp
 v:Nat
def Kh (s:List Shp):Fam:=⟨Kg,fun q1=>[(2,.v (vP 0)),(3,.v (vP 1)),(8,.v (.c (.seq .shp s))),(9,.v (vI (s.length:Int))),(10,.v (vI (q1.v:Int)))],fun q1=>[.cells [.nil],.cells [.own 2],.tree q1.sh],fun q1=>q1.v≤s.length∧q1.sh=List.take q1.v s,fun q1=>s.length-q1.v⟩
theorem Ads (s:List Shp) (hp1:s.length≤1048576) (hp2: ∀e∈s,e.fields.length≤1048576):Fun Tryz.prog 169 [.agg [.seq .shp s]] [] (.v (.agg [.own 0])) [.tree s]:=by
 have hN:bigN=274877906944:=rfl
 refine Af Tryz.func169 (by kernel_rfl) (by kernel_rfl) (w:=let z2:=(s.length:Int);let z3:=Kh s;(.seg [.at 0,.mkT 2 0,.keep [2,3,8,9,10],.sel [1,2,3]] (.loop z3 fun q1=> .br (.intro (fun (x1:Shp)=>s[q1.v]? =some x1) fun x1=> .seg [.el .shp x1,.ord (os 12 [6,8,9,11]) [2],.call [] (.v (vO 0)) [.lst .fld x1.fields],.tyT,.tyT,.as 25 (.v (vI ((q1.v:Int)+1))),.at 0,.keep [2,3,8,9,10],.sel [0,1,6]] (.next)) (.leaf () [2])),z3.Has [(2,.v (vP 0)),(3,.v (vP 1)),(8,.v (.c (.seq .shp s))),(9,.v (vI z2)),(10,.v (vI 0))] [.cells [.nil],.cells [.own 2],.tree ([]:List Shp)]∧∀q1,z3.inv q1→(let z1:=(q1.v:Int);((decide (z1<z2))=true→(∃(x1:Shp),s[q1.v]? =some x1)∧∀(x1:Shp),(s[q1.v]? =some x1)→((s[q1.v]? =some x1)∧((0:Int)≤z1)∧(Fun Tryz.prog 204 [.c (.seq .fld x1.fields)] [] (.v (vO 0)) [.lst .fld x1.fields])∧(q1.sh.length+List.length [(⟨x1.id,x1.fields⟩:Shp)]≤bigN)∧((.v (vI (IntKind.i64.wrap (z1+1))):S)= .v (vI (z1+1)))∧z3.Nxt q1 [(2,.v (vP 0)),(3,.v (vP 1)),(8,.v (.c (.seq .shp s))),(9,.v (vI z2)),(10,.v (vI (z1+1)))] [.cells [.nil],.cells [.own 2],.tree (q1.sh++[(⟨x1.id,x1.fields⟩:Shp)])]))∧((decide (z1<z2))=false→(.v (.agg [.own 0]):S)= .v (.agg [.own 0])∧([.tree q1.sh]:List Blk)=[.tree s])))) (by kernel_rfl) ?_
 refine⟨Bc (j:=(⟨([]:List Shp),0⟩:Kg)) (by first|rfl|simp) rfl (by dsimp only[Kh];exact⟨by omega,by simp⟩),fun (q1:Kg) hq_q1=>?_⟩
 have hi_q1:q1.v≤s.length∧q1.sh=List.take q1.v s:=hq_q1
 obtain ⟨v1,v2⟩:=hi_q1
 have hsl:=congrArg List.length v2
 rw[List.length_take] at hsl
 refine dsp (fun h1 p1=>?_) fun h1 p1=>?_
 refine⟨(Bo (l:=s) (i:=q1.v) (by omega)),fun x1 hx1=>?_⟩
 have hfx:=hp2 x1 (List.mem_of_getElem? hx1)
 exact⟨hx1,(by omega),(Afm x1.fields (by omega)),(by simp only[List.length_cons,List.length_nil];omega),(Ah (by omega) (by omega)),Bm (j:=(⟨q1.sh++[(⟨x1.id,x1.fields⟩:Shp)],q1.v+1⟩:Kg)) (by first|rfl|simp) rfl (by dsimp only[Kh];exact⟨by omega,by rw[v2,List.take_succ_eq_append_getElem (by omega)];simp[(List.getElem?_eq_some_iff.1 hx1).2]⟩) (by dsimp only[Kh];omega)⟩
 refine⟨rfl,(Aa (congrArg Blk.tree ?_) rfl)⟩
 rotate_left
 all_goals first|(rfl)|((rw[v2,List.take_of_length_le (by omega)];done))
theorem Pq (p:Pln) (hp1:List.length (p).shapes≤1048576) (hp2: ∀e∈(p).shapes,e.fields.length≤1048576):Fun Tryz.prog 121 [.agg (F4 p)] [] (.v (.agg (Nw 0 p))) [.tree p.shapes]:=by
 have hN:bigN=274877906944:=rfl
 refine Af Tryz.func121 (by kernel_rfl) (by kernel_rfl) (w:=(.seg [.call [] (.v (.agg [.own 0])) [.tree p.shapes]] (.leaf () [2]),(Fun Tryz.prog 169 [.agg [.seq .shp p.shapes]] [] (.v (.agg [.own 0])) [.tree p.shapes])∧(.v (.agg (Nw 0 p)):S)= .v (.agg (Nw 0 p))∧([.tree p.shapes]:List Blk)=[.tree p.shapes])) (by kernel_rfl) ?_
 exact⟨(Ads p.shapes (by omega) (hp2)),rfl,rfl⟩
theorem K4 (d:Dcd) (hp1:List.length (d).plan.shapes≤1048576) (hp2: ∀e∈(d).plan.shapes,e.fields.length≤1048576) (hp3:List.length (d).stack≤1048576):Fun Tryz.prog 70 [.agg (Bi d)] [] (.v (.agg (Ac 0 1 d))) [.tree d.plan.shapes,.lst .lev d.stack]:=by
 have hN:bigN=274877906944:=rfl
 refine Af Tryz.func70 (by kernel_rfl) (by kernel_rfl) (w:=let zi:Int→C:= .int .i64;let z1:List C:=[.nil,zi 0,zi 0,zi 0,zi 0,.nil,.int .u64 0,zi 0,zi 0,zi 0,zi 0,zi 0,.bool false,.bool false,zi 0,zi 0,zi 0,zi 0,zi 0,zi 0,zi 0,zi 0,.int .u64 0,zi 0,.str [],zi 0,zi 0];let z2:List Blk:=[.cells (Ac 1 2 d),.tree d.plan.shapes,.lst .lev d.stack,.cells z1];let z3:=([(1,.v (vP 0)),(2,.v (vP 3))]:List (Nat×S))=[(1,.v (vP 0)),(2,.v (vP 3))];let z4:List Blk:=[.lst .lev d.stack];let z5:=Nw 0 d.plan;(.seg [.tree (.first 0 (.first 3 (.two 1 (.two 2 (.one 4 (.first 6 (.one 5 (.one 7 (.first 8 (.one 9 (.done))))))) 4 (.one 2 (.first 6 (.one 5 (.one 7 (.first 8 (.one 9 (.done)))))))) 4 (.one 1 (.one 2 (.first 6 (.one 5 (.one 7 (.first 8 (.one 9 (.done))))))))))) 9 [0],.call [] (.v (.agg z5)) [.tree d.plan.shapes],.call [] (.v (vO 0)) z4,.at 0,.keep [1,2],.sel [0,2,3,1],.call [] (.v (.agg z5)) [.tree d.plan.shapes],.call [] (.v (vO 0)) z4,.at 0,.keep [1,2],.sel [0,2,3,1],.call [] (.v (.agg z5)) [.tree d.plan.shapes],.call [] (.v (vO 0)) z4,.at 0,.keep [1,2],.sel [0,2,3,1]] (.leaf () [1,2]),(Fun Tryz.prog 121 [.agg (F4 d.plan)] [] (.v (.agg z5)) [.tree d.plan.shapes])∧(Fun Tryz.prog 122 [.c (.seq .lev d.stack)] [] (.v (vO 0)) z4)∧(Fun Tryz.prog 121 [.agg (F4 d.plan)] [] (.v (.agg z5)) [.tree d.plan.shapes])∧(Fun Tryz.prog 122 [.c (.seq .lev d.stack)] [] (.v (vO 0)) z4)∧((z2:List Blk)=z2)∧z3∧(Fun Tryz.prog 121 [.agg (F4 d.plan)] [] (.v (.agg z5)) [.tree d.plan.shapes])∧(Fun Tryz.prog 122 [.c (.seq .lev d.stack)] [] (.v (vO 0)) z4)∧((z2:List Blk)=z2)∧z3∧(.v (.agg (Ac 0 1 d)):S)= .v (.agg (Ac 0 1 d))∧([.tree d.plan.shapes,.lst .lev d.stack]:List Blk)=[.tree d.plan.shapes,.lst .lev d.stack])) (by kernel_rfl) ?_
 exact⟨(Pq d.plan (by omega) (hp2)),(Vx d.stack (by omega)),(Pq d.plan (by omega) (hp2)),(Vx d.stack (by omega)),rfl,rfl,(Pq d.plan (by omega) (hp2)),(Vx d.stack (by omega)),rfl,rfl,rfl,rfl⟩
theorem Afn (p:Pln) (hp1:List.length (p).shapes≤bigN):Fun Tryz.prog 114 [.agg (F4 p)] [] (.tup [.agg (Ac 0 1 (E0 p)),vB (Cv p)]) [.tree (E0 p).plan.shapes,.lst .lev (E0 p).stack]:=by
 have hN:bigN=274877906944:=rfl
 refine Af Tryz.func114 (by kernel_rfl) (by kernel_rfl) (w:=let zi:Int→C:= .int .i64;let z1:List C:=[.own 1,.int .u64 0,zi 0,zi 0,zi 0,zi 0,zi 0,.bool false,.bool false,zi 0,zi 0,zi 0,zi 0,zi 0,zi 0,zi 0,zi 0,.int .u64 0,zi 0,.str [],zi 0,zi 0];let z2:=Cv p;let z3:=E0 p;(.seg [.call [] (.v (vB z2)) []] (.br (.seg [.at 0,.mkT 1 0,.mk 1 5 .lev] (.leaf () [2,3])) (.seg [.call [] (.v (.agg (Nw 0 p))) [.tree p.shapes],.at 0,.mk 1 5 .lev] (.leaf () [2,3]))),(Fun Tryz.prog 165 [.agg (F4 p)] [] (.v (vB z2)) [])∧((!z2)=true→(.tup [.agg (.own 0::zi 0::zi 0::zi 0::zi 0::z1),vB false]:S)= .tup [.agg (Ac 0 1 z3),vB z2]∧([.tree ([]:List Shp),.lst .lev ([]:List Lev)]:List Blk)=[.tree z3.plan.shapes,.lst .lev z3.stack])∧((!z2)=false→(Fun Tryz.prog 121 [.agg (F4 p)] [] (.v (.agg (Nw 0 p))) [.tree p.shapes])∧(.tup [.agg (.own 0::zi p.root::zi p.deep::zi p.most::zi 1::z1),vB true]:S)= .tup [.agg (Ac 0 1 z3),vB z2]∧([.tree p.shapes,.lst .lev ([]:List Lev)]:List Blk)=[.tree z3.plan.shapes,.lst .lev z3.stack]))) (by kernel_rfl) ?_
 refine⟨(Aac p),fun h1=>have q1:=Am h1;?_,fun h1=>have q1:=Aj h1;have p1:=By q1;?_⟩
 refine have hm1:E0 p=(⟨(⟨([]:List Shp),0,0,0⟩:Pln),0,([]:List Lev),(⟨0,0⟩:Scn),0,0,(⟨0,0,false,false,0⟩:Fld),0,0,utf0,(⟨0,0,0,0,[],0,0⟩:Ev)⟩:Dcd):=?_;?_
 rotate_left
 refine⟨(congrArg S.tup (Aa (congrArg V.agg (Aa rfl (Aa (congrArg (C.int .i64) ?_) (Aa (congrArg (C.int .i64) ?_) (Aa (congrArg (C.int .i64) ?_) (Aa (congrArg (C.int .i64) ?_) (Aa rfl (Aa (congrArg (C.int .u64) ?_) (Aa (congrArg (C.int .i64) ?_) (Aa (congrArg (C.int .i64) ?_) (Aa (congrArg (C.int .i64) ?_) (Aa (congrArg (C.int .i64) ?_) (Aa (congrArg (C.int .i64) ?_) (Aa (congrArg C.bool ?_) (Aa (congrArg C.bool ?_) (Aa (congrArg (C.int .i64) ?_) (Aa (congrArg (C.int .i64) ?_) (Aa (congrArg (C.int .i64) ?_) (Aa (congrArg (C.int .i64) ?_) (Aa (congrArg (C.int .i64) ?_) (Aa (congrArg (C.int .i64) ?_) (Aa (congrArg (C.int .i64) ?_) (Aa (congrArg (C.int .i64) ?_) (Aa (congrArg (C.int .u64) ?_) (Aa (congrArg (C.int .i64) ?_) (Aa (congrArg C.str ?_) (Aa (congrArg (C.int .i64) ?_) (Aa (congrArg (C.int .i64) ?_) rfl)))))))))))))))))))))))))))) (Aa (congrArg V.c (congrArg C.bool ?_)) rfl))),(by rw[hm1]<;>rfl)⟩
 rotate_left 26
 have hpt:=By q1
 refine⟨(Pq p (by omega) (Dp hpt.2.1)),?_⟩
 refine have hm1:E0 p=(⟨p,1,([]:List Lev),(⟨0,0⟩:Scn),0,0,(⟨0,0,false,false,0⟩:Fld),0,0,utf0,(⟨0,0,0,0,[],0,0⟩:Ev)⟩:Dcd):=?_;?_
 rotate_left
 refine⟨(congrArg S.tup (Aa (congrArg V.agg (Aa rfl (Aa (congrArg (C.int .i64) ?_) (Aa (congrArg (C.int .i64) ?_) (Aa (congrArg (C.int .i64) ?_) (Aa (congrArg (C.int .i64) ?_) (Aa rfl (Aa (congrArg (C.int .u64) ?_) (Aa (congrArg (C.int .i64) ?_) (Aa (congrArg (C.int .i64) ?_) (Aa (congrArg (C.int .i64) ?_) (Aa (congrArg (C.int .i64) ?_) (Aa (congrArg (C.int .i64) ?_) (Aa (congrArg C.bool ?_) (Aa (congrArg C.bool ?_) (Aa (congrArg (C.int .i64) ?_) (Aa (congrArg (C.int .i64) ?_) (Aa (congrArg (C.int .i64) ?_) (Aa (congrArg (C.int .i64) ?_) (Aa (congrArg (C.int .i64) ?_) (Aa (congrArg (C.int .i64) ?_) (Aa (congrArg (C.int .i64) ?_) (Aa (congrArg (C.int .i64) ?_) (Aa (congrArg (C.int .u64) ?_) (Aa (congrArg (C.int .i64) ?_) (Aa (congrArg C.str ?_) (Aa (congrArg (C.int .i64) ?_) (Aa (congrArg (C.int .i64) ?_) rfl)))))))))))))))))))))))))))) (Aa (congrArg V.c (congrArg C.bool ?_)) rfl))),(by rw[hm1]<;>rfl)⟩
 rotate_left 26
 all_goals first|(simp_all[E0,utf0];done)|(grind[E0,utf0])
structure Ki where
 sh:List Shp
 i:Nat
def Kj (s:List Shp):Fam:=⟨Ki,fun q1=>[(1,.v (vP 0)),(2,.v (vP 1)),(3,.v (vP 2)),(4,.v (vI (q1.i:Int)))],fun q1=>[.cells [.seq .shp s],.cells [.nil],.cells [.own 3],.tree q1.sh],fun q1=>q1.i≤s.length∧q1.sh=List.take q1.i s,fun q1=>s.length-q1.i⟩
theorem Xg (s:List Shp) (hp1:s.length≤1048576) (hp2: ∀e∈s,e.fields.length≤1048576):Fun Tryz.prog 103 [.agg [.seq .shp s]] [] (.v (.agg [.own 0])) [.tree s]:=by
 have hN:bigN=274877906944:=rfl
 refine Af Tryz.func103 (by kernel_rfl) (by kernel_rfl) (w:=let z4:=Kj s;(.seg [.at 0,.mkT 2 0,.keep [1,2,3,4],.sel [0,1,2,3]] (.loop z4 fun q1=> .br (.intro (fun (x1:Shp)=>s[q1.i]? =some x1) fun x1=> .seg [.ord [(0,true),(1,true),(2,true),(3,true),(4,true),(5,true),(6,true),(7,true),(9,true),(10,true),(11,true),(12,true),(13,true),(14,true),(8,false),(15,false),(16,true),(17,false),(18,false),(19,true),(20,false)] [3],.el .shp x1,.el .shp x1,.ty .fld,.ty .fld,.tyT,.tyT,.as 12 (.v (vI ((q1.i:Int)+1))),.at 0,.keep [1,2,3,4],.sel [0,1,2,7]] (.next)) (.leaf () [3])),z4.Has [(1,.v (vP 0)),(2,.v (vP 1)),(3,.v (vP 2)),(4,.v (vI 0))] [.cells [.seq .shp s],.cells [.nil],.cells [.own 3],.tree ([]:List Shp)]∧∀q1,z4.inv q1→(let z3:=(q1.i:Int);((decide (z3<(s.length:Int)))=true→(∃(x1:Shp),s[q1.i]? =some x1)∧∀(x1:Shp),(s[q1.i]? =some x1)→(let z1:=s[q1.i]? =some x1;let z2:=(⟨x1.id,([]:List Fld)++x1.fields⟩:Shp);z1∧((0:Int)≤z3)∧z1∧((0:Int)≤z3)∧z1∧((0:Int)≤z3)∧z1∧((0:Int)≤z3)∧(List.length ([]:List Fld)+x1.fields.length≤bigN)∧(q1.sh.length+List.length [z2]≤bigN)∧((.v (vI (IntKind.i64.wrap (z3+1))):S)= .v (vI (z3+1)))∧z4.Nxt q1 [(1,.v (vP 0)),(2,.v (vP 1)),(3,.v (vP 2)),(4,.v (vI (z3+1)))] [.cells [.seq .shp s],.cells [.nil],.cells [.own 3],.tree (q1.sh++[z2])]))∧((decide (z3<(s.length:Int)))=false→(.v (.agg [.own 0]):S)= .v (.agg [.own 0])∧([.tree q1.sh]:List Blk)=[.tree s])))) (by kernel_rfl) ?_
 refine⟨Bc (j:=(⟨([]:List Shp),0⟩:Ki)) (by first|rfl|simp) rfl (by dsimp only[Kj];exact⟨by omega,by simp⟩),fun (q1:Ki) hq_q1=>?_⟩
 have hi_q1:q1.i≤s.length∧q1.sh=List.take q1.i s:=hq_q1
 obtain ⟨v1,v2⟩:=hi_q1
 have hsl:=congrArg List.length v2
 rw[List.length_take] at hsl
 refine dsp (fun h1 p1=>?_) fun h1 p1=>?_
 refine⟨(Bo (l:=s) (i:=q1.i) (by omega)),fun x1 hx1=>?_⟩
 have hfx:=hp2 x1 (List.mem_of_getElem? hx1)
 exact⟨hx1,(by omega),hx1,(by omega),hx1,(by omega),hx1,(by omega),(by simp only[List.length_cons,List.length_nil];omega),(by simp only[List.length_append,List.length_cons,List.length_nil];omega),(Ah (by omega) (by omega)),Bm (j:=(⟨q1.sh++[(⟨x1.id,([]:List Fld)++x1.fields⟩:Shp)],q1.i+1⟩:Ki)) (by first|rfl|simp) rfl (by dsimp only[Kj];exact⟨by omega,by rw[v2,List.take_succ_eq_append_getElem (by omega)];simp[(List.getElem?_eq_some_iff.1 hx1).2]⟩) (by dsimp only[Kj];omega)⟩
 refine⟨rfl,(Aa (congrArg Blk.tree ?_) rfl)⟩
 rotate_left
 all_goals first|(rfl)|((rw[v2,List.take_of_length_le (by omega)];done))
theorem Fr (d:Dcd) (hp1:List.length (d).plan.shapes≤1048576) (hp2: ∀e∈(d).plan.shapes,e.fields.length≤1048576) (hp3:List.length (d).stack≤1048576):Fun Tryz.prog 63 [.agg (Bi d)] [] (.v (.agg (Ac 0 1 d))) [.tree d.plan.shapes,.lst .lev d.stack]:=by
 have hN:bigN=274877906944:=rfl
 refine Af Tryz.func63 (by kernel_rfl) (by kernel_rfl) (w:=(.seg [.call [] (.v (.agg [.own 0])) [.tree d.plan.shapes],.ty .lev,.ty .lev] (.leaf () [2,4]),(Fun Tryz.prog 103 [.agg [.seq .shp d.plan.shapes]] [] (.v (.agg [.own 0])) [.tree d.plan.shapes])∧(List.length ([]:List Lev)+d.stack.length≤bigN)∧(.v (.agg (Ac 0 1 d)):S)= .v (.agg (Ac 0 1 d))∧([.tree d.plan.shapes,.lst .lev (([]:List Lev)++d.stack)]:List Blk)=[.tree d.plan.shapes,.lst .lev d.stack])) (by kernel_rfl) ?_
 refine⟨(Xg d.plan.shapes (by omega) (hp2)),(by simp only[List.length_cons,List.length_nil];omega),?_⟩
 have hm1:d=(⟨d.plan,d.mode,([]:List Lev)++d.stack,d.scan,d.start,d.at_,d.field,d.wire,d.want,d.utf,d.end_⟩:Dcd):=by rfl
 exact⟨(by rw[hm1]<;>rfl),(by rw[hm1]<;>rfl)⟩
theorem Afo (p:Pln) (hp1:List.length (p).shapes≤bigN):Fun Tryz.prog 51 [.agg (F4 p)] [] (.tup [.agg (Ac 0 1 (E0 p)),vB (Cv p)]) [.tree (E0 p).plan.shapes,.lst .lev (E0 p).stack]:=by
 have hN:bigN=274877906944:=rfl
 refine Af Tryz.func51 (by kernel_rfl) (by kernel_rfl) (w:=let zi:Int→C:= .int .i64;let z1:List C:=[.own 1,.int .u64 0,zi 0,zi 0,zi 0,zi 0,zi 0,.bool false,.bool false,zi 0,zi 0,zi 0,zi 0,zi 0,zi 0,zi 0,zi 0,.int .u64 0,zi 0,.str [],zi 0,zi 0];let z2:=Cv p;let z3:=E0 p;(.seg [.call [] (.v (vB z2)) []] (.br (.seg [.at 0,.mkT 1 0,.mk 1 5 .lev] (.leaf () [2,3])) (.seg [.call [] (.v (.agg [.own 0])) [.tree p.shapes],.at 0,.mk 1 5 .lev] (.leaf () [2,3]))),(Fun Tryz.prog 102 [.agg (F4 p)] [] (.v (vB z2)) [])∧((!z2)=true→(.tup [.agg (.own 0::zi 0::zi 0::zi 0::zi 0::z1),vB false]:S)= .tup [.agg (Ac 0 1 z3),vB z2]∧([.tree ([]:List Shp),.lst .lev ([]:List Lev)]:List Blk)=[.tree z3.plan.shapes,.lst .lev z3.stack])∧((!z2)=false→(Fun Tryz.prog 103 [.agg [.seq .shp p.shapes]] [] (.v (.agg [.own 0])) [.tree p.shapes])∧(.tup [.agg (.own 0::zi p.root::zi p.deep::zi p.most::zi 1::z1),vB true]:S)= .tup [.agg (Ac 0 1 z3),vB z2]∧([.tree p.shapes,.lst .lev ([]:List Lev)]:List Blk)=[.tree z3.plan.shapes,.lst .lev z3.stack]))) (by kernel_rfl) ?_
 refine⟨(Vv p),fun h1=>have q1:=Am h1;?_,fun h1=>have q1:=Aj h1;have p1:=By q1;?_⟩
 refine have hm1:E0 p=(⟨(⟨([]:List Shp),0,0,0⟩:Pln),0,([]:List Lev),(⟨0,0⟩:Scn),0,0,(⟨0,0,false,false,0⟩:Fld),0,0,utf0,(⟨0,0,0,0,[],0,0⟩:Ev)⟩:Dcd):=?_;?_
 rotate_left
 refine⟨(congrArg S.tup (Aa (congrArg V.agg (Aa rfl (Aa (congrArg (C.int .i64) ?_) (Aa (congrArg (C.int .i64) ?_) (Aa (congrArg (C.int .i64) ?_) (Aa (congrArg (C.int .i64) ?_) (Aa rfl (Aa (congrArg (C.int .u64) ?_) (Aa (congrArg (C.int .i64) ?_) (Aa (congrArg (C.int .i64) ?_) (Aa (congrArg (C.int .i64) ?_) (Aa (congrArg (C.int .i64) ?_) (Aa (congrArg (C.int .i64) ?_) (Aa (congrArg C.bool ?_) (Aa (congrArg C.bool ?_) (Aa (congrArg (C.int .i64) ?_) (Aa (congrArg (C.int .i64) ?_) (Aa (congrArg (C.int .i64) ?_) (Aa (congrArg (C.int .i64) ?_) (Aa (congrArg (C.int .i64) ?_) (Aa (congrArg (C.int .i64) ?_) (Aa (congrArg (C.int .i64) ?_) (Aa (congrArg (C.int .i64) ?_) (Aa (congrArg (C.int .u64) ?_) (Aa (congrArg (C.int .i64) ?_) (Aa (congrArg C.str ?_) (Aa (congrArg (C.int .i64) ?_) (Aa (congrArg (C.int .i64) ?_) rfl)))))))))))))))))))))))))))) (Aa (congrArg V.c (congrArg C.bool ?_)) rfl))),(by rw[hm1]<;>rfl)⟩
 rotate_left 26
 have hpt:=By q1
 refine⟨(Xg p.shapes (by omega) (Dp hpt.2.1)),?_⟩
 refine have hm1:E0 p=(⟨p,1,([]:List Lev),(⟨0,0⟩:Scn),0,0,(⟨0,0,false,false,0⟩:Fld),0,0,utf0,(⟨0,0,0,0,[],0,0⟩:Ev)⟩:Dcd):=?_;?_
 rotate_left
 refine⟨(congrArg S.tup (Aa (congrArg V.agg (Aa rfl (Aa (congrArg (C.int .i64) ?_) (Aa (congrArg (C.int .i64) ?_) (Aa (congrArg (C.int .i64) ?_) (Aa (congrArg (C.int .i64) ?_) (Aa rfl (Aa (congrArg (C.int .u64) ?_) (Aa (congrArg (C.int .i64) ?_) (Aa (congrArg (C.int .i64) ?_) (Aa (congrArg (C.int .i64) ?_) (Aa (congrArg (C.int .i64) ?_) (Aa (congrArg (C.int .i64) ?_) (Aa (congrArg C.bool ?_) (Aa (congrArg C.bool ?_) (Aa (congrArg (C.int .i64) ?_) (Aa (congrArg (C.int .i64) ?_) (Aa (congrArg (C.int .i64) ?_) (Aa (congrArg (C.int .i64) ?_) (Aa (congrArg (C.int .i64) ?_) (Aa (congrArg (C.int .i64) ?_) (Aa (congrArg (C.int .i64) ?_) (Aa (congrArg (C.int .i64) ?_) (Aa (congrArg (C.int .u64) ?_) (Aa (congrArg (C.int .i64) ?_) (Aa (congrArg C.str ?_) (Aa (congrArg (C.int .i64) ?_) (Aa (congrArg (C.int .i64) ?_) rfl)))))))))))))))))))))))))))) (Aa (congrArg V.c (congrArg C.bool ?_)) rfl))),(by rw[hm1]<;>rfl)⟩
 rotate_left 26
 all_goals first|(simp_all[E0,utf0];done)|(grind[E0,utf0])
theorem Adt (l:List Rd) (hp1:l.length≤bigN):Fun Tryz.prog 135 [.c (.seq .rd l)] [] (.v (vO 0)) [.lst .rd l]:=by
 refine⟨C1 Tryz.func135 (by kernel_rfl) (by kernel_rfl),?_⟩
 have key:Sm Tryz.prog 8 0 (W4 Tryz.f135 1) [(2,.v (.c .nil)),(0,.v (.c (.seq .rd l)))] [] .ret [(2,.v (.c (.own 0)))] [.lst .rd l]:=by
  refine Sm.nilTest' (s:=0) (t3:=3) (t4:=4) (t:= .rd) (l:=l) rfl rfl rfl rfl rfl rfl rfl Tryz.underlying73 (by kernel_rfl) rfl rfl rfl fun p hp=>?_
  cases p with
  |true=>
   have hl:=hp rfl
   subst hl
   exact .inr ⟨by decide,Bj (ds:=[.br true,.at 0,.mkS 2 .rd,.keep [2],.sel [0]]) (ob:=[true=true]) (by kernel_rfl) ⟨rfl,trivial⟩⟩
  |false=>
   exact .inl ⟨[(0,.v (.c (.seq .rd l)))],[],Bj (ds:=[.br false,.at 0,.keep [0],.sel []]) (ob:=[false=false]) (by kernel_rfl) ⟨rfl,trivial⟩,
    (Bj (tm':=[(2,.v (.c (.own 0)))]) (H':=[.lst .rd ([]++l)]) (ds:=[.ty .rd,.ty .rd,.at 0,.keep [2],.sel [1]]) (ob:=[List.length ([]:List Rd)+l.length≤bigN]) (by kernel_rfl) ⟨by simpa using hp1,trivial⟩).to (by rfl) (by rfl)⟩
 exact D0 Tryz.func135 (res:= .v (.c (.own 0))) (L':=[.lst .rd l]) (ds:=[.jump 1 .ret [(2,.v (.c (.own 0)))] [.lst .rd l]]) (σ:=[0]) (ob:=[Sm Tryz.prog 8 0 (W4 Tryz.f135 1) [(2,.v (.c .nil)),(0,.v (.c (.seq .rd l)))] [] .ret [(2,.v (.c (.own 0)))] [.lst .rd l]]) (by kernel_rfl) ⟨key,trivial⟩
theorem Qg (r:Rdr) (hp1:List.length (r).data≤bigN) (hp2:List.length (r).script≤bigN):Fun Tryz.prog 133 [.agg (Q4 r)] [] (.v (vB (A3 r))) []:=by
 have hN:bigN=274877906944:=rfl
 refine Af Tryz.func133 (by kernel_rfl) (by kernel_rfl) (w:=let z1:=(r.script.length:Int);let z2:=(r.data.length:Int);let z3:=vB (A3 r);let z4:=([]:List Blk);let z5:=Ak r.next 0 z1;let z6:=Ak r.at_ 0 z2;let z7:=(.v (vB false):S);(.br (.seg [.call [] (.v (vB z6)) []] (.br (.br (.seg [.call [] (.v (vB z5)) []] (.br (.br (.leaf () []) (.br (.leaf () []) (.leaf () []))) (.leaf () []))) (.leaf () [])) (.leaf () []))) (.leaf () []),((decide (z2≤4000))=true→(Fun Tryz.prog 173 [vI r.at_,vI 0,vI z2] [] (.v (vB z6)) [])∧(z6=true→((decide (z1≤200))=true→(Fun Tryz.prog 173 [vI r.next,vI 0,vI z1] [] (.v (vB z5)) [])∧(z5=true→((decide (r.code=0))=true→(.v (vB true):S)= .v z3∧z4=[])∧((decide (r.code=0))=false→((decide (r.code=1))=true→(.v (vB true):S)= .v z3∧z4=[])∧((decide (r.code=1))=false→(.v (vB (decide (20≤r.code))):S)= .v z3∧z4=[])))∧(z5=false→z7= .v z3∧z4=[]))∧((decide (z1≤200))=false→z7= .v z3∧z4=[]))∧(z6=false→z7= .v z3∧z4=[]))∧((decide (z2≤4000))=false→z7= .v z3∧z4=[]))) (by kernel_rfl) ?_
 refine dsp (fun h1 p1=>?_) fun h1 p1=>?_
 refine⟨(B1 _ _ _),fun h2=>have p2:=Ap h2;?_,fun h2=>have p2:=Ay h2;?_⟩
 refine dsp (fun h3 p3=>?_) fun h3 p3=>?_
 refine⟨(B1 _ _ _),fun h4=>have p4:=Ap h4;?_,fun h4=>have p4:=Ay h4;?_⟩
 refine dsp (fun h5 p5=>?_) fun h5 p5=>?_
 refine⟨(sB ?_),rfl⟩
 rotate_left
 refine dsp (fun h6 p6=>?_) fun h6 p6=>?_
 refine⟨(sB ?_),rfl⟩
 rotate_left
 refine⟨(sB ?_),rfl⟩
 rotate_left
 refine⟨(sB ?_),rfl⟩
 rotate_left
 refine⟨(sB ?_),rfl⟩
 rotate_left
 refine⟨(sB ?_),rfl⟩
 rotate_left
 refine⟨(sB ?_),rfl⟩
 rotate_left
 all_goals first|(simp_all[A3];done)|(grind[A3])
theorem Qh (r:Rdr) (hp1:List.length (r).data≤bigN) (hp2:List.length (r).script≤bigN):Fun Tryz.prog 131 [.agg (Q4 r)] [] (.v (vB (A3 r))) []:=by
 have hN:bigN=274877906944:=rfl
 refine Af Tryz.func131 (by kernel_rfl) (by kernel_rfl) (w:=let z1:=(r.script.length:Int);let z2:=(r.data.length:Int);let z3:=vB (A3 r);let z4:=([]:List Blk);let z5:=Ak r.next 0 z1;let z6:=Ak r.at_ 0 z2;let z7:=(.v (vB false):S);(.br (.leaf () []) (.seg [.call [] (.v (vB z6)) []] (.br (.leaf () []) (.br (.leaf () []) (.seg [.call [] (.v (vB z5)) []] (.br (.leaf () []) (.br (.leaf () []) (.br (.leaf () []) (.leaf () [])))))))),((decide (4000<z2))=true→z7= .v z3∧z4=[])∧((decide (4000<z2))=false→(Fun Tryz.prog 105 [vI r.at_,vI 0,vI z2] [] (.v (vB z6)) [])∧((!z6)=true→z7= .v z3∧z4=[])∧((!z6)=false→((decide (200<z1))=true→z7= .v z3∧z4=[])∧((decide (200<z1))=false→(Fun Tryz.prog 105 [vI r.next,vI 0,vI z1] [] (.v (vB z5)) [])∧((!z5)=true→z7= .v z3∧z4=[])∧((!z5)=false→((decide (r.code=0))=true→(.v (vB true):S)= .v z3∧z4=[])∧((decide (r.code=0))=false→((decide (r.code=1))=true→(.v (vB true):S)= .v z3∧z4=[])∧((decide (r.code=1))=false→(.v (vB (decide (20≤r.code))):S)= .v z3∧z4=[])))))))) (by kernel_rfl) ?_
 refine dsp (fun h1 p1=>?_) fun h1 p1=>?_
 refine⟨(sB ?_),rfl⟩
 rotate_left
 refine⟨(A8 _ _ _),fun h2=>have q2:=Am h2;have p2:=Ay q2;?_,fun h2=>have q2:=Aj h2;have p2:=Ap q2;?_⟩
 refine⟨(sB ?_),rfl⟩
 rotate_left
 refine dsp (fun h3 p3=>?_) fun h3 p3=>?_
 refine⟨(sB ?_),rfl⟩
 rotate_left
 refine⟨(A8 _ _ _),fun h4=>have q4:=Am h4;have p4:=Ay q4;?_,fun h4=>have q4:=Aj h4;have p4:=Ap q4;?_⟩
 refine⟨(sB ?_),rfl⟩
 rotate_left
 refine dsp (fun h5 p5=>?_) fun h5 p5=>?_
 refine⟨(sB ?_),rfl⟩
 rotate_left
 refine dsp (fun h6 p6=>?_) fun h6 p6=>?_
 refine⟨(sB ?_),rfl⟩
 rotate_left
 refine⟨(sB ?_),rfl⟩
 rotate_left
 all_goals first|(simp_all[A3];done)|(grind[A3])
theorem Afp (data:List UInt8) (script:List Rd) (hp1:data.length≤1048576) (hp2:script.length≤1048576):Fun Tryz.prog 128 [vT data,.c (.seq .rd script)] [] (.tup [.agg (D9 0 (E4 data script)),vB (E1 data script)]) [.lst .rd (E4 data script).script]:=by
 have hN:bigN=274877906944:=rfl
 refine Af Tryz.func128 (by kernel_rfl) (by kernel_rfl) (w:=let zi:Int→C:= .int .i64;let z1:=A3 (⟨data,0,script,0,0⟩:Rdr);let z2:=E4 data script;(.seg [.call [] (.v (vO 0)) [.lst .rd script],.call [] (.v (vB z1)) []] (.br (.seg [.at 0,.mk 0 2 .rd] (.leaf () [3])) (.leaf () [1])),(Fun Tryz.prog 135 [.c (.seq .rd script)] [] (.v (vO 0)) [.lst .rd script])∧(Fun Tryz.prog 133 [.agg [.str data,zi 0,.seq .rd script,zi 0,zi 0]] [] (.v (vB z1)) [])∧((!z1)=true→(.tup [.agg [.str [],zi 0,.own 0,zi 0,zi 0],vB false]:S)= .tup [.agg (D9 0 z2),vB (E1 data script)]∧([.lst .rd ([]:List Rd)]:List Blk)=[.lst .rd z2.script])∧((!z1)=false→(.tup [.agg [.str data,zi 0,.own 0,zi 0,zi 0],vB true]:S)= .tup [.agg (D9 0 z2),vB (E1 data script)]∧([.lst .rd script]:List Blk)=[.lst .rd z2.script]))) (by kernel_rfl) ?_
 refine⟨(Adt script (by omega)),(Qg (⟨data,0,script,0,0⟩:Rdr) (by first|omega|rfl|(dsimp only;omega)) (by first|omega|rfl|(dsimp only;omega))),fun h1=>have q1:=Am h1;?_,fun h1=>have q1:=Aj h1;have p1:=Et q1;?_⟩
 refine have hm1:E4 data script=(⟨[],0,([]:List Rd),0,0⟩:Rdr):=?_;?_
 rotate_left
 refine⟨(congrArg S.tup (Aa (congrArg V.agg (Aa (congrArg C.str ?_) (Aa (congrArg (C.int .i64) ?_) (Aa rfl (Aa (congrArg (C.int .i64) ?_) (Aa (congrArg (C.int .i64) ?_) rfl)))))) (Aa (congrArg V.c (congrArg C.bool ?_)) rfl))),(by rw[hm1]<;>rfl)⟩
 rotate_left 5
 refine have hm1:E4 data script=(⟨data,0,script,0,0⟩:Rdr):=?_;?_
 rotate_left
 refine⟨(congrArg S.tup (Aa (congrArg V.agg (Aa (congrArg C.str ?_) (Aa (congrArg (C.int .i64) ?_) (Aa rfl (Aa (congrArg (C.int .i64) ?_) (Aa (congrArg (C.int .i64) ?_) rfl)))))) (Aa (congrArg V.c (congrArg C.bool ?_)) rfl))),(by rw[hm1]<;>rfl)⟩
 rotate_left 5
 all_goals first|(simp_all[E4,E1];done)|(grind[E4,E1])
theorem Afq (data:List UInt8) (script:List Rd) (hp1:data.length≤1048576) (hp2:script.length≤1048576):Fun Tryz.prog 127 [vT data,.c (.seq .rd script)] [] (.tup [.agg (D9 0 (E4 data script)),vB (E1 data script)]) [.lst .rd (E4 data script).script]:=by
 have hN:bigN=274877906944:=rfl
 refine Af Tryz.func127 (by kernel_rfl) (by kernel_rfl) (w:=let zi:Int→C:= .int .i64;let z2:=E4 data script;let z3:=([]:List Rd);let z1:=A3 (⟨data,0,z3++script,0,0⟩:Rdr);(.seg [.ty .rd,.ty .rd,.call [] (.v (vB z1)) []] (.br (.seg [.at 0,.mk 0 2 .rd] (.leaf () [4])) (.leaf () [2])),(z3.length+script.length≤bigN)∧(Fun Tryz.prog 131 [.agg [.str data,zi 0,.seq .rd (z3++script),zi 0,zi 0]] [] (.v (vB z1)) [])∧((!z1)=true→(.tup [.agg [.str [],zi 0,.own 0,zi 0,zi 0],vB false]:S)= .tup [.agg (D9 0 z2),vB (E1 data script)]∧([.lst .rd z3]:List Blk)=[.lst .rd z2.script])∧((!z1)=false→(.tup [.agg [.str data,zi 0,.own 0,zi 0,zi 0],vB true]:S)= .tup [.agg (D9 0 z2),vB (E1 data script)]∧([.lst .rd (z3++script)]:List Blk)=[.lst .rd z2.script]))) (by kernel_rfl) ?_
 refine⟨(by simp only[List.length_cons,List.length_nil];omega),(Qh (⟨data,0,([]:List Rd)++script,0,0⟩:Rdr) (by first|omega|rfl|(dsimp only;omega)) (by simp only[List.length_append,List.length_cons,List.length_nil,List.length_set,List.length_take];omega)),fun h1=>have q1:=Am h1;?_,fun h1=>have q1:=Aj h1;have p1:=Et q1;?_⟩
 refine have hm1:E4 data script=(⟨[],0,([]:List Rd),0,0⟩:Rdr):=?_;?_
 rotate_left
 refine⟨(congrArg S.tup (Aa (congrArg V.agg (Aa (congrArg C.str ?_) (Aa (congrArg (C.int .i64) ?_) (Aa rfl (Aa (congrArg (C.int .i64) ?_) (Aa (congrArg (C.int .i64) ?_) rfl)))))) (Aa (congrArg V.c (congrArg C.bool ?_)) rfl))),(by rw[hm1]<;>rfl)⟩
 rotate_left 5
 refine have hm1:E4 data script=(⟨data,0,([]:List Rd)++script,0,0⟩:Rdr):=?_;?_
 rotate_left
 refine⟨(congrArg S.tup (Aa (congrArg V.agg (Aa (congrArg C.str ?_) (Aa (congrArg (C.int .i64) ?_) (Aa rfl (Aa (congrArg (C.int .i64) ?_) (Aa (congrArg (C.int .i64) ?_) rfl)))))) (Aa (congrArg V.c (congrArg C.bool ?_)) rfl))),(by rw[hm1]<;>rfl)⟩
 rotate_left 5
 all_goals first|(simp_all[E4,E1];done)|(grind[E4,E1])
theorem Xh (p:Pln) (data:List UInt8) (script:List Rd) (hp1:data.length≤1048576) (hp2:script.length≤1048576) (hp3:List.length (p).shapes≤bigN):Fun Tryz.prog 82 [.agg (F4 p),vT data,.c (.seq .rd script)] [] (.tup [.agg (An 0 1 2 3 (Bn p data script)),vB (C9 p data script)]) [.lst .rd (Bn p data script).reader.script,.tree (Bn p data script).dec.plan.shapes,.lst .lev (Bn p data script).dec.stack,.lst .ev (Bn p data script).queue]:=by
 have hN:bigN=274877906944:=rfl
 refine Af Tryz.func82 (by kernel_rfl) (by kernel_rfl) (w:=let zi:Int→C:= .int .i64;let z1:List C:=[.str [],zi 0,.own 0,zi 0,zi 0,.own 1,zi 0,zi 0,zi 0,zi 0,.own 2,.int .u64 0,zi 0,zi 0,zi 0,zi 0,zi 0,.bool false,.bool false,zi 0,zi 0,zi 0,zi 0,zi 0,zi 0,zi 0,zi 0,.int .u64 0,zi 0,.str [],zi 0,zi 0,.own 3,zi 0];let z3:=E0 p;let z4:=E4 data script;let z5:=Bn p data script;let z2:List Blk:=[.lst .rd z5.reader.script,.tree z5.dec.plan.shapes,.lst .lev z5.dec.stack,.lst .ev z5.queue];let z6:=([.lst .rd ([]:List Rd),.tree ([]:List Shp),.lst .lev ([]:List Lev),.lst .ev ([]:List Ev)]:List Blk);let z7:=E1 data script;let z8:=An 0 1 2 3 z5;let z9:=C9 p data script;(.seg [.call [] (.tup [.agg (D9 0 z4),vB z7]) [.lst .rd z4.script],.call [] (.tup [.agg (Ac 0 1 z3),vB (Cv p)]) [.tree z3.plan.shapes,.lst .lev z3.stack]] (.br (.seg [.at 0,.mk 1 2 .rd,.mkT 1 5,.mk 1 10 .lev,.mk 1 32 .ev] (.leaf () [7,8,9,10])) (.br (.seg [.at 0,.mk 1 2 .rd,.mkT 1 5,.mk 1 10 .lev,.mk 1 32 .ev] (.leaf () [7,8,9,10])) (.seg [.at 0,.mk 1 32 .ev] (.leaf () [2,4,5,7])))),(Fun Tryz.prog 128 [vT data,.c (.seq .rd script)] [] (.tup [.agg (D9 0 z4),vB z7]) [.lst .rd z4.script])∧(Fun Tryz.prog 114 [.agg (F4 p)] [] (.tup [.agg (Ac 0 1 z3),vB (Cv p)]) [.tree z3.plan.shapes,.lst .lev z3.stack])∧((!z7)=true→(.tup [.agg z1,vB false]:S)= .tup [.agg z8,vB z9]∧z6=z2)∧((!z7)=false→((!(Cv p))=true→(.tup [.agg z1,vB false]:S)= .tup [.agg z8,vB z9]∧z6=z2)∧((!(Cv p))=false→(.tup [.agg [.str z4.data,zi z4.at_,.own 0,zi z4.next,zi z4.code,.own 1,zi z3.plan.root,zi z3.plan.deep,zi z3.plan.most,zi z3.mode,.own 2,.int .u64 z3.scan.bits,zi z3.scan.have_,zi z3.start,zi z3.at_,zi z3.field.number,zi z3.field.kind,.bool z3.field.rep,.bool z3.field.packed,zi z3.field.msg,zi z3.wire,zi z3.want,zi z3.utf.want,zi z3.utf.low,zi z3.utf.high,zi z3.end_.kind,zi z3.end_.field,.int .u64 z3.end_.bits,zi z3.end_.len,.str z3.end_.text,zi z3.end_.code,zi z3.end_.at_,.own 3,zi 0],vB true]:S)= .tup [.agg z8,vB z9]∧([.lst .rd z4.script,.tree z3.plan.shapes,.lst .lev z3.stack,.lst .ev ([]:List Ev)]:List Blk)=z2)))) (by kernel_rfl) ?_
 refine⟨(Afp _ _ (by omega) (by omega)),(Afn p (by omega)),fun h1=>have q1:=Am h1;?_,fun h1=>have q1:=Aj h1;?_⟩
 refine have hm1:Bn p data script=(⟨(⟨[],0,([]:List Rd),0,0⟩:Rdr),(⟨(⟨([]:List Shp),0,0,0⟩:Pln),0,([]:List Lev),(⟨0,0⟩:Scn),0,0,(⟨0,0,false,false,0⟩:Fld),0,0,utf0,(⟨0,0,0,0,[],0,0⟩:Ev)⟩:Dcd),([]:List Ev),0⟩:Strm):=?_;?_
 rotate_left
 refine⟨(congrArg S.tup (Aa (congrArg V.agg (Aa (congrArg C.str ?_) (Aa (congrArg (C.int .i64) ?_) (Aa rfl (Aa (congrArg (C.int .i64) ?_) (Aa (congrArg (C.int .i64) ?_) (Aa rfl (Aa (congrArg (C.int .i64) ?_) (Aa (congrArg (C.int .i64) ?_) (Aa (congrArg (C.int .i64) ?_) (Aa (congrArg (C.int .i64) ?_) (Aa rfl (Aa (congrArg (C.int .u64) ?_) (Aa (congrArg (C.int .i64) ?_) (Aa (congrArg (C.int .i64) ?_) (Aa (congrArg (C.int .i64) ?_) (Aa (congrArg (C.int .i64) ?_) (Aa (congrArg (C.int .i64) ?_) (Aa (congrArg C.bool ?_) (Aa (congrArg C.bool ?_) (Aa (congrArg (C.int .i64) ?_) (Aa (congrArg (C.int .i64) ?_) (Aa (congrArg (C.int .i64) ?_) (Aa (congrArg (C.int .i64) ?_) (Aa (congrArg (C.int .i64) ?_) (Aa (congrArg (C.int .i64) ?_) (Aa (congrArg (C.int .i64) ?_) (Aa (congrArg (C.int .i64) ?_) (Aa (congrArg (C.int .u64) ?_) (Aa (congrArg (C.int .i64) ?_) (Aa (congrArg C.str ?_) (Aa (congrArg (C.int .i64) ?_) (Aa (congrArg (C.int .i64) ?_) (Aa rfl (Aa (congrArg (C.int .i64) ?_) rfl))))))))))))))))))))))))))))))))))) (Aa (congrArg V.c (congrArg C.bool ?_)) rfl))),(by rw[hm1]<;>rfl)⟩
 rotate_left 31
 refine⟨fun h2=>have q2:=Am h2;?_,fun h2=>have q2:=Aj h2;have p2:=By q2;?_⟩
 refine have hm1:Bn p data script=(⟨(⟨[],0,([]:List Rd),0,0⟩:Rdr),(⟨(⟨([]:List Shp),0,0,0⟩:Pln),0,([]:List Lev),(⟨0,0⟩:Scn),0,0,(⟨0,0,false,false,0⟩:Fld),0,0,utf0,(⟨0,0,0,0,[],0,0⟩:Ev)⟩:Dcd),([]:List Ev),0⟩:Strm):=?_;?_
 rotate_left
 refine⟨(congrArg S.tup (Aa (congrArg V.agg (Aa (congrArg C.str ?_) (Aa (congrArg (C.int .i64) ?_) (Aa rfl (Aa (congrArg (C.int .i64) ?_) (Aa (congrArg (C.int .i64) ?_) (Aa rfl (Aa (congrArg (C.int .i64) ?_) (Aa (congrArg (C.int .i64) ?_) (Aa (congrArg (C.int .i64) ?_) (Aa (congrArg (C.int .i64) ?_) (Aa rfl (Aa (congrArg (C.int .u64) ?_) (Aa (congrArg (C.int .i64) ?_) (Aa (congrArg (C.int .i64) ?_) (Aa (congrArg (C.int .i64) ?_) (Aa (congrArg (C.int .i64) ?_) (Aa (congrArg (C.int .i64) ?_) (Aa (congrArg C.bool ?_) (Aa (congrArg C.bool ?_) (Aa (congrArg (C.int .i64) ?_) (Aa (congrArg (C.int .i64) ?_) (Aa (congrArg (C.int .i64) ?_) (Aa (congrArg (C.int .i64) ?_) (Aa (congrArg (C.int .i64) ?_) (Aa (congrArg (C.int .i64) ?_) (Aa (congrArg (C.int .i64) ?_) (Aa (congrArg (C.int .i64) ?_) (Aa (congrArg (C.int .u64) ?_) (Aa (congrArg (C.int .i64) ?_) (Aa (congrArg C.str ?_) (Aa (congrArg (C.int .i64) ?_) (Aa (congrArg (C.int .i64) ?_) (Aa rfl (Aa (congrArg (C.int .i64) ?_) rfl))))))))))))))))))))))))))))))))))) (Aa (congrArg V.c (congrArg C.bool ?_)) rfl))),(by rw[hm1]<;>rfl)⟩
 rotate_left 31
 refine have hm1:Bn p data script=(⟨(E4 data script),(E0 p),([]:List Ev),0⟩:Strm):=?_;?_
 rotate_left
 refine⟨(congrArg S.tup (Aa (congrArg V.agg (Aa (congrArg C.str ?_) (Aa (congrArg (C.int .i64) ?_) (Aa rfl (Aa (congrArg (C.int .i64) ?_) (Aa (congrArg (C.int .i64) ?_) (Aa rfl (Aa (congrArg (C.int .i64) ?_) (Aa (congrArg (C.int .i64) ?_) (Aa (congrArg (C.int .i64) ?_) (Aa (congrArg (C.int .i64) ?_) (Aa rfl (Aa (congrArg (C.int .u64) ?_) (Aa (congrArg (C.int .i64) ?_) (Aa (congrArg (C.int .i64) ?_) (Aa (congrArg (C.int .i64) ?_) (Aa (congrArg (C.int .i64) ?_) (Aa (congrArg (C.int .i64) ?_) (Aa (congrArg C.bool ?_) (Aa (congrArg C.bool ?_) (Aa (congrArg (C.int .i64) ?_) (Aa (congrArg (C.int .i64) ?_) (Aa (congrArg (C.int .i64) ?_) (Aa (congrArg (C.int .i64) ?_) (Aa (congrArg (C.int .i64) ?_) (Aa (congrArg (C.int .i64) ?_) (Aa (congrArg (C.int .i64) ?_) (Aa (congrArg (C.int .i64) ?_) (Aa (congrArg (C.int .u64) ?_) (Aa (congrArg (C.int .i64) ?_) (Aa (congrArg C.str ?_) (Aa (congrArg (C.int .i64) ?_) (Aa (congrArg (C.int .i64) ?_) (Aa rfl (Aa (congrArg (C.int .i64) ?_) rfl))))))))))))))))))))))))))))))))))) (Aa (congrArg V.c (congrArg C.bool ?_)) rfl))),(by rw[hm1]<;>rfl)⟩
 rotate_left 31
 all_goals first|(simp_all[Bn,C9,Aiu,Aiv,utf0];done)|(grind[Bn,C9,Aiu,Aiv,utf0])
theorem Xi (p:Pln) (data:List UInt8) (script:List Rd) (hp1:data.length≤1048576) (hp2:script.length≤1048576) (hp3:List.length (p).shapes≤bigN):Fun Tryz.prog 80 [.agg (F4 p),vT data,.c (.seq .rd script)] [] (.tup [.agg (An 0 1 2 3 (Bn p data script)),vB (C9 p data script)]) [.lst .rd (Bn p data script).reader.script,.tree (Bn p data script).dec.plan.shapes,.lst .lev (Bn p data script).dec.stack,.lst .ev (Bn p data script).queue]:=by
 have hN:bigN=274877906944:=rfl
 refine Af Tryz.func80 (by kernel_rfl) (by kernel_rfl) (w:=let zi:Int→C:= .int .i64;let z1:List C:=[.str [],zi 0,.own 0,zi 0,zi 0,.own 1,zi 0,zi 0,zi 0,zi 0,.own 2,.int .u64 0,zi 0,zi 0,zi 0,zi 0,zi 0,.bool false,.bool false,zi 0,zi 0,zi 0,zi 0,zi 0,zi 0,zi 0,zi 0,.int .u64 0,zi 0,.str [],zi 0,zi 0,.own 3,zi 0];let z3:=E0 p;let z4:=E4 data script;let z5:=Bn p data script;let z2:List Blk:=[.lst .rd z5.reader.script,.tree z5.dec.plan.shapes,.lst .lev z5.dec.stack,.lst .ev z5.queue];let z6:=([.lst .rd ([]:List Rd),.tree ([]:List Shp),.lst .lev ([]:List Lev),.lst .ev ([]:List Ev)]:List Blk);let z7:=E1 data script;let z8:=An 0 1 2 3 z5;let z9:=C9 p data script;(.seg [.call [] (.tup [.agg (D9 0 z4),vB z7]) [.lst .rd z4.script],.call [] (.tup [.agg (Ac 0 1 z3),vB (Cv p)]) [.tree z3.plan.shapes,.lst .lev z3.stack]] (.br (.seg [.at 0,.mk 1 2 .rd,.mkT 1 5,.mk 1 10 .lev,.mk 1 32 .ev] (.leaf () [7,8,9,10])) (.br (.seg [.at 0,.mk 1 2 .rd,.mkT 1 5,.mk 1 10 .lev,.mk 1 32 .ev] (.leaf () [7,8,9,10])) (.seg [.at 0,.mk 1 32 .ev] (.leaf () [2,4,5,7])))),(Fun Tryz.prog 127 [vT data,.c (.seq .rd script)] [] (.tup [.agg (D9 0 z4),vB z7]) [.lst .rd z4.script])∧(Fun Tryz.prog 51 [.agg (F4 p)] [] (.tup [.agg (Ac 0 1 z3),vB (Cv p)]) [.tree z3.plan.shapes,.lst .lev z3.stack])∧((!z7)=true→(.tup [.agg z1,vB false]:S)= .tup [.agg z8,vB z9]∧z6=z2)∧((!z7)=false→((!(Cv p))=true→(.tup [.agg z1,vB false]:S)= .tup [.agg z8,vB z9]∧z6=z2)∧((!(Cv p))=false→(.tup [.agg [.str z4.data,zi z4.at_,.own 0,zi z4.next,zi z4.code,.own 1,zi z3.plan.root,zi z3.plan.deep,zi z3.plan.most,zi z3.mode,.own 2,.int .u64 z3.scan.bits,zi z3.scan.have_,zi z3.start,zi z3.at_,zi z3.field.number,zi z3.field.kind,.bool z3.field.rep,.bool z3.field.packed,zi z3.field.msg,zi z3.wire,zi z3.want,zi z3.utf.want,zi z3.utf.low,zi z3.utf.high,zi z3.end_.kind,zi z3.end_.field,.int .u64 z3.end_.bits,zi z3.end_.len,.str z3.end_.text,zi z3.end_.code,zi z3.end_.at_,.own 3,zi 0],vB true]:S)= .tup [.agg z8,vB z9]∧([.lst .rd z4.script,.tree z3.plan.shapes,.lst .lev z3.stack,.lst .ev ([]:List Ev)]:List Blk)=z2)))) (by kernel_rfl) ?_
 refine⟨(Afq _ _ (by omega) (by omega)),(Afo p (by omega)),fun h1=>have q1:=Am h1;?_,fun h1=>have q1:=Aj h1;?_⟩
 refine have hm1:Bn p data script=(⟨(⟨[],0,([]:List Rd),0,0⟩:Rdr),(⟨(⟨([]:List Shp),0,0,0⟩:Pln),0,([]:List Lev),(⟨0,0⟩:Scn),0,0,(⟨0,0,false,false,0⟩:Fld),0,0,utf0,(⟨0,0,0,0,[],0,0⟩:Ev)⟩:Dcd),([]:List Ev),0⟩:Strm):=?_;?_
 rotate_left
 refine⟨(congrArg S.tup (Aa (congrArg V.agg (Aa (congrArg C.str ?_) (Aa (congrArg (C.int .i64) ?_) (Aa rfl (Aa (congrArg (C.int .i64) ?_) (Aa (congrArg (C.int .i64) ?_) (Aa rfl (Aa (congrArg (C.int .i64) ?_) (Aa (congrArg (C.int .i64) ?_) (Aa (congrArg (C.int .i64) ?_) (Aa (congrArg (C.int .i64) ?_) (Aa rfl (Aa (congrArg (C.int .u64) ?_) (Aa (congrArg (C.int .i64) ?_) (Aa (congrArg (C.int .i64) ?_) (Aa (congrArg (C.int .i64) ?_) (Aa (congrArg (C.int .i64) ?_) (Aa (congrArg (C.int .i64) ?_) (Aa (congrArg C.bool ?_) (Aa (congrArg C.bool ?_) (Aa (congrArg (C.int .i64) ?_) (Aa (congrArg (C.int .i64) ?_) (Aa (congrArg (C.int .i64) ?_) (Aa (congrArg (C.int .i64) ?_) (Aa (congrArg (C.int .i64) ?_) (Aa (congrArg (C.int .i64) ?_) (Aa (congrArg (C.int .i64) ?_) (Aa (congrArg (C.int .i64) ?_) (Aa (congrArg (C.int .u64) ?_) (Aa (congrArg (C.int .i64) ?_) (Aa (congrArg C.str ?_) (Aa (congrArg (C.int .i64) ?_) (Aa (congrArg (C.int .i64) ?_) (Aa rfl (Aa (congrArg (C.int .i64) ?_) rfl))))))))))))))))))))))))))))))))))) (Aa (congrArg V.c (congrArg C.bool ?_)) rfl))),(by rw[hm1]<;>rfl)⟩
 rotate_left 31
 refine⟨fun h2=>have q2:=Am h2;?_,fun h2=>have q2:=Aj h2;have p2:=By q2;?_⟩
 refine have hm1:Bn p data script=(⟨(⟨[],0,([]:List Rd),0,0⟩:Rdr),(⟨(⟨([]:List Shp),0,0,0⟩:Pln),0,([]:List Lev),(⟨0,0⟩:Scn),0,0,(⟨0,0,false,false,0⟩:Fld),0,0,utf0,(⟨0,0,0,0,[],0,0⟩:Ev)⟩:Dcd),([]:List Ev),0⟩:Strm):=?_;?_
 rotate_left
 refine⟨(congrArg S.tup (Aa (congrArg V.agg (Aa (congrArg C.str ?_) (Aa (congrArg (C.int .i64) ?_) (Aa rfl (Aa (congrArg (C.int .i64) ?_) (Aa (congrArg (C.int .i64) ?_) (Aa rfl (Aa (congrArg (C.int .i64) ?_) (Aa (congrArg (C.int .i64) ?_) (Aa (congrArg (C.int .i64) ?_) (Aa (congrArg (C.int .i64) ?_) (Aa rfl (Aa (congrArg (C.int .u64) ?_) (Aa (congrArg (C.int .i64) ?_) (Aa (congrArg (C.int .i64) ?_) (Aa (congrArg (C.int .i64) ?_) (Aa (congrArg (C.int .i64) ?_) (Aa (congrArg (C.int .i64) ?_) (Aa (congrArg C.bool ?_) (Aa (congrArg C.bool ?_) (Aa (congrArg (C.int .i64) ?_) (Aa (congrArg (C.int .i64) ?_) (Aa (congrArg (C.int .i64) ?_) (Aa (congrArg (C.int .i64) ?_) (Aa (congrArg (C.int .i64) ?_) (Aa (congrArg (C.int .i64) ?_) (Aa (congrArg (C.int .i64) ?_) (Aa (congrArg (C.int .i64) ?_) (Aa (congrArg (C.int .u64) ?_) (Aa (congrArg (C.int .i64) ?_) (Aa (congrArg C.str ?_) (Aa (congrArg (C.int .i64) ?_) (Aa (congrArg (C.int .i64) ?_) (Aa rfl (Aa (congrArg (C.int .i64) ?_) rfl))))))))))))))))))))))))))))))))))) (Aa (congrArg V.c (congrArg C.bool ?_)) rfl))),(by rw[hm1]<;>rfl)⟩
 rotate_left 31
 refine have hm1:Bn p data script=(⟨(E4 data script),(E0 p),([]:List Ev),0⟩:Strm):=?_;?_
 rotate_left
 refine⟨(congrArg S.tup (Aa (congrArg V.agg (Aa (congrArg C.str ?_) (Aa (congrArg (C.int .i64) ?_) (Aa rfl (Aa (congrArg (C.int .i64) ?_) (Aa (congrArg (C.int .i64) ?_) (Aa rfl (Aa (congrArg (C.int .i64) ?_) (Aa (congrArg (C.int .i64) ?_) (Aa (congrArg (C.int .i64) ?_) (Aa (congrArg (C.int .i64) ?_) (Aa rfl (Aa (congrArg (C.int .u64) ?_) (Aa (congrArg (C.int .i64) ?_) (Aa (congrArg (C.int .i64) ?_) (Aa (congrArg (C.int .i64) ?_) (Aa (congrArg (C.int .i64) ?_) (Aa (congrArg (C.int .i64) ?_) (Aa (congrArg C.bool ?_) (Aa (congrArg C.bool ?_) (Aa (congrArg (C.int .i64) ?_) (Aa (congrArg (C.int .i64) ?_) (Aa (congrArg (C.int .i64) ?_) (Aa (congrArg (C.int .i64) ?_) (Aa (congrArg (C.int .i64) ?_) (Aa (congrArg (C.int .i64) ?_) (Aa (congrArg (C.int .i64) ?_) (Aa (congrArg (C.int .i64) ?_) (Aa (congrArg (C.int .u64) ?_) (Aa (congrArg (C.int .i64) ?_) (Aa (congrArg C.str ?_) (Aa (congrArg (C.int .i64) ?_) (Aa (congrArg (C.int .i64) ?_) (Aa rfl (Aa (congrArg (C.int .i64) ?_) rfl))))))))))))))))))))))))))))))))))) (Aa (congrArg V.c (congrArg C.bool ?_)) rfl))),(by rw[hm1]<;>rfl)⟩
 rotate_left 31
 all_goals first|(simp_all[Bn,C9,Aiu,Aiv,utf0];done)|(grind[Bn,C9,Aiu,Aiv,utf0])
def Rb:Int→List Ev→Int
 |left,[]=>left
 |left,e::r=>if left-(e.text.length:Int)<0 then-1 else Rb (left-(e.text.length:Int)) r
def Pr (left:Int) (l:List Ev):Int:=if left-(l.length:Int)<0 then-1 else Rb (left-(l.length:Int)) l
def Ps:Int→List Shp→Int
 |left,[]=>left
 |left,x::r=>if left-(x.fields.length:Int)<0 then-1 else Ps (left-(x.fields.length:Int)) r
def Eo (left:Int) (l:List Shp):Int:=if left-(l.length:Int)<0 then-1 else Ps (left-(l.length:Int)) l
theorem Adu: ∀ {l:List Ev} {left:Int},0≤left→left≤1048576→ -1≤Rb left l∧Rb left l≤left∧(0≤Rb left l→∀e∈l,(e.text.length:Int)≤1048576)
 |[],left,h,h2=>by simp[Rb];omega
 |e::r,left,h,h2=>by
  unfold Rb
  split
  ·omega
  ·have:=Adu (l:=r) (left:=left-(e.text.length:Int)) (by omega) (by omega)
   refine⟨this.1,by omega,fun h3 x hx=>?_⟩
   rcases List.mem_cons.1 hx with rfl|hx
   ·omega
   ·exact this.2.2 h3 x hx
theorem Yq {l:List Ev} {left:Int} (h:0≤left) (h2:left≤1048576): -1≤Pr left l∧Pr left l≤left∧(0≤Pr left l→l.length≤1048576∧∀e∈l,(e.text.length:Int)≤1048576):=by
 unfold Pr
 split
 ·omega
 ·have:=Adu (l:=l) (left:=left-(l.length:Int)) (by omega) (by omega)
  exact⟨this.1,by omega,fun h3=>⟨by omega,this.2.2 h3⟩⟩
theorem Adv: ∀ {l:List Shp} {left:Int},0≤left→left≤1048576→ -1≤Ps left l∧Ps left l≤left∧(0≤Ps left l→∀e∈l,e.fields.length≤1048576)
 |[],left,h,h2=>by simp[Ps];omega
 |e::r,left,h,h2=>by
  unfold Ps
  split
  ·omega
  ·have:=Adv (l:=r) (left:=left-(e.fields.length:Int)) (by omega) (by omega)
   refine⟨this.1,by omega,fun h3 x hx=>?_⟩
   rcases List.mem_cons.1 hx with rfl|hx
   ·omega
   ·exact this.2.2 h3 x hx
theorem Lr {l:List Shp} {left:Int} (h:0≤left) (h2:left≤1048576): -1≤Eo left l∧Eo left l≤left∧(0≤Eo left l→l.length≤1048576∧∀e∈l,e.fields.length≤1048576):=by
 unfold Eo
 split
 ·omega
 ·have:=Adv (l:=l) (left:=left-(l.length:Int)) (by omega) (by omega)
  exact⟨this.1,by omega,fun h3=>⟨by omega,this.2.2 h3⟩⟩
theorem Abi {left:Int} {e:Ev} {r:List Ev} :Rb left (e::r)=if left-(e.text.length:Int)<0 then-1 else Rb (left-(e.text.length:Int)) r:=rfl
theorem Abj {left:Int} {e:Shp} {r:List Shp} :Ps left (e::r)=if left-(e.fields.length:Int)<0 then-1 else Ps (left-(e.fields.length:Int)) r:=rfl
theorem Ur (a:Ev) (left:Int) (hp1:(0:Int)≤left∧left≤1048576) (hp2:((List.length (a).text:Nat):Int)≤9223372036854775807):Fun Tryz.prog 62 [.agg (cEv a),vI left] [] (.v (vI (if left-((List.length (a).text:Nat):Int)<0 then-1 else left-((List.length (a).text:Nat):Int)))) []:=by
 have hN:bigN=274877906944:=rfl
 refine Af Tryz.func62 (by kernel_rfl) (by kernel_rfl) (w:=let z1:=(a.text.length:Int);let z3:=((List.length (a).text:Nat):Int);let z2:=vI (if left-z3<0 then-1 else left-z3);(.seg [.as 9 (.v (vI (left-z1)))] (.br (.leaf () []) (.leaf () [])),((.v (vI (IntKind.i64.wrap (left-z1))):S)= .v (vI (left-z1)))∧((decide (left-z1<0))=true→(.v (vI (-1)):S)= .v z2∧([]:List Blk)=[])∧((decide (left-z1<0))=false→(.v (vI (left-z1)):S)= .v z2∧([]:List Blk)=[]))) (by kernel_rfl) ?_
 refine⟨(Ah (by omega) (by omega)),dsp (fun h1 p1=>?_) fun h1 p1=>?_⟩
 exact⟨(congrArg S.v (congrArg V.c (congrArg (C.int .i64) (by grind)))),rfl⟩
 exact⟨(congrArg S.v (congrArg V.c (congrArg (C.int .i64) (by grind)))),rfl⟩
structure G3 where
 left:Int
 i:Nat
def G4 (l:List Ev) (left:Int):Fam:=⟨G3,fun q1=>[(0,.v (.c (.seq .ev l))),(1,.v (vI q1.left)),(5,.v (vI (q1.i:Int)))],fun _=>[],fun q1=>q1.i≤l.length∧(0:Int)≤q1.left∧q1.left≤1048576∧Rb q1.left (List.drop q1.i l)=Pr left l,fun q1=>l.length-q1.i⟩
theorem Yr (l:List Ev) (left:Int) (hp1:(0:Int)≤left∧left≤1048576) (hp2:(l.length:Int)≤9223372036854775807) (hp3: ∀e∈l,(e.text.length:Int)≤9223372036854775807):Fun Tryz.prog 87 [.c (.seq .ev l),vI left] [] (.v (vI (Pr left l))) []:=by
 have hN:bigN=274877906944:=rfl
 refine Af Tryz.func87 (by kernel_rfl) (by kernel_rfl) (w:=let z5:=(l.length:Int);let z6:=G4 l left;let z7:=vI (Pr left l);(.seg [.as 9 (.v (vI (left-z5)))] (.br (.leaf () []) (.seg [.at 0,.keep [0,1,5],.sel []] (.loop z6 fun q1=> .br (.intro (fun (x1:Ev)=>l[q1.i]? =some x1) fun x1=>let z1:=((List.length (x1).text:Nat):Int);.seg [.el .ev x1,.call [] (.v (vI (if q1.left-z1<0 then-1 else q1.left-z1))) []] (.br (.leaf () []) (.seg [.as 17 (.v (vI ((q1.i:Int)+1))),.at 0,.keep [0,1,5],.sel []] (.next)))) (.leaf () [])))),((.v (vI (IntKind.i64.wrap (left-z5))):S)= .v (vI (left-z5)))∧((decide (left-z5<0))=true→(.v (vI (-1)):S)= .v z7∧([]:List Blk)=[])∧((decide (left-z5<0))=false→z6.Has [(0,.v (.c (.seq .ev l))),(1,.v (vI (left-z5))),(5,.v (vI 0))] []∧∀q1,z6.inv q1→(let z4:=(q1.i:Int);((decide (z4<z5))=true→(∃(x1:Ev),l[q1.i]? =some x1)∧∀(x1:Ev),(l[q1.i]? =some x1)→(let z3:=((List.length (x1).text:Nat):Int);let z2:=if q1.left-z3<0 then-1 else q1.left-z3;(l[q1.i]? =some x1)∧((0:Int)≤z4)∧(Fun Tryz.prog 62 [.agg (cEv x1),vI q1.left] [] (.v (vI z2)) [])∧((decide (z2<0))=true→(.v (vI (-1)):S)= .v z7∧([]:List Blk)=[])∧((decide (z2<0))=false→((.v (vI (IntKind.i64.wrap (z4+1))):S)= .v (vI (z4+1)))∧z6.Nxt q1 [(0,.v (.c (.seq .ev l))),(1,.v (vI z2)),(5,.v (vI (z4+1)))] [])))∧((decide (z4<z5))=false→(.v (vI q1.left):S)= .v z7∧([]:List Blk)=[]))))) (by kernel_rfl) ?_
 refine⟨(Ah (by omega) (by omega)),dsp (fun h1 p1=>?_) fun h1 p1=>?_⟩
 refine⟨(sI ?_),rfl⟩
 rotate_left
 refine⟨Bc (j:=(⟨left-(l.length:Int),0⟩:G3)) (by first|rfl|simp) rfl (by dsimp only[G4];exact⟨by omega,by omega,by omega,by rw[Pr,if_neg (by omega)];rfl⟩),fun (q1:G3) hq_q1=>?_⟩
 have hi_q1:q1.i≤l.length∧(0:Int)≤q1.left∧q1.left≤1048576∧Rb q1.left (List.drop q1.i l)=Pr left l:=hq_q1
 obtain ⟨v1,v2,v3,v4⟩:=hi_q1
 refine dsp (fun h2 p2=>?_) fun h2 p2=>?_
 refine⟨(Bo (l:=l) (i:=q1.i) (by omega)),fun x1 hx1=>?_⟩
 rw[C7 hx1,Abi] at v4
 have hz:=hp3 x1 (List.mem_of_getElem? hx1)
 refine⟨hx1,(by omega),(Ur x1 _ (by omega) (by omega)),dsp (fun h3 p3=>?_) fun h3 p3=>?_⟩
 refine⟨(sI ?_),rfl⟩
 rotate_left
 exact⟨(Ah (by omega) (by omega)),Bm (j:=(⟨(if q1.left-((List.length (x1).text:Nat):Int)<0 then-1 else q1.left-((List.length (x1).text:Nat):Int)),q1.i+1⟩:G3)) (by first|rfl|simp) rfl (by dsimp only[G4];exact⟨by omega,by grind,by grind,by grind⟩) (by dsimp only[G4];omega)⟩
 rw[Ja p2] at v4
 refine⟨(sI ?_),rfl⟩
 rotate_left
 all_goals first|(grind[Pr,Rb])
theorem Ys (l:List Fld) (left:Int) (hp1:(0:Int)≤left∧left≤1048576) (hp2:(l.length:Int)≤9223372036854775807):Fun Tryz.prog 188 [.c (.seq .fld l),vI left] [] (.v (vI (szN left (l.length:Int)))) []:=by
 have hN:bigN=274877906944:=rfl
 refine Af Tryz.func188 (by kernel_rfl) (by kernel_rfl) (w:=let z1:=(l.length:Int);(.seg [.as 8 (.v (vI (left-z1)))] (.br (.leaf () []) (.leaf () [])),((.v (vI (IntKind.i64.wrap (left-z1))):S)= .v (vI (left-z1)))∧((decide (left-z1<0))=true→(.v (vI (-1)):S)= .v (vI (szN left z1))∧([]:List Blk)=[])∧((decide (left-z1<0))=false→(.v (vI (left-z1)):S)= .v (vI (szN left z1))∧([]:List Blk)=[]))) (by kernel_rfl) ?_
 refine⟨(Ah (by omega) (by omega)),dsp (fun h1 p1=>?_) fun h1 p1=>?_⟩
 refine⟨(sI ?_),rfl⟩
 rotate_left
 refine⟨(sI ?_),rfl⟩
 rotate_left
 all_goals first|(simp[szN, *];done)|(grind[szN])
theorem Abk (a:Shp) (left:Int) (hp1:(0:Int)≤left∧left≤1048576) (hp2:((List.length (a).fields:Nat):Int)≤9223372036854775807):Fun Tryz.prog 142 [.agg (Acb a),vI left] [] (.v (vI (if left-((List.length (a).fields:Nat):Int)<0 then-1 else left-((List.length (a).fields:Nat):Int)))) []:=by
 have hN:bigN=274877906944:=rfl
 refine Af Tryz.func142 (by kernel_rfl) (by kernel_rfl) (w:=let z1:=(a.fields.length:Int);let z3:=((List.length (a).fields:Nat):Int);let z2:=vI (if left-z3<0 then-1 else left-z3);let z4:=vI (szN left z1);(.seg [.call [] (.v z4) []] (.br (.leaf () []) (.leaf () [])),(Fun Tryz.prog 188 [.c (.seq .fld a.fields),vI left] [] (.v z4) [])∧((decide (szN left z1<0))=true→(.v (vI (-1)):S)= .v z2∧([]:List Blk)=[])∧((decide (szN left z1<0))=false→(.v z4:S)= .v z2∧([]:List Blk)=[]))) (by kernel_rfl) ?_
 refine⟨(Ys _ _ (by omega) (by omega)),dsp (fun h1 p1=>?_) fun h1 p1=>?_⟩
 exact⟨(congrArg S.v (congrArg V.c (congrArg (C.int .i64) (by grind[szN])))),rfl⟩
 exact⟨(congrArg S.v (congrArg V.c (congrArg (C.int .i64) (by grind[szN])))),rfl⟩
structure G5 where
 left:Int
 i:Nat
def G6 (l:List Shp) (left:Int):Fam:=⟨G5,fun q1=>[(0,.v (.c (.seq .shp l))),(1,.v (vI q1.left)),(5,.v (vI (q1.i:Int)))],fun _=>[],fun q1=>q1.i≤l.length∧(0:Int)≤q1.left∧q1.left≤1048576∧Ps q1.left (List.drop q1.i l)=Eo left l,fun q1=>l.length-q1.i⟩
theorem Yt (l:List Shp) (left:Int) (hp1:(0:Int)≤left∧left≤1048576) (hp2:(l.length:Int)≤9223372036854775807) (hp3: ∀e∈l,(e.fields.length:Int)≤9223372036854775807):Fun Tryz.prog 101 [.c (.seq .shp l),vI left] [] (.v (vI (Eo left l))) []:=by
 have hN:bigN=274877906944:=rfl
 refine Af Tryz.func101 (by kernel_rfl) (by kernel_rfl) (w:=let z5:=(l.length:Int);let z6:=G6 l left;let z7:=vI (Eo left l);(.seg [.as 9 (.v (vI (left-z5)))] (.br (.leaf () []) (.seg [.at 0,.keep [0,1,5],.sel []] (.loop z6 fun q1=> .br (.intro (fun (x1:Shp)=>l[q1.i]? =some x1) fun x1=>let z1:=((List.length (x1).fields:Nat):Int);.seg [.el .shp x1,.call [] (.v (vI (if q1.left-z1<0 then-1 else q1.left-z1))) []] (.br (.leaf () []) (.seg [.as 17 (.v (vI ((q1.i:Int)+1))),.at 0,.keep [0,1,5],.sel []] (.next)))) (.leaf () [])))),((.v (vI (IntKind.i64.wrap (left-z5))):S)= .v (vI (left-z5)))∧((decide (left-z5<0))=true→(.v (vI (-1)):S)= .v z7∧([]:List Blk)=[])∧((decide (left-z5<0))=false→z6.Has [(0,.v (.c (.seq .shp l))),(1,.v (vI (left-z5))),(5,.v (vI 0))] []∧∀q1,z6.inv q1→(let z4:=(q1.i:Int);((decide (z4<z5))=true→(∃(x1:Shp),l[q1.i]? =some x1)∧∀(x1:Shp),(l[q1.i]? =some x1)→(let z3:=((List.length (x1).fields:Nat):Int);let z2:=if q1.left-z3<0 then-1 else q1.left-z3;(l[q1.i]? =some x1)∧((0:Int)≤z4)∧(Fun Tryz.prog 142 [.agg (Acb x1),vI q1.left] [] (.v (vI z2)) [])∧((decide (z2<0))=true→(.v (vI (-1)):S)= .v z7∧([]:List Blk)=[])∧((decide (z2<0))=false→((.v (vI (IntKind.i64.wrap (z4+1))):S)= .v (vI (z4+1)))∧z6.Nxt q1 [(0,.v (.c (.seq .shp l))),(1,.v (vI z2)),(5,.v (vI (z4+1)))] [])))∧((decide (z4<z5))=false→(.v (vI q1.left):S)= .v z7∧([]:List Blk)=[]))))) (by kernel_rfl) ?_
 refine⟨(Ah (by omega) (by omega)),dsp (fun h1 p1=>?_) fun h1 p1=>?_⟩
 refine⟨(sI ?_),rfl⟩
 rotate_left
 refine⟨Bc (j:=(⟨left-(l.length:Int),0⟩:G5)) (by first|rfl|simp) rfl (by dsimp only[G6];exact⟨by omega,by omega,by omega,by rw[Eo,if_neg (by omega)];rfl⟩),fun (q1:G5) hq_q1=>?_⟩
 have hi_q1:q1.i≤l.length∧(0:Int)≤q1.left∧q1.left≤1048576∧Ps q1.left (List.drop q1.i l)=Eo left l:=hq_q1
 obtain ⟨v1,v2,v3,v4⟩:=hi_q1
 refine dsp (fun h2 p2=>?_) fun h2 p2=>?_
 refine⟨(Bo (l:=l) (i:=q1.i) (by omega)),fun x1 hx1=>?_⟩
 rw[C7 hx1,Abj] at v4
 have hz:=hp3 x1 (List.mem_of_getElem? hx1)
 refine⟨hx1,(by omega),(Abk x1 _ (by omega) (by omega)),dsp (fun h3 p3=>?_) fun h3 p3=>?_⟩
 refine⟨(sI ?_),rfl⟩
 rotate_left
 exact⟨(Ah (by omega) (by omega)),Bm (j:=(⟨(if q1.left-((List.length (x1).fields:Nat):Int)<0 then-1 else q1.left-((List.length (x1).fields:Nat):Int)),q1.i+1⟩:G5)) (by first|rfl|simp) rfl (by dsimp only[G6];exact⟨by omega,by grind,by grind,by grind⟩) (by dsimp only[G6];omega)⟩
 rw[Ja p2] at v4
 refine⟨(sI ?_),rfl⟩
 rotate_left
 all_goals first|(grind[Eo,Ps])
theorem Yu (l:List Shp) (left:Int) (hp1:(0:Int)≤left∧left≤1048576) (hp2:(l.length:Int)≤9223372036854775807) (hp3: ∀e∈l,(e.fields.length:Int)≤9223372036854775807):Fun Tryz.prog 50 [.agg [.seq .shp l],vI left] [] (.v (vI (Eo left l))) []:=by
 have hN:bigN=274877906944:=rfl
 refine Af Tryz.func50 (by kernel_rfl) (by kernel_rfl) (w:=let z1:=vI (Eo left l);(.seg [.call [] (.v z1) []] (.br (.leaf () []) (.leaf () [])),(Fun Tryz.prog 101 [.c (.seq .shp l),vI left] [] (.v z1) [])∧((decide (Eo left l<0))=true→(.v (vI (-1)):S)= .v z1∧([]:List Blk)=[])∧((decide (Eo left l<0))=false→(.v z1:S)= .v z1∧([]:List Blk)=[]))) (by kernel_rfl) ?_
 refine⟨(Yt _ _ (by omega) (by omega) (hp3)),dsp (fun h1 p1=>?_) fun h1 p1=>?_⟩
 refine⟨(sI ?_),rfl⟩
 rotate_left
 exact⟨rfl,rfl⟩
 all_goals have:=Lr (l:=l) (left:=left) (by omega) (by omega);omega
theorem S0 (a:Pln) (left:Int) (hp1:(0:Int)≤left∧left≤1048576) (hp2:((List.length (a).shapes:Nat):Int)≤9223372036854775807) (hp3: ∀e∈(a).shapes,(e.fields.length:Int)≤9223372036854775807):Fun Tryz.prog 10 [.agg (F4 a),vI left] [] (.v (vI (Eo left (a).shapes))) []:=by
 have hN:bigN=274877906944:=rfl
 refine Af Tryz.func10 (by kernel_rfl) (by kernel_rfl) (w:=let z1:=vI (Eo left a.shapes);let z2:=decide (Eo left a.shapes<0);(.seg [.call [] (.v z1) []] (.br (.leaf () []) (.leaf () [])),(Fun Tryz.prog 50 [.agg [.seq .shp a.shapes],vI left] [] (.v z1) [])∧(z2=true→(.v (vI (-1)):S)= .v (vI (Eo left (a).shapes))∧([]:List Blk)=[])∧(z2=false→(.v z1:S)= .v (vI (Eo left (a).shapes))∧([]:List Blk)=[]))) (by kernel_rfl) ?_
 refine⟨(Yu a.shapes _ (by omega) (by omega) (hp3)),dsp (fun h1 p1=>?_) fun h1 p1=>?_⟩
 refine⟨(sI ?_),rfl⟩
 rotate_left
 refine⟨(sI ?_),rfl⟩
 rotate_left
 all_goals have:=Lr (l:=a.shapes) (left:=left) (by omega) (by omega);omega
theorem Us (a:Fld):Fun Tryz.prog 67 [.agg (Fd a)] [] (.v (.agg (Fd a))) []:=by
 have hN:bigN=274877906944:=rfl
 refine Af Tryz.func67 (by kernel_rfl) (by kernel_rfl) (w:=(.leaf () [],(.v (.agg (Fd a)):S)= .v (.agg (Fd a))∧([]:List Blk)=[])) (by kernel_rfl) ?_
 exact⟨rfl,rfl⟩
structure G7 where
 out:List Fld
 i:Nat
def G8 (l:List Fld):Fam:=⟨G7,fun q1=>[(0,.v (.c (.seq .fld l))),(3,.v (vO 0)),(4,.v (vI (q1.i:Int)))],fun q1=>[.lst .fld q1.out],fun q1=>q1.i≤l.length∧q1.out.length=l.length∧List.take q1.i q1.out=List.take q1.i l,fun q1=>l.length-q1.i⟩
theorem Yv (l:List Fld) (hp1:l.length≤1048576):Fun Tryz.prog 196 [.c (.seq .fld l)] [] (.v (vO 0)) [.lst .fld l]:=by
 have hN:bigN=274877906944:=rfl
 refine Af Tryz.func196 (by kernel_rfl) (by kernel_rfl) (w:=let z2:=(l.length:Int);let z3:=G8 l;(.seg [.ty .fld,.at 0,.keep [0,3,4],.sel [0]] (.loop z3 fun q1=> .br (.intro (fun (x1:Fld)=>l[q1.i]? =some x1) fun x1=> .seg [.el .fld x1,.call [] (.v (.agg (Fd x1))) []] (.intro (fun (x2:Fld)=>q1.out[q1.i]? =some x2) fun x2=> .seg [.el .fld x2,.as 13 (.v (vI ((q1.i:Int)+1))),.at 0,.keep [0,3,4],.sel [0]] (.next))) (.leaf () [0])),(z2≤9223372036854775807)∧(((32:Nat):Int)*z2≤281474976710656)∧(z2≤z2)∧((0:Int)≤z2)∧z3.Has [(0,.v (.c (.seq .fld l))),(3,.v (vO 0)),(4,.v (vI 0))] [.lst .fld (List.replicate (l.length) (⟨0,0,false,false,0⟩:Fld))]∧∀q1,z3.inv q1→(let z1:=(q1.i:Int);((decide (z1<z2))=true→(∃(x1:Fld),l[q1.i]? =some x1)∧∀(x1:Fld),(l[q1.i]? =some x1)→((l[q1.i]? =some x1)∧((0:Int)≤z1)∧(Fun Tryz.prog 67 [.agg (Fd x1)] [] (.v (.agg (Fd x1))) [])∧(∃(x2:Fld),q1.out[q1.i]? =some x2)∧∀(x2:Fld),(q1.out[q1.i]? =some x2)→((z1<(q1.out.length:Int))∧((0:Int)≤z1)∧(q1.out[q1.i]? =some x2)∧((.v (vI (IntKind.i64.wrap (z1+1))):S)= .v (vI (z1+1)))∧z3.Nxt q1 [(0,.v (.c (.seq .fld l))),(3,.v (vO 0)),(4,.v (vI (z1+1)))] [.lst .fld (List.set q1.out q1.i x1)])))∧((decide (z1<z2))=false→(.v (vO 0):S)= .v (vO 0)∧([.lst .fld q1.out]:List Blk)=[.lst .fld l])))) (by kernel_rfl) ?_
 refine⟨(by omega),(by omega),(by omega),(by omega),Bc (j:=(⟨List.replicate (l.length) (⟨0,0,false,false,0⟩:Fld),0⟩:G7)) (by first|rfl|simp) rfl (by dsimp only[G8];exact⟨by omega,by simp,by simp⟩),fun (q1:G7) hq_q1=>?_⟩
 have hi_q1:q1.i≤l.length∧q1.out.length=l.length∧List.take q1.i q1.out=List.take q1.i l:=hq_q1
 obtain ⟨v1,v2,v3⟩:=hi_q1
 refine dsp (fun h1 p1=>?_) fun h1 p1=>?_
 refine⟨(Bo (l:=l) (i:=q1.i) (by omega)),fun x1 hx1=>?_⟩
 refine⟨hx1,(by omega),(Us x1),(Bo (l:=q1.out) (i:=q1.i) (by omega)),fun x2 hx2=>?_⟩
 exact⟨(by omega),(by omega),hx2,(Ah (by omega) (by omega)),Bm (j:=(⟨List.set q1.out q1.i x1,q1.i+1⟩:G7)) (by first|rfl|simp) rfl (by dsimp only[G8];exact⟨by omega,by simp[v2],H9 v3 v2 hx1⟩) (by dsimp only[G8];omega)⟩
 refine⟨rfl,(Aa (congrArg (Blk.lst .fld) ?_) rfl)⟩
 rotate_left
 all_goals exact Em v3 v2 (by omega)
theorem Abm (a:Shp) (hp1:List.length (a).fields≤1048576):Fun Tryz.prog 164 [.agg (Acb a)] [] (.v (.agg [.int .i64 a.id,.own 0])) [.lst .fld a.fields]:=by
 have hN:bigN=274877906944:=rfl
 refine Af Tryz.func164 (by kernel_rfl) (by kernel_rfl) (w:=let z1:List Blk:=[.lst .fld a.fields];(.seg [.call [] (.v (vO 0)) z1] (.leaf () [3]),(Fun Tryz.prog 196 [.c (.seq .fld a.fields)] [] (.v (vO 0)) z1)∧(.v (.agg [.int .i64 a.id,.own 0]):S)= .v (.agg [.int .i64 a.id,.own 0])∧(z1:List Blk)=z1)) (by kernel_rfl) ?_
 exact⟨(Yv _ (by omega)),rfl,rfl⟩
structure G9 where
 out:List Shp
 i:Nat
def Ha (l:List Shp):Fam:=⟨G9,fun q1=>[(0,.v (.c (.seq .shp l))),(3,.v (vO 0)),(4,.v (vI (q1.i:Int)))],fun q1=>[.tree q1.out],fun q1=>q1.i≤l.length∧q1.out.length=l.length∧List.take q1.i q1.out=List.take q1.i l,fun q1=>l.length-q1.i⟩
theorem Yw (l:List Shp) (hp1:l.length≤1048576) (hp2: ∀e∈l,e.fields.length≤1048576):Fun Tryz.prog 113 [.c (.seq .shp l)] [] (.v (vO 0)) [.tree l]:=by
 have hN:bigN=274877906944:=rfl
 refine Af Tryz.func113 (by kernel_rfl) (by kernel_rfl) (w:=let z2:=(l.length:Int);let z3:=Ha l;(.seg [.tyT,.at 0,.keep [0,3,4],.sel [0]] (.loop z3 fun q1=> .br (.intro (fun (x1:Shp)=>l[q1.i]? =some x1) fun x1=> .seg [.el .shp x1,.call [] (.v (.agg [.int .i64 x1.id,.own 0])) [.lst .fld x1.fields]] (.intro (fun (x2:Shp)=>q1.out[q1.i]? =some x2) fun x2=> .seg [.el .shp x2,.as 13 (.v (vI ((q1.i:Int)+1))),.at 0,.keep [0,3,4],.sel [0]] (.next))) (.leaf () [0])),(z2≤9223372036854775807)∧(((32:Nat):Int)*z2≤281474976710656)∧(z2≤z2)∧((0:Int)≤z2)∧z3.Has [(0,.v (.c (.seq .shp l))),(3,.v (vO 0)),(4,.v (vI 0))] [.tree (List.replicate (l.length) (⟨0,([]:List Fld)⟩:Shp))]∧∀q1,z3.inv q1→(let z1:=(q1.i:Int);((decide (z1<z2))=true→(∃(x1:Shp),l[q1.i]? =some x1)∧∀(x1:Shp),(l[q1.i]? =some x1)→((l[q1.i]? =some x1)∧((0:Int)≤z1)∧(Fun Tryz.prog 164 [.agg (Acb x1)] [] (.v (.agg [.int .i64 x1.id,.own 0])) [.lst .fld x1.fields])∧(∃(x2:Shp),q1.out[q1.i]? =some x2)∧∀(x2:Shp),(q1.out[q1.i]? =some x2)→((z1<(q1.out.length:Int))∧((0:Int)≤z1)∧(q1.out[q1.i]? =some x2)∧((.v (vI (IntKind.i64.wrap (z1+1))):S)= .v (vI (z1+1)))∧z3.Nxt q1 [(0,.v (.c (.seq .shp l))),(3,.v (vO 0)),(4,.v (vI (z1+1)))] [.tree (List.set q1.out q1.i (⟨x1.id,x1.fields⟩:Shp))])))∧((decide (z1<z2))=false→(.v (vO 0):S)= .v (vO 0)∧([.tree q1.out]:List Blk)=[.tree l])))) (by kernel_rfl) ?_
 refine⟨(by omega),(by omega),(by omega),(by omega),Bc (j:=(⟨List.replicate (l.length) (⟨0,([]:List Fld)⟩:Shp),0⟩:G9)) (by first|rfl|simp) rfl (by dsimp only[Ha];exact⟨by omega,by simp,by simp⟩),fun (q1:G9) hq_q1=>?_⟩
 have hi_q1:q1.i≤l.length∧q1.out.length=l.length∧List.take q1.i q1.out=List.take q1.i l:=hq_q1
 obtain ⟨v1,v2,v3⟩:=hi_q1
 refine dsp (fun h1 p1=>?_) fun h1 p1=>?_
 refine⟨(Bo (l:=l) (i:=q1.i) (by omega)),fun x1 hx1=>?_⟩
 have hfx:=hp2 x1 (List.mem_of_getElem? hx1)
 refine⟨hx1,(by omega),(Abm x1 (by omega)),(Bo (l:=q1.out) (i:=q1.i) (by omega)),fun x2 hx2=>?_⟩
 exact⟨(by omega),(by omega),hx2,(Ah (by omega) (by omega)),Bm (j:=(⟨List.set q1.out q1.i (⟨x1.id,x1.fields⟩:Shp),q1.i+1⟩:G9)) (by first|rfl|simp) rfl (by dsimp only[Ha];exact⟨by omega,by simp[v2],H9 v3 v2 hx1⟩) (by dsimp only[Ha];omega)⟩
 refine⟨rfl,(Aa (congrArg Blk.tree ?_) rfl)⟩
 rotate_left
 all_goals exact Em v3 v2 (by omega)
theorem Yx (l:List Shp) (hp1:l.length≤1048576) (hp2: ∀e∈l,e.fields.length≤1048576):Fun Tryz.prog 54 [.agg [.seq .shp l]] [] (.v (.agg [.own 0])) [.tree l]:=by
 have hN:bigN=274877906944:=rfl
 refine Af Tryz.func54 (by kernel_rfl) (by kernel_rfl) (w:=(.seg [.call [] (.v (vO 0)) [.tree l]] (.leaf () [3]),(Fun Tryz.prog 113 [.c (.seq .shp l)] [] (.v (vO 0)) [.tree l])∧(.v (.agg [.own 0]):S)= .v (.agg [.own 0])∧([.tree l]:List Blk)=[.tree l])) (by kernel_rfl) ?_
 exact⟨(Yw _ (by omega) (hp2)),rfl,rfl⟩
theorem Hu (a:Pln) (hp1:List.length (a).shapes≤1048576) (hp2: ∀e∈(a).shapes,e.fields.length≤1048576):Fun Tryz.prog 12 [.agg (F4 a)] [] (.v (.agg (Nw 0 a))) [.tree a.shapes]:=by
 have hN:bigN=274877906944:=rfl
 refine Af Tryz.func12 (by kernel_rfl) (by kernel_rfl) (w:=(.seg [.call [] (.v (.agg [.own 0])) [.tree a.shapes]] (.leaf () [3]),(Fun Tryz.prog 54 [.agg [.seq .shp a.shapes]] [] (.v (.agg [.own 0])) [.tree a.shapes])∧(.v (.agg (Nw 0 a)):S)= .v (.agg (Nw 0 a))∧([.tree a.shapes]:List Blk)=[.tree a.shapes])) (by kernel_rfl) ?_
 exact⟨(Yx a.shapes (by omega) (hp2)),rfl,rfl⟩
theorem Ut (a:Ev):Fun Tryz.prog 69 [.agg (cEv a)] [] (.v (.agg (cEv a))) []:=by
 have hN:bigN=274877906944:=rfl
 refine Af Tryz.func69 (by kernel_rfl) (by kernel_rfl) (w:=(.leaf () [],(.v (.agg (cEv a)):S)= .v (.agg (cEv a))∧([]:List Blk)=[])) (by kernel_rfl) ?_
 exact⟨rfl,rfl⟩
structure Hb where
 out:List Ev
 i:Nat
def Hc (l:List Ev):Fam:=⟨Hb,fun q1=>[(0,.v (.c (.seq .ev l))),(3,.v (vO 0)),(4,.v (vI (q1.i:Int)))],fun q1=>[.lst .ev q1.out],fun q1=>q1.i≤l.length∧q1.out.length=l.length∧List.take q1.i q1.out=List.take q1.i l,fun q1=>l.length-q1.i⟩
theorem Yy (l:List Ev) (hp1:l.length≤1048576):Fun Tryz.prog 91 [.c (.seq .ev l)] [] (.v (vO 0)) [.lst .ev l]:=by
 have hN:bigN=274877906944:=rfl
 refine Af Tryz.func91 (by kernel_rfl) (by kernel_rfl) (w:=let z2:=(l.length:Int);let z3:=Hc l;(.seg [.ty .ev,.at 0,.keep [0,3,4],.sel [0]] (.loop z3 fun q1=> .br (.intro (fun (x1:Ev)=>l[q1.i]? =some x1) fun x1=> .seg [.el .ev x1,.call [] (.v (.agg (cEv x1))) []] (.intro (fun (x2:Ev)=>q1.out[q1.i]? =some x2) fun x2=> .seg [.el .ev x2,.as 13 (.v (vI ((q1.i:Int)+1))),.at 0,.keep [0,3,4],.sel [0]] (.next))) (.leaf () [0])),(z2≤9223372036854775807)∧(((64:Nat):Int)*z2≤281474976710656)∧(z2≤z2)∧((0:Int)≤z2)∧z3.Has [(0,.v (.c (.seq .ev l))),(3,.v (vO 0)),(4,.v (vI 0))] [.lst .ev (List.replicate (l.length) (⟨0,0,0,0,[],0,0⟩:Ev))]∧∀q1,z3.inv q1→(let z1:=(q1.i:Int);((decide (z1<z2))=true→(∃(x1:Ev),l[q1.i]? =some x1)∧∀(x1:Ev),(l[q1.i]? =some x1)→((l[q1.i]? =some x1)∧((0:Int)≤z1)∧(Fun Tryz.prog 69 [.agg (cEv x1)] [] (.v (.agg (cEv x1))) [])∧(∃(x2:Ev),q1.out[q1.i]? =some x2)∧∀(x2:Ev),(q1.out[q1.i]? =some x2)→((z1<(q1.out.length:Int))∧((0:Int)≤z1)∧(q1.out[q1.i]? =some x2)∧((.v (vI (IntKind.i64.wrap (z1+1))):S)= .v (vI (z1+1)))∧z3.Nxt q1 [(0,.v (.c (.seq .ev l))),(3,.v (vO 0)),(4,.v (vI (z1+1)))] [.lst .ev (List.set q1.out q1.i x1)])))∧((decide (z1<z2))=false→(.v (vO 0):S)= .v (vO 0)∧([.lst .ev q1.out]:List Blk)=[.lst .ev l])))) (by kernel_rfl) ?_
 refine⟨(by omega),(by omega),(by omega),(by omega),Bc (j:=(⟨List.replicate (l.length) (⟨0,0,0,0,[],0,0⟩:Ev),0⟩:Hb)) (by first|rfl|simp) rfl (by dsimp only[Hc];exact⟨by omega,by simp,by simp⟩),fun (q1:Hb) hq_q1=>?_⟩
 have hi_q1:q1.i≤l.length∧q1.out.length=l.length∧List.take q1.i q1.out=List.take q1.i l:=hq_q1
 obtain ⟨v1,v2,v3⟩:=hi_q1
 refine dsp (fun h1 p1=>?_) fun h1 p1=>?_
 refine⟨(Bo (l:=l) (i:=q1.i) (by omega)),fun x1 hx1=>?_⟩
 refine⟨hx1,(by omega),(Ut x1),(Bo (l:=q1.out) (i:=q1.i) (by omega)),fun x2 hx2=>?_⟩
 exact⟨(by omega),(by omega),hx2,(Ah (by omega) (by omega)),Bm (j:=(⟨List.set q1.out q1.i x1,q1.i+1⟩:Hb)) (by first|rfl|simp) rfl (by dsimp only[Hc];exact⟨by omega,by simp[v2],H9 v3 v2 hx1⟩) (by dsimp only[Hc];omega)⟩
 refine⟨rfl,(Aa (congrArg (Blk.lst .ev) ?_) rfl)⟩
 rotate_left
 all_goals exact Em v3 v2 (by omega)
theorem Uu (a:Fld):Fun Tryz.prog 74 [.agg (Fd a),.agg (Fd a)] [] (.v (vB true)) []:=by
 have hN:bigN=274877906944:=rfl
 refine Af Tryz.func74 (by kernel_rfl) (by kernel_rfl) (w:=(.seg [.br false,.br false,.br false,.br false,.br false] (.leaf () []),((!decide (a.number=a.number))=false)∧((!decide (a.kind=a.kind))=false)∧((!decide (a.rep=a.rep))=false)∧((!decide (a.packed=a.packed))=false)∧((!decide (a.msg=a.msg))=false)∧(.v (vB true):S)= .v (vB true)∧([]:List Blk)=[])) (by kernel_rfl) ?_
 exact⟨(by simp),(by simp),(by simp),(by simp),(by simp),rfl,rfl⟩
structure Hd where
 i:Nat
def He (l:List Fld):Fam:=⟨Hd,fun q1=>[(0,.v (.c (.seq .fld l))),(1,.v (.c (.seq .fld l))),(5,.v (vI (q1.i:Int)))],fun _=>[],fun q1=>q1.i≤l.length,fun q1=>l.length-q1.i⟩
theorem Yz (l:List Fld) (hp1:l.length≤bigN):Fun Tryz.prog 203 [.c (.seq .fld l),.c (.seq .fld l)] [] (.v (vB true)) []:=by
 have hN:bigN=274877906944:=rfl
 refine Af Tryz.func203 (by kernel_rfl) (by kernel_rfl) (w:=let z3:=(l.length:Int);let z4:=He l;(.seg [.br false,.at 0,.keep [0,1,5],.sel []] (.loop z4 fun q1=> .br (.intro (fun (x1:Fld)=>l[q1.i]? =some x1) fun x1=> .seg [.ord (os 10 [8]) [],.el .fld x1,.el .fld x1,.call [] (.v (vB true)) [],.br false,.as 16 (.v (vI ((q1.i:Int)+1))),.at 0,.keep [0,1,5],.sel []] (.next)) (.leaf () [])),((!decide (z3=z3))=false)∧z4.Has [(0,.v (.c (.seq .fld l))),(1,.v (.c (.seq .fld l))),(5,.v (vI 0))] []∧∀q1,z4.inv q1→(let z2:=(q1.i:Int);((decide (z2<z3))=true→(∃(x1:Fld),l[q1.i]? =some x1)∧∀(x1:Fld),(l[q1.i]? =some x1)→(let z1:=l[q1.i]? =some x1;z1∧((0:Int)≤z2)∧z1∧((0:Int)≤z2)∧z1∧((0:Int)≤z2)∧z1∧((0:Int)≤z2)∧(Fun Tryz.prog 74 [.agg (Fd x1),.agg (Fd x1)] [] (.v (vB true)) [])∧((!true)=false)∧((.v (vI (IntKind.i64.wrap (z2+1))):S)= .v (vI (z2+1)))∧z4.Nxt q1 [(0,.v (.c (.seq .fld l))),(1,.v (.c (.seq .fld l))),(5,.v (vI (z2+1)))] []))∧((decide (z2<z3))=false→(.v (vB true):S)= .v (vB true)∧([]:List Blk)=[])))) (by kernel_rfl) ?_
 refine⟨(by simp),Bc (j:=(⟨0⟩:Hd)) (by first|rfl|simp) rfl (by dsimp only[He];omega),fun (q1:Hd) hq_q1=>?_⟩
 have hi_q1:q1.i≤l.length:=hq_q1
 refine dsp (fun h1 p1=>?_) fun h1 p1=>?_
 refine⟨(Bo (l:=l) (i:=q1.i) (by omega)),fun x1 hx1=>?_⟩
 exact⟨hx1,(by omega),hx1,(by omega),hx1,(by omega),hx1,(by omega),(Uu x1),(by decide),(Ah (by omega) (by omega)),Bm (j:=(⟨q1.i+1⟩:Hd)) (by first|rfl|simp) rfl (by dsimp only[He];omega) (by dsimp only[He];omega)⟩
 exact⟨rfl,rfl⟩
theorem Abn (a:Shp) (hp1:List.length (a).fields≤bigN):Fun Tryz.prog 168 [.agg (Acb a),.agg (Acb a)] [] (.v (vB true)) []:=by
 have hN:bigN=274877906944:=rfl
 refine Af Tryz.func168 (by kernel_rfl) (by kernel_rfl) (w:=(.seg [.br false,.call [] (.v (vB true)) [],.br false] (.leaf () []),((!decide (a.id=a.id))=false)∧(Fun Tryz.prog 203 [.c (.seq .fld a.fields),.c (.seq .fld a.fields)] [] (.v (vB true)) [])∧((!true)=false)∧(.v (vB true):S)= .v (vB true)∧([]:List Blk)=[])) (by kernel_rfl) ?_
 exact⟨(by simp),(Yz _ (by omega)),(by decide),rfl,rfl⟩
structure Hf where
 i:Nat
def Hg (l:List Shp):Fam:=⟨Hf,fun q1=>[(0,.v (.c (.seq .shp l))),(1,.v (.c (.seq .shp l))),(5,.v (vI (q1.i:Int)))],fun _=>[],fun q1=>q1.i≤l.length,fun q1=>l.length-q1.i⟩
theorem Y0 (l:List Shp) (hp1:l.length≤bigN) (hp2: ∀e∈l,e.fields.length≤bigN):Fun Tryz.prog 117 [.c (.seq .shp l),.c (.seq .shp l)] [] (.v (vB true)) []:=by
 have hN:bigN=274877906944:=rfl
 refine Af Tryz.func117 (by kernel_rfl) (by kernel_rfl) (w:=let z3:=(l.length:Int);let z4:=Hg l;(.seg [.br false,.at 0,.keep [0,1,5],.sel []] (.loop z4 fun q1=> .br (.intro (fun (x1:Shp)=>l[q1.i]? =some x1) fun x1=> .seg [.ord (os 10 [8]) [],.el .shp x1,.el .shp x1,.call [] (.v (vB true)) [],.br false,.as 16 (.v (vI ((q1.i:Int)+1))),.at 0,.keep [0,1,5],.sel []] (.next)) (.leaf () [])),((!decide (z3=z3))=false)∧z4.Has [(0,.v (.c (.seq .shp l))),(1,.v (.c (.seq .shp l))),(5,.v (vI 0))] []∧∀q1,z4.inv q1→(let z2:=(q1.i:Int);((decide (z2<z3))=true→(∃(x1:Shp),l[q1.i]? =some x1)∧∀(x1:Shp),(l[q1.i]? =some x1)→(let z1:=l[q1.i]? =some x1;z1∧((0:Int)≤z2)∧z1∧((0:Int)≤z2)∧z1∧((0:Int)≤z2)∧z1∧((0:Int)≤z2)∧(Fun Tryz.prog 168 [.agg (Acb x1),.agg (Acb x1)] [] (.v (vB true)) [])∧((!true)=false)∧((.v (vI (IntKind.i64.wrap (z2+1))):S)= .v (vI (z2+1)))∧z4.Nxt q1 [(0,.v (.c (.seq .shp l))),(1,.v (.c (.seq .shp l))),(5,.v (vI (z2+1)))] []))∧((decide (z2<z3))=false→(.v (vB true):S)= .v (vB true)∧([]:List Blk)=[])))) (by kernel_rfl) ?_
 refine⟨(by simp),Bc (j:=(⟨0⟩:Hf)) (by first|rfl|simp) rfl (by dsimp only[Hg];omega),fun (q1:Hf) hq_q1=>?_⟩
 have hi_q1:q1.i≤l.length:=hq_q1
 refine dsp (fun h1 p1=>?_) fun h1 p1=>?_
 refine⟨(Bo (l:=l) (i:=q1.i) (by omega)),fun x1 hx1=>?_⟩
 have hfx:=hp2 x1 (List.mem_of_getElem? hx1)
 exact⟨hx1,(by omega),hx1,(by omega),hx1,(by omega),hx1,(by omega),(Abn x1 (by omega)),(by decide),(Ah (by omega) (by omega)),Bm (j:=(⟨q1.i+1⟩:Hf)) (by first|rfl|simp) rfl (by dsimp only[Hg];omega) (by dsimp only[Hg];omega)⟩
 exact⟨rfl,rfl⟩
theorem Y1 (l:List Shp) (hp1:l.length≤bigN) (hp2: ∀e∈l,e.fields.length≤bigN):Fun Tryz.prog 57 [.agg [.seq .shp l],.agg [.seq .shp l]] [] (.v (vB true)) []:=by
 have hN:bigN=274877906944:=rfl
 refine Af Tryz.func57 (by kernel_rfl) (by kernel_rfl) (w:=(.seg [.call [] (.v (vB true)) [],.br false] (.leaf () []),(Fun Tryz.prog 117 [.c (.seq .shp l),.c (.seq .shp l)] [] (.v (vB true)) [])∧((!true)=false)∧(.v (vB true):S)= .v (vB true)∧([]:List Blk)=[])) (by kernel_rfl) ?_
 exact⟨(Y0 _ (by omega) (hp2)),(by decide),rfl,rfl⟩
theorem S3 (a:Pln) (hp1:List.length (a).shapes≤bigN) (hp2: ∀e∈(a).shapes,e.fields.length≤bigN):Fun Tryz.prog 14 [.agg (F4 a),.agg (F4 a)] [] (.v (vB true)) []:=by
 have hN:bigN=274877906944:=rfl
 refine Af Tryz.func14 (by kernel_rfl) (by kernel_rfl) (w:=(.seg [.call [] (.v (vB true)) [],.br false,.br false,.br false,.br false] (.leaf () []),(Fun Tryz.prog 57 [.agg [.seq .shp a.shapes],.agg [.seq .shp a.shapes]] [] (.v (vB true)) [])∧((!true)=false)∧((!decide (a.root=a.root))=false)∧((!decide (a.deep=a.deep))=false)∧((!decide (a.most=a.most))=false)∧(.v (vB true):S)= .v (vB true)∧([]:List Blk)=[])) (by kernel_rfl) ?_
 exact⟨(Y1 a.shapes (by omega) (hp2)),(by decide),(by simp),(by simp),(by simp),rfl,rfl⟩
theorem K5 (a:Ev):Fun Tryz.prog 46 [.agg (cEv a),.agg (cEv a)] [] (.v (vB true)) []:=by
 have hN:bigN=274877906944:=rfl
 refine Af Tryz.func46 (by kernel_rfl) (by kernel_rfl) (w:=(.seg [.br false,.br false,.br false,.br false,.br false,.br false,.br false] (.leaf () []),((!decide (a.kind=a.kind))=false)∧((!decide (a.field=a.field))=false)∧((!decide (a.bits=a.bits))=false)∧((!decide (a.len=a.len))=false)∧((!decide (a.text=a.text))=false)∧((!decide (a.code=a.code))=false)∧((!decide (a.at_=a.at_))=false)∧(.v (vB true):S)= .v (vB true)∧([]:List Blk)=[])) (by kernel_rfl) ?_
 exact⟨(by simp),(by simp),(by simp),(by simp),(by simp),(by simp),(by simp),rfl,rfl⟩
structure Hh where
 i:Nat
def Hi (l:List Ev):Fam:=⟨Hh,fun q1=>[(0,.v (.c (.seq .ev l))),(1,.v (.c (.seq .ev l))),(5,.v (vI (q1.i:Int)))],fun _=>[],fun q1=>q1.i≤l.length,fun q1=>l.length-q1.i⟩
theorem Ls (l:List Ev) (hp1:l.length≤bigN):Fun Tryz.prog 24 [.c (.seq .ev l),.c (.seq .ev l)] [] (.v (vB true)) []:=by
 have hN:bigN=274877906944:=rfl
 refine Af Tryz.func24 (by kernel_rfl) (by kernel_rfl) (w:=let z3:=(l.length:Int);let z4:=Hi l;(.seg [.br false,.at 0,.keep [0,1,5],.sel []] (.loop z4 fun q1=> .br (.intro (fun (x1:Ev)=>l[q1.i]? =some x1) fun x1=> .seg [.ord (os 10 [8]) [],.el .ev x1,.el .ev x1,.call [] (.v (vB true)) [],.br false,.as 16 (.v (vI ((q1.i:Int)+1))),.at 0,.keep [0,1,5],.sel []] (.next)) (.leaf () [])),((!decide (z3=z3))=false)∧z4.Has [(0,.v (.c (.seq .ev l))),(1,.v (.c (.seq .ev l))),(5,.v (vI 0))] []∧∀q1,z4.inv q1→(let z2:=(q1.i:Int);((decide (z2<z3))=true→(∃(x1:Ev),l[q1.i]? =some x1)∧∀(x1:Ev),(l[q1.i]? =some x1)→(let z1:=l[q1.i]? =some x1;z1∧((0:Int)≤z2)∧z1∧((0:Int)≤z2)∧z1∧((0:Int)≤z2)∧z1∧((0:Int)≤z2)∧(Fun Tryz.prog 46 [.agg (cEv x1),.agg (cEv x1)] [] (.v (vB true)) [])∧((!true)=false)∧((.v (vI (IntKind.i64.wrap (z2+1))):S)= .v (vI (z2+1)))∧z4.Nxt q1 [(0,.v (.c (.seq .ev l))),(1,.v (.c (.seq .ev l))),(5,.v (vI (z2+1)))] []))∧((decide (z2<z3))=false→(.v (vB true):S)= .v (vB true)∧([]:List Blk)=[])))) (by kernel_rfl) ?_
 refine⟨(by simp),Bc (j:=(⟨0⟩:Hh)) (by first|rfl|simp) rfl (by dsimp only[Hi];omega),fun (q1:Hh) hq_q1=>?_⟩
 have hi_q1:q1.i≤l.length:=hq_q1
 refine dsp (fun h1 p1=>?_) fun h1 p1=>?_
 refine⟨(Bo (l:=l) (i:=q1.i) (by omega)),fun x1 hx1=>?_⟩
 exact⟨hx1,(by omega),hx1,(by omega),hx1,(by omega),hx1,(by omega),(K5 x1),(by decide),(Ah (by omega) (by omega)),Bm (j:=(⟨q1.i+1⟩:Hh)) (by first|rfl|simp) rfl (by dsimp only[Hi];omega) (by dsimp only[Hi];omega)⟩
 exact⟨rfl,rfl⟩
end Go.Proofs.YtpchkcpcdbdhdaaGreat.Ax
