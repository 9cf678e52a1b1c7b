/- Decoders: what is valid: both sides. Copies. The machine: closing. The machine: settling; frames, tags, lengths. The machine: lengths, numbers, texts. -/
import Derived.Test.YtphecbmdhbphgaaGreatKFnPullOne2
import Derived.Test.YtphecbmdhbphgaaGreatKFnPullOne1
set_option linter.unusedSimpArgs false
set_option linter.unusedVariables false
namespace Go.Proofs.YtphecbmdhbphgaaGreat.Ax
open Go.RowKit
theorem Aem {w:Int} (h:D3 w=true):0≤w∧w≤5:=by simp[D3] at h;omega
theorem Afy {d:Dcd} (h:Bk d=true):Dm d.pJ=true:=by simp only[Bk,Bool.and_eq_true] at h;exact h.1.1
theorem Xn (d:Dcd) (hp1:List.length (d).sJ≤A7) (hp2:List.length (d).pJ.sQ≤A7):Fun Tryz.prog 51 [.agg (Bx d)] [] (.v (vB (Bs d))) []:=by
 have hN:A7=274877906944:=rfl
 refine Ap Tryz.func51 Q4 Q4 (w:=let z3:S:= .v (vB (J9 d));let z4:= !(decide (d.eJ.kind=0)&&(decide (d.eJ.field=0)&&(decide (d.eJ.bits=0)&&(decide (d.eJ.len=0)&&(decide (d.eJ.text=[])&&(decide (d.eJ.code=0)&&decide (d.eJ.aJ=0)))))));let z5:=Jn d&&Jo d;let z2:S:= .v (vB z5);let z6:S:= .v (vB (Bs d));let z1:=Lf (.v (vB false)) z6 [] [];let z7:= !decide (d.mJ=9);let z8:=decide (0<((d.sJ.length:Nat):Int));let z9:= !decide (d.mJ=1);let z10:S:= .v (vI (Eb d));let z11:=decide (d.mJ=1);let z12:=decide (Eb d<1);let z13:S:= .v (vB (B6 d.eJ));let z14:S:= .v (vB (Gv d.eJ));let z15:=z7=false;let z16:=J2 (d.pJ).sQ d.field;let z17:=z7=true;let z18:=Ak d.aJ 0 1000000000;let z19:=Ak d.sX 0 d.aJ;let z20:=Ak d.mJ 1 9;(.sZ [.call [] (.v (vB (Bk d))) []] (.br (.lJ () []) (.sZ [.call [] (.v (vB z20)) []] (.br (.lJ () []) (.sZ [.call [] (.v (vB z18)) []] (.br (.lJ () []) (.sZ [.call [] (.v (vB z19)) []] (.br (.lJ () []) (.sZ [.call [] (.v (vB (Fk d.uJ))) []] (.br (.lJ () []) (.sZ [.call [] (.v (vB (D3 d.wJ))) []] (.br (.lJ () []) (.br (.sZ [.call [] (.v (vB z16)) []] (.br (.lJ () []) (.br (.sZ [.call [] z14 []] (.br (.lJ () []) (.sZ [.call [] z13 []] (.br (.lJ () []) (.br (.br (.lJ () []) (.br (.br (.lJ () []) (.br (.sZ [.br true,.call [] z10 []] (.br (.lJ () []) (.sZ [.call [] z2 []] (.br (.sZ [.call [] z3 []] (.lJ () [])) (.lJ () []))))) (.sZ [.call [] z2 []] (.br (.sZ [.call [] z3 []] (.lJ () [])) (.lJ () []))))) (.br (.sZ [.br true,.call [] z10 []] (.br (.lJ () []) (.sZ [.call [] z2 []] (.br (.sZ [.call [] z3 []] (.lJ () [])) (.lJ () []))))) (.sZ [.call [] z2 []] (.br (.sZ [.call [] z3 []] (.lJ () [])) (.lJ () [])))))) (.br (.br (.lJ () []) (.br (.sZ [.br false,.call [] z2 []] (.br (.sZ [.call [] z3 []] (.lJ () [])) (.lJ () []))) (.sZ [.call [] z2 []] (.br (.sZ [.call [] z3 []] (.lJ () [])) (.lJ () []))))) (.br (.sZ [.br false,.call [] z2 []] (.br (.sZ [.call [] z3 []] (.lJ () [])) (.lJ () []))) (.sZ [.call [] z2 []] (.br (.sZ [.call [] z3 []] (.lJ () [])) (.lJ () [])))))))))) (.br (.br (.lJ () []) (.br (.br (.lJ () []) (.br (.sZ [.br true,.call [] z10 []] (.br (.lJ () []) (.sZ [.call [] z2 []] (.br (.sZ [.call [] z3 []] (.lJ () [])) (.lJ () []))))) (.sZ [.call [] z2 []] (.br (.sZ [.call [] z3 []] (.lJ () [])) (.lJ () []))))) (.br (.sZ [.br true,.call [] z10 []] (.br (.lJ () []) (.sZ [.call [] z2 []] (.br (.sZ [.call [] z3 []] (.lJ () [])) (.lJ () []))))) (.sZ [.call [] z2 []] (.br (.sZ [.call [] z3 []] (.lJ () [])) (.lJ () [])))))) (.br (.br (.lJ () []) (.br (.sZ [.br false,.call [] z2 []] (.br (.sZ [.call [] z3 []] (.lJ () [])) (.lJ () []))) (.sZ [.call [] z2 []] (.br (.sZ [.call [] z3 []] (.lJ () [])) (.lJ () []))))) (.br (.sZ [.br false,.call [] z2 []] (.br (.sZ [.call [] z3 []] (.lJ () [])) (.lJ () []))) (.sZ [.call [] z2 []] (.br (.sZ [.call [] z3 []] (.lJ () [])) (.lJ () []))))))))) (.br (.sZ [.call [] z14 []] (.br (.lJ () []) (.sZ [.call [] z13 []] (.br (.lJ () []) (.br (.br (.lJ () []) (.br (.br (.lJ () []) (.br (.sZ [.br true,.call [] z10 []] (.br (.lJ () []) (.sZ [.call [] z2 []] (.br (.sZ [.call [] z3 []] (.lJ () [])) (.lJ () []))))) (.sZ [.call [] z2 []] (.br (.sZ [.call [] z3 []] (.lJ () [])) (.lJ () []))))) (.br (.sZ [.br true,.call [] z10 []] (.br (.lJ () []) (.sZ [.call [] z2 []] (.br (.sZ [.call [] z3 []] (.lJ () [])) (.lJ () []))))) (.sZ [.call [] z2 []] (.br (.sZ [.call [] z3 []] (.lJ () [])) (.lJ () [])))))) (.br (.br (.lJ () []) (.br (.sZ [.br false,.call [] z2 []] (.br (.sZ [.call [] z3 []] (.lJ () [])) (.lJ () []))) (.sZ [.call [] z2 []] (.br (.sZ [.call [] z3 []] (.lJ () [])) (.lJ () []))))) (.br (.sZ [.br false,.call [] z2 []] (.br (.sZ [.call [] z3 []] (.lJ () [])) (.lJ () []))) (.sZ [.call [] z2 []] (.br (.sZ [.call [] z3 []] (.lJ () [])) (.lJ () [])))))))))) (.br (.br (.lJ () []) (.br (.br (.lJ () []) (.br (.sZ [.br true,.call [] z10 []] (.br (.lJ () []) (.sZ [.call [] z2 []] (.br (.sZ [.call [] z3 []] (.lJ () [])) (.lJ () []))))) (.sZ [.call [] z2 []] (.br (.sZ [.call [] z3 []] (.lJ () [])) (.lJ () []))))) (.br (.sZ [.br true,.call [] z10 []] (.br (.lJ () []) (.sZ [.call [] z2 []] (.br (.sZ [.call [] z3 []] (.lJ () [])) (.lJ () []))))) (.sZ [.call [] z2 []] (.br (.sZ [.call [] z3 []] (.lJ () [])) (.lJ () [])))))) (.br (.br (.lJ () []) (.br (.sZ [.br false,.call [] z2 []] (.br (.sZ [.call [] z3 []] (.lJ () [])) (.lJ () []))) (.sZ [.call [] z2 []] (.br (.sZ [.call [] z3 []] (.lJ () [])) (.lJ () []))))) (.br (.sZ [.br false,.call [] z2 []] (.br (.sZ [.call [] z3 []] (.lJ () [])) (.lJ () []))) (.sZ [.call [] z2 []] (.br (.sZ [.call [] z3 []] (.lJ () [])) (.lJ () []))))))))))))))))))),(Fp 102 [.agg (Bx d)] [] (.v (vB (Bk d))) [])∧Bc (!(Bk d)) z1 ((Fp 97 [vI d.mJ,vI 1,vI 9] [] (.v (vB z20)) [])∧Bc (!z20) z1 ((Fp 97 [vI d.aJ,vI 0,vI 1000000000] [] (.v (vB z18)) [])∧Bc (!z18) z1 ((Fp 97 [vI d.sX,vI 0,vI d.aJ] [] (.v (vB z19)) [])∧Bc (!z19) z1 ((Fp 103 [.agg (K5 d.uJ)] [] (.v (vB (Fk d.uJ))) [])∧Bc (!(Fk d.uJ)) z1 ((Fp 104 [vI d.wJ] [] (.v (vB (D3 d.wJ))) [])∧Bc (!(D3 d.wJ)) z1 (Bc (!(decide (d.field.nJ=0)&&(decide (d.field.kind=0)&&(decide (d.field.rep=false)&&(decide (d.field.packed=false)&&decide (d.field.mK=0)))))) ((Fp 105 [.agg (Mp d.pJ),.agg (Gc d.field)] [] (.v (vB z16)) [])∧Bc (!z16) z1 (Bc (decide (d.mJ=9)) ((Fp 106 [.agg (cEv d.eJ)] [] z14 [])∧Bc (!(Gv d.eJ)) z1 ((Fp 107 [.agg (cEv d.eJ)] [] z13 [])∧Bc (!(B6 d.eJ)) z1 (Bc z7 (Bc z4 z1 (Bc z11 (Bc z8 z1 (Bc z9 (z17∧(Fp 108 [.agg (Bx d)] [] z10 [])∧Bc z12 z1 ((Fp 109 [.agg (Bx d)] [] z2 [])∧Bc z5 ((Fp 110 [.agg (Bx d)] [] z3 [])∧Lf z3 z6 [] []) z1)) ((Fp 109 [.agg (Bx d)] [] z2 [])∧Bc z5 ((Fp 110 [.agg (Bx d)] [] z3 [])∧Lf z3 z6 [] []) z1))) (Bc z9 (z17∧(Fp 108 [.agg (Bx d)] [] z10 [])∧Bc z12 z1 ((Fp 109 [.agg (Bx d)] [] z2 [])∧Bc z5 ((Fp 110 [.agg (Bx d)] [] z3 [])∧Lf z3 z6 [] []) z1)) ((Fp 109 [.agg (Bx d)] [] z2 [])∧Bc z5 ((Fp 110 [.agg (Bx d)] [] z3 [])∧Lf z3 z6 [] []) z1)))) (Bc z11 (Bc z8 z1 (Bc z9 (z15∧(Fp 109 [.agg (Bx d)] [] z2 [])∧Bc z5 ((Fp 110 [.agg (Bx d)] [] z3 [])∧Lf z3 z6 [] []) z1) ((Fp 109 [.agg (Bx d)] [] z2 [])∧Bc z5 ((Fp 110 [.agg (Bx d)] [] z3 [])∧Lf z3 z6 [] []) z1))) (Bc z9 (z15∧(Fp 109 [.agg (Bx d)] [] z2 [])∧Bc z5 ((Fp 110 [.agg (Bx d)] [] z3 [])∧Lf z3 z6 [] []) z1) ((Fp 109 [.agg (Bx d)] [] z2 [])∧Bc z5 ((Fp 110 [.agg (Bx d)] [] z3 [])∧Lf z3 z6 [] []) z1)))))) (Bc z7 (Bc z4 z1 (Bc z11 (Bc z8 z1 (Bc z9 (z17∧(Fp 108 [.agg (Bx d)] [] z10 [])∧Bc z12 z1 ((Fp 109 [.agg (Bx d)] [] z2 [])∧Bc z5 ((Fp 110 [.agg (Bx d)] [] z3 [])∧Lf z3 z6 [] []) z1)) ((Fp 109 [.agg (Bx d)] [] z2 [])∧Bc z5 ((Fp 110 [.agg (Bx d)] [] z3 [])∧Lf z3 z6 [] []) z1))) (Bc z9 (z17∧(Fp 108 [.agg (Bx d)] [] z10 [])∧Bc z12 z1 ((Fp 109 [.agg (Bx d)] [] z2 [])∧Bc z5 ((Fp 110 [.agg (Bx d)] [] z3 [])∧Lf z3 z6 [] []) z1)) ((Fp 109 [.agg (Bx d)] [] z2 [])∧Bc z5 ((Fp 110 [.agg (Bx d)] [] z3 [])∧Lf z3 z6 [] []) z1)))) (Bc z11 (Bc z8 z1 (Bc z9 (z15∧(Fp 109 [.agg (Bx d)] [] z2 [])∧Bc z5 ((Fp 110 [.agg (Bx d)] [] z3 [])∧Lf z3 z6 [] []) z1) ((Fp 109 [.agg (Bx d)] [] z2 [])∧Bc z5 ((Fp 110 [.agg (Bx d)] [] z3 [])∧Lf z3 z6 [] []) z1))) (Bc z9 (z15∧(Fp 109 [.agg (Bx d)] [] z2 [])∧Bc z5 ((Fp 110 [.agg (Bx d)] [] z3 [])∧Lf z3 z6 [] []) z1) ((Fp 109 [.agg (Bx d)] [] z2 [])∧Bc z5 ((Fp 110 [.agg (Bx d)] [] z3 [])∧Lf z3 z6 [] []) z1)))))) (Bc (decide (d.mJ=9)) ((Fp 106 [.agg (cEv d.eJ)] [] z14 [])∧Bc (!(Gv d.eJ)) z1 ((Fp 107 [.agg (cEv d.eJ)] [] z13 [])∧Bc (!(B6 d.eJ)) z1 (Bc z7 (Bc z4 z1 (Bc z11 (Bc z8 z1 (Bc z9 (z17∧(Fp 108 [.agg (Bx d)] [] z10 [])∧Bc z12 z1 ((Fp 109 [.agg (Bx d)] [] z2 [])∧Bc z5 ((Fp 110 [.agg (Bx d)] [] z3 [])∧Lf z3 z6 [] []) z1)) ((Fp 109 [.agg (Bx d)] [] z2 [])∧Bc z5 ((Fp 110 [.agg (Bx d)] [] z3 [])∧Lf z3 z6 [] []) z1))) (Bc z9 (z17∧(Fp 108 [.agg (Bx d)] [] z10 [])∧Bc z12 z1 ((Fp 109 [.agg (Bx d)] [] z2 [])∧Bc z5 ((Fp 110 [.agg (Bx d)] [] z3 [])∧Lf z3 z6 [] []) z1)) ((Fp 109 [.agg (Bx d)] [] z2 [])∧Bc z5 ((Fp 110 [.agg (Bx d)] [] z3 [])∧Lf z3 z6 [] []) z1)))) (Bc z11 (Bc z8 z1 (Bc z9 (z15∧(Fp 109 [.agg (Bx d)] [] z2 [])∧Bc z5 ((Fp 110 [.agg (Bx d)] [] z3 [])∧Lf z3 z6 [] []) z1) ((Fp 109 [.agg (Bx d)] [] z2 [])∧Bc z5 ((Fp 110 [.agg (Bx d)] [] z3 [])∧Lf z3 z6 [] []) z1))) (Bc z9 (z15∧(Fp 109 [.agg (Bx d)] [] z2 [])∧Bc z5 ((Fp 110 [.agg (Bx d)] [] z3 [])∧Lf z3 z6 [] []) z1) ((Fp 109 [.agg (Bx d)] [] z2 [])∧Bc z5 ((Fp 110 [.agg (Bx d)] [] z3 [])∧Lf z3 z6 [] []) z1)))))) (Bc z7 (Bc z4 z1 (Bc z11 (Bc z8 z1 (Bc z9 (z17∧(Fp 108 [.agg (Bx d)] [] z10 [])∧Bc z12 z1 ((Fp 109 [.agg (Bx d)] [] z2 [])∧Bc z5 ((Fp 110 [.agg (Bx d)] [] z3 [])∧Lf z3 z6 [] []) z1)) ((Fp 109 [.agg (Bx d)] [] z2 [])∧Bc z5 ((Fp 110 [.agg (Bx d)] [] z3 [])∧Lf z3 z6 [] []) z1))) (Bc z9 (z17∧(Fp 108 [.agg (Bx d)] [] z10 [])∧Bc z12 z1 ((Fp 109 [.agg (Bx d)] [] z2 [])∧Bc z5 ((Fp 110 [.agg (Bx d)] [] z3 [])∧Lf z3 z6 [] []) z1)) ((Fp 109 [.agg (Bx d)] [] z2 [])∧Bc z5 ((Fp 110 [.agg (Bx d)] [] z3 [])∧Lf z3 z6 [] []) z1)))) (Bc z11 (Bc z8 z1 (Bc z9 (z15∧(Fp 109 [.agg (Bx d)] [] z2 [])∧Bc z5 ((Fp 110 [.agg (Bx d)] [] z3 [])∧Lf z3 z6 [] []) z1) ((Fp 109 [.agg (Bx d)] [] z2 [])∧Bc z5 ((Fp 110 [.agg (Bx d)] [] z3 [])∧Lf z3 z6 [] []) z1))) (Bc z9 (z15∧(Fp 109 [.agg (Bx d)] [] z2 [])∧Bc z5 ((Fp 110 [.agg (Bx d)] [] z3 [])∧Lf z3 z6 [] []) z1) ((Fp 109 [.agg (Bx d)] [] z2 [])∧Bc z5 ((Fp 110 [.agg (Bx d)] [] z3 [])∧Lf z3 z6 [] []) z1))))))))))))) Q4 ?_
 refine⟨(Ze d Q2 Q2),fun h1=>have q1:=An h1;?_,fun h1=>have q1:=Am h1;?_⟩
 exact⟨(sB W30),rfl⟩
 have hpt:=Cm (Afy q1)
 refine⟨(Cj _ _ _),fun h2=>have q2:=An h2;have p2:=Ay q2;?_,fun h2=>have q2:=Am h2;have p2:=Ar q2;?_⟩
 exact⟨(sB W30),rfl⟩
 refine⟨(Cj _ _ _),fun h3=>have q3:=An h3;have p3:=Ay q3;?_,fun h3=>have q3:=Am h3;have p3:=Ar q3;?_⟩
 exact⟨(sB W30),rfl⟩
 refine⟨(Cj _ _ _),fun h4=>have q4:=An h4;have p4:=Ay q4;?_,fun h4=>have q4:=Am h4;have p4:=Ar q4;?_⟩
 exact⟨(sB W30),rfl⟩
 refine⟨(Ah7 d.uJ),fun h5=>have q5:=An h5;?_,fun h5=>have q5:=Am h5;have p5:=Mu q5;?_⟩
 exact⟨(sB W30),rfl⟩
 refine⟨(Aea _),fun h6=>have q6:=An h6;?_,fun h6=>have q6:=Am h6;?_⟩
 exact⟨(sB W30),rfl⟩
 have hwk:=Aem (w:=d.wJ) q6
 refine⟨fun h7=>have q7:=An h7;have p7:=(Cy dT (Cy dT (Cy dT (Cy dT dF)))).1 q7;?_,fun h7=>have q7:=Am h7;have p7:=(Cx dT (Cx dT (Cx dT (Cx dT dT)))).1 q7;?_⟩
 refine⟨(Anr d.pJ d.field Q2 (Ea hpt.2.1)),fun h8=>have q8:=An h8;?_,fun h8=>have q8:=Am h8;?_⟩
 exact⟨(sB W30),rfl⟩
 refine dsp (fun h9 p9=>?_) fun h9 p9=>?_
 refine⟨(Abw d.eJ),fun h10=>have q10:=An h10;?_,fun h10=>have q10:=Am h10;?_⟩
 exact⟨(sB W30),rfl⟩
 refine⟨(Um d.eJ),fun h11=>have q11:=An h11;?_,fun h11=>have q11:=Am h11;?_⟩
 exact⟨(sB W30),rfl⟩
 refine⟨fun h12=>have q12:=An h12;have p12:=of_decide_eq_false q12;?_,fun h12=>have q12:=Am h12;have p12:=of_decide_eq_true q12;?_⟩
 refine⟨fun h13=>have q13:=An h13;have p13:=(Cy dT (Cy dT (Cy dT (Cy dT (Cy dT (Cy dT dF)))))).1 q13;?_,fun h13=>have q13:=Am h13;have p13:=(Cx dT (Cx dT (Cx dT (Cx dT (Cx dT (Cx dT dT)))))).1 q13;?_⟩
 exact⟨(sB W30),rfl⟩
 refine dsp (fun h14 p14=>?_) fun h14 p14=>?_
 refine dsp (fun h15 p15=>?_) fun h15 p15=>?_
 exact⟨(sB W30),rfl⟩
 refine⟨fun h16=>have q16:=An h16;have p16:=of_decide_eq_false q16;?_,fun h16=>have q16:=Am h16;have p16:=of_decide_eq_true q16;?_⟩
 refine⟨h12,(Eg d Q2),dsp (fun h17 p17=>?_) fun h17 p17=>?_⟩
 exact⟨(sB W30),rfl⟩
 refine⟨(C4 d Q2),fun h18=>?_,fun h18=>?_⟩
 exact⟨(C3 d Q2),(sB W30),rfl⟩
 exact⟨(sB W30),rfl⟩
 refine⟨(C4 d Q2),fun h17=>?_,fun h17=>?_⟩
 exact⟨(C3 d Q2),(sB W30),rfl⟩
 exact⟨(sB W30),rfl⟩
 refine⟨fun h15=>have q15:=An h15;have p15:=of_decide_eq_false q15;?_,fun h15=>have q15:=Am h15;have p15:=of_decide_eq_true q15;?_⟩
 refine⟨h12,(Eg d Q2),dsp (fun h16 p16=>?_) fun h16 p16=>?_⟩
 exact⟨(sB W30),rfl⟩
 refine⟨(C4 d Q2),fun h17=>?_,fun h17=>?_⟩
 exact⟨(C3 d Q2),(sB W30),rfl⟩
 exact⟨(sB W30),rfl⟩
 refine⟨(C4 d Q2),fun h16=>?_,fun h16=>?_⟩
 exact⟨(C3 d Q2),(sB W30),rfl⟩
 exact⟨(sB W30),rfl⟩
 refine dsp (fun h13 p13=>?_) fun h13 p13=>?_
 refine dsp (fun h14 p14=>?_) fun h14 p14=>?_
 exact⟨(sB W30),rfl⟩
 refine⟨fun h15=>have q15:=An h15;have p15:=of_decide_eq_false q15;?_,fun h15=>have q15:=Am h15;have p15:=of_decide_eq_true q15;?_⟩
 refine⟨h12,(C4 d Q2),fun h16=>?_,fun h16=>?_⟩
 exact⟨(C3 d Q2),(sB W30),rfl⟩
 exact⟨(sB W30),rfl⟩
 refine⟨(C4 d Q2),fun h16=>?_,fun h16=>?_⟩
 exact⟨(C3 d Q2),(sB W30),rfl⟩
 exact⟨(sB W30),rfl⟩
 refine⟨fun h14=>have q14:=An h14;have p14:=of_decide_eq_false q14;?_,fun h14=>have q14:=Am h14;have p14:=of_decide_eq_true q14;?_⟩
 refine⟨h12,(C4 d Q2),fun h15=>?_,fun h15=>?_⟩
 exact⟨(C3 d Q2),(sB W30),rfl⟩
 exact⟨(sB W30),rfl⟩
 refine⟨(C4 d Q2),fun h15=>?_,fun h15=>?_⟩
 exact⟨(C3 d Q2),(sB W30),rfl⟩
 exact⟨(sB W30),rfl⟩
 refine⟨fun h10=>have q10:=An h10;have p10:=of_decide_eq_false q10;?_,fun h10=>have q10:=Am h10;have p10:=of_decide_eq_true q10;?_⟩
 refine⟨fun h11=>have q11:=An h11;have p11:=(Cy dT (Cy dT (Cy dT (Cy dT (Cy dT (Cy dT dF)))))).1 q11;?_,fun h11=>have q11:=Am h11;have p11:=(Cx dT (Cx dT (Cx dT (Cx dT (Cx dT (Cx dT dT)))))).1 q11;?_⟩
 exact⟨(sB W30),rfl⟩
 refine dsp (fun h12 p12=>?_) fun h12 p12=>?_
 refine dsp (fun h13 p13=>?_) fun h13 p13=>?_
 exact⟨(sB W30),rfl⟩
 refine⟨fun h14=>have q14:=An h14;have p14:=of_decide_eq_false q14;?_,fun h14=>have q14:=Am h14;have p14:=of_decide_eq_true q14;?_⟩
 refine⟨h10,(Eg d Q2),dsp (fun h15 p15=>?_) fun h15 p15=>?_⟩
 exact⟨(sB W30),rfl⟩
 refine⟨(C4 d Q2),fun h16=>?_,fun h16=>?_⟩
 exact⟨(C3 d Q2),(sB W30),rfl⟩
 exact⟨(sB W30),rfl⟩
 refine⟨(C4 d Q2),fun h15=>?_,fun h15=>?_⟩
 exact⟨(C3 d Q2),(sB W30),rfl⟩
 exact⟨(sB W30),rfl⟩
 refine⟨fun h13=>have q13:=An h13;have p13:=of_decide_eq_false q13;?_,fun h13=>have q13:=Am h13;have p13:=of_decide_eq_true q13;?_⟩
 refine⟨h10,(Eg d Q2),dsp (fun h14 p14=>?_) fun h14 p14=>?_⟩
 exact⟨(sB W30),rfl⟩
 refine⟨(C4 d Q2),fun h15=>?_,fun h15=>?_⟩
 exact⟨(C3 d Q2),(sB W30),rfl⟩
 exact⟨(sB W30),rfl⟩
 refine⟨(C4 d Q2),fun h14=>?_,fun h14=>?_⟩
 exact⟨(C3 d Q2),(sB W30),rfl⟩
 exact⟨(sB W30),rfl⟩
 refine dsp (fun h11 p11=>?_) fun h11 p11=>?_
 refine dsp (fun h12 p12=>?_) fun h12 p12=>?_
 exact⟨(sB W30),rfl⟩
 refine⟨fun h13=>have q13:=An h13;have p13:=of_decide_eq_false q13;?_,fun h13=>have q13:=Am h13;have p13:=of_decide_eq_true q13;?_⟩
 refine⟨h10,(C4 d Q2),fun h14=>?_,fun h14=>?_⟩
 exact⟨(C3 d Q2),(sB W30),rfl⟩
 exact⟨(sB W30),rfl⟩
 refine⟨(C4 d Q2),fun h14=>?_,fun h14=>?_⟩
 exact⟨(C3 d Q2),(sB W30),rfl⟩
 exact⟨(sB W30),rfl⟩
 refine⟨fun h12=>have q12:=An h12;have p12:=of_decide_eq_false q12;?_,fun h12=>have q12:=Am h12;have p12:=of_decide_eq_true q12;?_⟩
 refine⟨h10,(C4 d Q2),fun h13=>?_,fun h13=>?_⟩
 exact⟨(C3 d Q2),(sB W30),rfl⟩
 exact⟨(sB W30),rfl⟩
 refine⟨(C4 d Q2),fun h13=>?_,fun h13=>?_⟩
 exact⟨(C3 d Q2),(sB W30),rfl⟩
 exact⟨(sB W30),rfl⟩
 refine dsp (fun h8 p8=>?_) fun h8 p8=>?_
 refine⟨(Abw d.eJ),fun h9=>have q9:=An h9;?_,fun h9=>have q9:=Am h9;?_⟩
 exact⟨(sB W30),rfl⟩
 refine⟨(Um d.eJ),fun h10=>have q10:=An h10;?_,fun h10=>have q10:=Am h10;?_⟩
 exact⟨(sB W30),rfl⟩
 refine⟨fun h11=>have q11:=An h11;have p11:=of_decide_eq_false q11;?_,fun h11=>have q11:=Am h11;have p11:=of_decide_eq_true q11;?_⟩
 refine⟨fun h12=>have q12:=An h12;have p12:=(Cy dT (Cy dT (Cy dT (Cy dT (Cy dT (Cy dT dF)))))).1 q12;?_,fun h12=>have q12:=Am h12;have p12:=(Cx dT (Cx dT (Cx dT (Cx dT (Cx dT (Cx dT dT)))))).1 q12;?_⟩
 exact⟨(sB W30),rfl⟩
 refine dsp (fun h13 p13=>?_) fun h13 p13=>?_
 refine dsp (fun h14 p14=>?_) fun h14 p14=>?_
 exact⟨(sB W30),rfl⟩
 refine⟨fun h15=>have q15:=An h15;have p15:=of_decide_eq_false q15;?_,fun h15=>have q15:=Am h15;have p15:=of_decide_eq_true q15;?_⟩
 refine⟨h11,(Eg d Q2),dsp (fun h16 p16=>?_) fun h16 p16=>?_⟩
 exact⟨(sB W30),rfl⟩
 refine⟨(C4 d Q2),fun h17=>?_,fun h17=>?_⟩
 exact⟨(C3 d Q2),(sB W30),rfl⟩
 exact⟨(sB W30),rfl⟩
 refine⟨(C4 d Q2),fun h16=>?_,fun h16=>?_⟩
 exact⟨(C3 d Q2),(sB W30),rfl⟩
 exact⟨(sB W30),rfl⟩
 refine⟨fun h14=>have q14:=An h14;have p14:=of_decide_eq_false q14;?_,fun h14=>have q14:=Am h14;have p14:=of_decide_eq_true q14;?_⟩
 refine⟨h11,(Eg d Q2),dsp (fun h15 p15=>?_) fun h15 p15=>?_⟩
 exact⟨(sB W30),rfl⟩
 refine⟨(C4 d Q2),fun h16=>?_,fun h16=>?_⟩
 exact⟨(C3 d Q2),(sB W30),rfl⟩
 exact⟨(sB W30),rfl⟩
 refine⟨(C4 d Q2),fun h15=>?_,fun h15=>?_⟩
 exact⟨(C3 d Q2),(sB W30),rfl⟩
 exact⟨(sB W30),rfl⟩
 refine dsp (fun h12 p12=>?_) fun h12 p12=>?_
 refine dsp (fun h13 p13=>?_) fun h13 p13=>?_
 exact⟨(sB W30),rfl⟩
 refine⟨fun h14=>have q14:=An h14;have p14:=of_decide_eq_false q14;?_,fun h14=>have q14:=Am h14;have p14:=of_decide_eq_true q14;?_⟩
 refine⟨h11,(C4 d Q2),fun h15=>?_,fun h15=>?_⟩
 exact⟨(C3 d Q2),(sB W30),rfl⟩
 exact⟨(sB W30),rfl⟩
 refine⟨(C4 d Q2),fun h15=>?_,fun h15=>?_⟩
 exact⟨(C3 d Q2),(sB W30),rfl⟩
 exact⟨(sB W30),rfl⟩
 refine⟨fun h13=>have q13:=An h13;have p13:=of_decide_eq_false q13;?_,fun h13=>have q13:=Am h13;have p13:=of_decide_eq_true q13;?_⟩
 refine⟨h11,(C4 d Q2),fun h14=>?_,fun h14=>?_⟩
 exact⟨(C3 d Q2),(sB W30),rfl⟩
 exact⟨(sB W30),rfl⟩
 refine⟨(C4 d Q2),fun h14=>?_,fun h14=>?_⟩
 exact⟨(C3 d Q2),(sB W30),rfl⟩
 exact⟨(sB W30),rfl⟩
 refine⟨fun h9=>have q9:=An h9;have p9:=of_decide_eq_false q9;?_,fun h9=>have q9:=Am h9;have p9:=of_decide_eq_true q9;?_⟩
 refine⟨fun h10=>have q10:=An h10;have p10:=(Cy dT (Cy dT (Cy dT (Cy dT (Cy dT (Cy dT dF)))))).1 q10;?_,fun h10=>have q10:=Am h10;have p10:=(Cx dT (Cx dT (Cx dT (Cx dT (Cx dT (Cx dT dT)))))).1 q10;?_⟩
 exact⟨(sB W30),rfl⟩
 refine dsp (fun h11 p11=>?_) fun h11 p11=>?_
 refine dsp (fun h12 p12=>?_) fun h12 p12=>?_
 exact⟨(sB W30),rfl⟩
 refine⟨fun h13=>have q13:=An h13;have p13:=of_decide_eq_false q13;?_,fun h13=>have q13:=Am h13;have p13:=of_decide_eq_true q13;?_⟩
 refine⟨h9,(Eg d Q2),dsp (fun h14 p14=>?_) fun h14 p14=>?_⟩
 exact⟨(sB W30),rfl⟩
 refine⟨(C4 d Q2),fun h15=>?_,fun h15=>?_⟩
 exact⟨(C3 d Q2),(sB W30),rfl⟩
 exact⟨(sB W30),rfl⟩
 refine⟨(C4 d Q2),fun h14=>?_,fun h14=>?_⟩
 exact⟨(C3 d Q2),(sB W30),rfl⟩
 exact⟨(sB W30),rfl⟩
 refine⟨fun h12=>have q12:=An h12;have p12:=of_decide_eq_false q12;?_,fun h12=>have q12:=Am h12;have p12:=of_decide_eq_true q12;?_⟩
 refine⟨h9,(Eg d Q2),dsp (fun h13 p13=>?_) fun h13 p13=>?_⟩
 exact⟨(sB W30),rfl⟩
 refine⟨(C4 d Q2),fun h14=>?_,fun h14=>?_⟩
 exact⟨(C3 d Q2),(sB W30),rfl⟩
 exact⟨(sB W30),rfl⟩
 refine⟨(C4 d Q2),fun h13=>?_,fun h13=>?_⟩
 exact⟨(C3 d Q2),(sB W30),rfl⟩
 exact⟨(sB W30),rfl⟩
 refine dsp (fun h10 p10=>?_) fun h10 p10=>?_
 refine dsp (fun h11 p11=>?_) fun h11 p11=>?_
 exact⟨(sB W30),rfl⟩
 refine⟨fun h12=>have q12:=An h12;have p12:=of_decide_eq_false q12;?_,fun h12=>have q12:=Am h12;have p12:=of_decide_eq_true q12;?_⟩
 refine⟨h9,(C4 d Q2),fun h13=>?_,fun h13=>?_⟩
 exact⟨(C3 d Q2),(sB W30),rfl⟩
 exact⟨(sB W30),rfl⟩
 refine⟨(C4 d Q2),fun h13=>?_,fun h13=>?_⟩
 exact⟨(C3 d Q2),(sB W30),rfl⟩
 exact⟨(sB W30),rfl⟩
 refine⟨fun h11=>have q11:=An h11;have p11:=of_decide_eq_false q11;?_,fun h11=>have q11:=Am h11;have p11:=of_decide_eq_true q11;?_⟩
 refine⟨h9,(C4 d Q2),fun h12=>?_,fun h12=>?_⟩
 exact⟨(C3 d Q2),(sB W30),rfl⟩
 exact⟨(sB W30),rfl⟩
 refine⟨(C4 d Q2),fun h12=>?_,fun h12=>?_⟩
 exact⟨(C3 d Q2),(sB W30),rfl⟩
 exact⟨(sB W30),rfl⟩
structure C0 where
 v:Bool
def L0 (d:Dcd):Fam:=⟨C0,fun j1000003=>[(1,.v (vP 0)),(76,.v (vB j1000003.v))],fun _=>[.cells (Bx d)],fun j1000003=>j1000003.v= !Y2 d,fun _=>0⟩
structure G4 where
 u_:Nat
def L3 (d:Dcd):Fam:=⟨G4,fun j0=>[(1,.v (vP 0))],fun _=>[.cells (Bx d)],fun _=>Jn d=true,fun _=>0⟩
structure Bu where
 wires:Bool
def L4 (d:Dcd):Fam:=⟨Bu,fun j1000013=>[(1,.v (vP 0)),(3,.v (vB j1000013.wires))],fun _=>[.cells (Bx d)],fun j1000013=>j1000013.wires=U8 d,fun _=>0⟩
structure Ds where
 v:Bool
def Hk (d:Dcd) (j1000013:Bu):Fam:=⟨Ds,fun j1000014=>[(1,.v (vP 0)),(140,.v (vB j1000014.v))],fun _=>[.cells (Bx d)],fun j1000014=>j1000014.v=(j1000013.wires||(Ak d.mJ 3 5&&(!decide (d.field=fld0)&& !Dx d.field d.wJ))),fun _=>0⟩
theorem Xo (d:Dcd) (hp1:List.length (d).sJ≤A7) (hp2:List.length (d).pJ.sQ≤A7):Fun Tryz.prog 60 [.agg (Bx d)] [] (.v (vB (Bs d))) []:=by
 have hN:A7=274877906944:=rfl
 refine Ap Tryz.func60 Q4 Q4 (w:=let z4:S:= .v (vB (Ac2 d));let z5:List Blk:=[.cells (Bx d)];let z6:=L4 d;let z7:=Ak d.wK 1 (Eb d);let z8:S:= .v (vI (A3 d.wJ));let z10:=z6.Has [(1,.v (vP 0)),(3,.v (vB false))] z5;let z11:S:= .v (vB (Bs d));let z2:=Lf (.v (vB false)) z11 [] [];let z12:=decide ((d).field=fld0)||J2 (d).pJ.sQ (d).field;let z13:=(L3 d).Has [(1,.v (vP 0))] z5;let z14:=L0 d;let z3:=Bc (!decide (d.mJ=9)) (z14.Has [(1,.v (vP 0)),(76,.v (vB (!(decide (d.eJ.kind=0)&&(decide (d.eJ.field=0)&&(decide (d.eJ.bits=0)&&(decide (d.eJ.len=0)&&(decide (d.eJ.text=[])&&(decide (d.eJ.code=0)&&decide (d.eJ.aJ=0))))))))))] z5) (z14.Has [(1,.v (vP 0)),(76,.v (vB false))] z5);let z15:=vB (decide (A3 d.wJ=0));let z16:=z6.Has [(1,.v (vP 0)),(3,.v (vB true))] z5;let z17:S:= .v (vI (Eb d));let z18:= !decide (d.mJ=8);let z19:=decide (d.mJ=5);let z20:=Ak d.aJ 0 1000000000;let z21:List V:=[vI d.wK,vI 1,vI (Eb d)];let z22:=z14.Has [(1,.v (vP 0)),(76,.v (vB true))] z5;let z23:S:= .v (vB z7);let z24:=Gc d.field;let z25:=U5 d.field;let z9:S:= .v (vB z25);let z26:=Ak d.sX 0 d.aJ;let z27:=Dx d.field d.wJ;let z28:=Ak d.mJ 1 9;let z29:=Ak d.mJ 3 5;(.sZ [.call [] (.v (vB (Dm d.pJ))) []] (.br (.lJ () []) (.sZ [.call [] (.v (vB z28)) []] (.br (.lJ () []) (.sZ [.call [] (.v (vB z20)) []] (.br (.lJ () []) (.sZ [.call [] (.v (vB z26)) []] (.br (.lJ () []) (.sZ [.call [] (.v (vB (Fk d.uJ))) []] (.br (.lJ () []) (.sZ [.call [] (.v (vB (D3 d.wJ))) []] (.br (.lJ () []) (.sZ [.call [] (.v (vB z12)) []] (.br (.lJ () []) (.sZ [.call [] (.v (vB (R5 d))) []] (.br (.lJ () []) (.join 1000003 z14 (.br (.sZ [.call [] (.v (vB (Gv d.eJ))) []] (.br (.sZ [.at 0,.keep [1,76],.sel [0]] (.next)) (.sZ [.call [] (.v (vB (B6 d.eJ))) []] (.br (.sZ [.at 0,.keep [1,76],.sel [0]] (.next)) (.br (.sZ [.at 0,.keep [1,76],.sel [0]] (.next)) (.sZ [.at 0,.keep [1,76],.sel [0]] (.next))))))) (.br (.sZ [.at 0,.keep [1,76],.sel [0]] (.next)) (.sZ [.at 0,.keep [1,76],.sel [0]] (.next)))) fun j1000003=> .br (.lJ () []) (.join 0 (L3 d) (.br (.sZ [.br true,.ord (os 6 [3,4]) [],.call [] z17 [],.call [] z23 []] (.br (.lJ () []) (.sZ [.at 0,.keep [1],.sel [0]] (.next)))) (.br (.sZ [.br true,.ord (os 6 [3,4]) [],.call [] z17 [],.call [] z23 []] (.br (.lJ () []) (.sZ [.at 0,.keep [1],.sel [0]] (.next)))) (.br (.sZ [.ord (os 6 [3,4]) [],.call [] z17 [],.call [] z23 []] (.br (.lJ () []) (.sZ [.at 0,.keep [1],.sel [0]] (.next)))) (.br (.lJ () []) (.sZ [.at 0,.keep [1],.sel [0]] (.next)))))) fun j0=> .join 1000013 z6 (.br (.br (.sZ [.at 0,.keep [1,3],.sel [0]] (.next)) (.br (.br (.sZ [.at 0,.keep [1,3],.sel [0]] (.next)) (.br (.sZ [.call [] z8 [],.at 0,.keep [1,3],.sel [0]] (.next)) (.sZ [.at 0,.keep [1,3],.sel [0]] (.next)))) (.br (.sZ [.call [] z8 [],.at 0,.keep [1,3],.sel [0]] (.next)) (.sZ [.at 0,.keep [1,3],.sel [0]] (.next))))) (.br (.br (.sZ [.at 0,.keep [1,3],.sel [0]] (.next)) (.br (.sZ [.call [] z8 [],.at 0,.keep [1,3],.sel [0]] (.next)) (.sZ [.at 0,.keep [1,3],.sel [0]] (.next)))) (.br (.sZ [.call [] z8 [],.at 0,.keep [1,3],.sel [0]] (.next)) (.sZ [.at 0,.keep [1,3],.sel [0]] (.next))))) fun j1000013=> .join 1000014 (Hk d j1000013) (.br (.sZ [.at 0,.keep [1,140],.sel [0]] (.next)) (.sZ [.call [] (.v (vB z29)) []] (.br (.br (.sZ [.call [] (.v (vB z27)) [],.at 0,.keep [1,140],.sel [0]] (.next)) (.sZ [.at 0,.keep [1,140],.sel [0]] (.next))) (.sZ [.at 0,.keep [1,140],.sel [0]] (.next))))) fun j1000014=> .br (.lJ () []) (.br (.br (.br (.sZ [.call [] z4 []] (.lJ () [])) (.sZ [.call [] z9 []] (.br (.sZ [.call [] z4 []] (.lJ () [])) (.lJ () [])))) (.br (.sZ [.call [] z4 []] (.lJ () [])) (.sZ [.call [] z9 []] (.br (.sZ [.call [] z4 []] (.lJ () [])) (.lJ () []))))) (.br (.br (.sZ [.call [] z4 []] (.lJ () [])) (.sZ [.call [] z9 []] (.br (.sZ [.call [] z4 []] (.lJ () [])) (.lJ () [])))) (.br (.br (.sZ [.call [] z4 []] (.lJ () [])) (.sZ [.call [] z9 []] (.br (.sZ [.call [] z4 []] (.lJ () [])) (.lJ () [])))) (.lJ () []))))))))))))))))))))),(Fp 13 [.agg (Mp d.pJ)] [] (.v (vB (Dm d.pJ))) [])∧Bc (!(Dm d.pJ)) z2 ((Fp 44 [vI d.mJ,vI 1,vI 9] [] (.v (vB z28)) [])∧Bc (!z28) z2 ((Fp 44 [vI d.aJ,vI 0,vI 1000000000] [] (.v (vB z20)) [])∧Bc (!z20) z2 ((Fp 44 [vI d.sX,vI 0,vI d.aJ] [] (.v (vB z26)) [])∧Bc (!z26) z2 ((Fp 121 [.agg (K5 d.uJ)] [] (.v (vB (Fk d.uJ))) [])∧Bc (!(Fk d.uJ)) z2 ((Fp 122 [vI d.wJ] [] (.v (vB (D3 d.wJ))) [])∧Bc (!(D3 d.wJ)) z2 ((Fp 123 [.agg (Bx d)] [] (.v (vB z12)) [])∧Bc (!z12) z2 ((Fp 124 [.agg (Bx d)] [] (.v (vB (R5 d))) [])∧Bc (!(R5 d)) z2 ((Bc (decide (d.mJ=9)) ((Fp 125 [.agg (cEv d.eJ)] [] (.v (vB (Gv d.eJ))) [])∧Bc (!(Gv d.eJ)) z22 ((Fp 31 [.agg (cEv d.eJ)] [] (.v (vB (B6 d.eJ))) [])∧Bc (!(B6 d.eJ)) z22 z3)) z3)∧∀j1000003,z14.inv j1000003→(Bc j1000003.v z2 ((Bc (decide (d.mJ=6)) (((decide (d.mJ=6))=true)∧(Fp 126 [.agg (Bx d)] [] z17 [])∧(Fp 44 z21 [] z23 [])∧Bc (!z7) z2 z13) (Bc (decide (d.mJ=7)) (((decide (d.mJ=7))=true)∧(Fp 126 [.agg (Bx d)] [] z17 [])∧(Fp 44 z21 [] z23 [])∧Bc (!z7) z2 z13) (Bc (decide (d.mJ=8)) ((Fp 126 [.agg (Bx d)] [] z17 [])∧(Fp 44 z21 [] z23 [])∧Bc (!z7) z2 z13) (Bc (!decide (d.wK=0)) z2 z13))))∧∀j0,(L3 d).inv j0→((Bc (decide (d.mJ=3)) (Bc (!decide (d.wJ=0)) z16 (Bc (decide (d.mJ=4)) (Bc (!decide (d.wJ=2)) z16 (Bc z19 ((Fp 127 [vI d.wJ] [] z8 [])∧z6.Has [(1,.v (vP 0)),(3,.v z15)] z5) z10)) (Bc z19 ((Fp 127 [vI d.wJ] [] z8 [])∧z6.Has [(1,.v (vP 0)),(3,.v z15)] z5) z10))) (Bc (decide (d.mJ=4)) (Bc (!decide (d.wJ=2)) z16 (Bc z19 ((Fp 127 [vI d.wJ] [] z8 [])∧z6.Has [(1,.v (vP 0)),(3,.v z15)] z5) z10)) (Bc z19 ((Fp 127 [vI d.wJ] [] z8 [])∧z6.Has [(1,.v (vP 0)),(3,.v z15)] z5) z10)))∧∀j1000013,z6.inv j1000013→(let z1:=Hk d j1000013;(Bc j1000013.wires (z1.Has [(1,.v (vP 0)),(140,.v (vB true))] z5) ((Fp 44 [vI d.mJ,vI 3,vI 5] [] (.v (vB z29)) [])∧Bc z29 (Bc (!(decide (d.field.nJ=0)&&(decide (d.field.kind=0)&&(decide (d.field.rep=false)&&(decide (d.field.packed=false)&&decide (d.field.mK=0)))))) ((Fp 128 [.agg z24,vI d.wJ] [] (.v (vB z27)) [])∧z1.Has [(1,.v (vP 0)),(140,.v (vB (!z27)))] z5) (z1.Has [(1,.v (vP 0)),(140,.v (vB false))] z5)) (z1.Has [(1,.v (vP 0)),(140,.v (vB false))] z5)))∧∀j1000014,z1.inv j1000014→(Bc j1000014.v z2 (Bc (decide (d.field.kind=6)) (Bc (!decide (d.mJ=6)) (Bc z18 ((Fp 130 [.agg (Bx d)] [] z4 [])∧Lf z4 z11 [] []) ((Fp 129 [.agg z24] [] z9 [])∧Bc z25 ((Fp 130 [.agg (Bx d)] [] z4 [])∧Lf z4 z11 [] []) z2)) (Bc z18 ((Fp 130 [.agg (Bx d)] [] z4 [])∧Lf z4 z11 [] []) ((Fp 129 [.agg z24] [] z9 [])∧Bc z25 ((Fp 130 [.agg (Bx d)] [] z4 [])∧Lf z4 z11 [] []) z2))) (Bc (!decide (d.mJ=6)) (Bc z18 ((Fp 130 [.agg (Bx d)] [] z4 [])∧Lf z4 z11 [] []) ((Fp 129 [.agg z24] [] z9 [])∧Bc z25 ((Fp 130 [.agg (Bx d)] [] z4 [])∧Lf z4 z11 [] []) z2)) (Bc (decide (d.field.kind=7)) (Bc z18 ((Fp 130 [.agg (Bx d)] [] z4 [])∧Lf z4 z11 [] []) ((Fp 129 [.agg z24] [] z9 [])∧Bc z25 ((Fp 130 [.agg (Bx d)] [] z4 [])∧Lf z4 z11 [] []) z2)) z2)))))))))))))))))) Q4 ?_
 refine⟨(Aai d.pJ),fun h1=>have q1:=An h1;?_,fun h1=>have q1:=Am h1;have p1:=Cm q1;?_⟩
 exact⟨(sB W31),rfl⟩
 have hpt:=Cm q1
 refine⟨(Bf _ _ _),fun h2=>have q2:=An h2;have p2:=Ay q2;?_,fun h2=>have q2:=Am h2;have p2:=Ar q2;?_⟩
 exact⟨(sB W31),rfl⟩
 refine⟨(Bf _ _ _),fun h3=>have q3:=An h3;have p3:=Ay q3;?_,fun h3=>have q3:=Am h3;have p3:=Ar q3;?_⟩
 exact⟨(sB W31),rfl⟩
 refine⟨(Bf _ _ _),fun h4=>have q4:=An h4;have p4:=Ay q4;?_,fun h4=>have q4:=Am h4;have p4:=Ar q4;?_⟩
 exact⟨(sB W31),rfl⟩
 refine⟨(Ah8 d.uJ),fun h5=>have q5:=An h5;?_,fun h5=>have q5:=Am h5;have p5:=Mu q5;?_⟩
 exact⟨(sB W31),rfl⟩
 refine⟨(Aeb _),fun h6=>have q6:=An h6;?_,fun h6=>have q6:=Am h6;?_⟩
 exact⟨(sB W31),rfl⟩
 have hwk:=Aem (w:=d.wJ) q6
 refine⟨(Afx d Q2 (Ea hpt.2.1)),fun h7=>have q7:=An h7;have p7:=(orF dF Iff.rfl).1 q7;?_,fun h7=>have q7:=Am h7;have p7:=(orT dT Iff.rfl).1 q7;?_⟩
 exact⟨(sB W31),rfl⟩
 refine⟨(Akc d Q2 Q2),fun h8=>have q8:=An h8;?_,fun h8=>have q8:=Am h8;?_⟩
 exact⟨(sB W31),rfl⟩
 refine⟨?_,fun (j1000003:C0) hq_j1000003=>?_⟩
 refine dsp (fun h10 p10=>?_) fun h10 p10=>?_
 refine⟨(Aid d.eJ),fun h11=>have q11:=An h11;?_,fun h11=>have q11:=Am h11;?_⟩
 exact Bm (j:=(⟨true⟩:C0)) rfl rfl Q43
 refine⟨(Rg d.eJ),fun h12=>have q12:=An h12;?_,fun h12=>have q12:=Am h12;?_⟩
 exact Bm (j:=(⟨true⟩:C0)) rfl rfl Q43
 refine⟨fun h13=>have q13:=An h13;have p13:=of_decide_eq_false q13;?_,fun h13=>have q13:=Am h13;have p13:=of_decide_eq_true q13;?_⟩
 exact Bm (j:=(⟨!(decide (d.eJ.kind=0)&&(decide (d.eJ.field=0)&&(decide (d.eJ.bits=0)&&(decide (d.eJ.len=0)&&(decide (d.eJ.text=[])&&(decide (d.eJ.code=0)&&decide (d.eJ.aJ=0)))))))⟩:C0)) rfl rfl Q43
 exact Bm (j:=(⟨false⟩:C0)) rfl rfl Q43
 refine⟨fun h11=>have q11:=An h11;have p11:=of_decide_eq_false q11;?_,fun h11=>have q11:=Am h11;have p11:=of_decide_eq_true q11;?_⟩
 exact Bm (j:=(⟨!(decide (d.eJ.kind=0)&&(decide (d.eJ.field=0)&&(decide (d.eJ.bits=0)&&(decide (d.eJ.len=0)&&(decide (d.eJ.text=[])&&(decide (d.eJ.code=0)&&decide (d.eJ.aJ=0)))))))⟩:C0)) rfl rfl Q43
 exact Bm (j:=(⟨false⟩:C0)) rfl rfl Q43
 have hi_j1000003:j1000003.v= !Y2 d:=hq_j1000003
 refine⟨fun h10=>?_,fun h10=>?_⟩
 exact⟨(sB W31),rfl⟩
 refine⟨?_,fun (j0:G4) hq_j0=>?_⟩
 refine dsp (fun h12 p12=>?_) fun h12 p12=>?_
 refine⟨h12,(Pu d Q2),(Bf _ _ _),fun h13=>have q13:=An h13;have p13:=Ay q13;?_,fun h13=>have q13:=Am h13;have p13:=Ar q13;?_⟩
 exact⟨(sB W31),rfl⟩
 exact Bm (j:=(⟨0⟩:G4)) rfl rfl Q66
 refine dsp (fun h13 p13=>?_) fun h13 p13=>?_
 refine⟨h13,(Pu d Q2),(Bf _ _ _),fun h14=>have q14:=An h14;have p14:=Ay q14;?_,fun h14=>have q14:=Am h14;have p14:=Ar q14;?_⟩
 exact⟨(sB W31),rfl⟩
 exact Bm (j:=(⟨0⟩:G4)) rfl rfl Q66
 refine dsp (fun h14 p14=>?_) fun h14 p14=>?_
 refine⟨(Pu d Q2),(Bf _ _ _),fun h15=>have q15:=An h15;have p15:=Ay q15;?_,fun h15=>have q15:=Am h15;have p15:=Ar q15;?_⟩
 exact⟨(sB W31),rfl⟩
 exact Bm (j:=(⟨0⟩:G4)) rfl rfl Q66
 refine⟨fun h15=>have q15:=An h15;have p15:=of_decide_eq_false q15;?_,fun h15=>have q15:=Am h15;have p15:=of_decide_eq_true q15;?_⟩
 exact⟨(sB W31),rfl⟩
 exact Bm (j:=(⟨0⟩:G4)) rfl rfl Q66
 have hi_j0:Jn d=true:=hq_j0
 refine⟨?_,fun (j1000013:Bu) hq_j1000013=>?_⟩
 refine dsp (fun h13 p13=>?_) fun h13 p13=>?_
 refine⟨fun h14=>have q14:=An h14;have p14:=of_decide_eq_false q14;?_,fun h14=>have q14:=Am h14;have p14:=of_decide_eq_true q14;?_⟩
 exact Bm (j:=(⟨true⟩:Bu)) rfl rfl Q31
 refine dsp (fun h15 p15=>?_) fun h15 p15=>?_
 refine⟨fun h16=>have q16:=An h16;have p16:=of_decide_eq_false q16;?_,fun h16=>have q16:=Am h16;have p16:=of_decide_eq_true q16;?_⟩
 exact Bm (j:=(⟨true⟩:Bu)) rfl rfl Q31
 refine dsp (fun h17 p17=>?_) fun h17 p17=>?_
 exact⟨(Ec _),Bm (j:=(⟨decide (A3 d.wJ=0)⟩:Bu)) rfl rfl Q31⟩
 exact Bm (j:=(⟨false⟩:Bu)) rfl rfl Q31
 refine dsp (fun h16 p16=>?_) fun h16 p16=>?_
 exact⟨(Ec _),Bm (j:=(⟨decide (A3 d.wJ=0)⟩:Bu)) rfl rfl Q31⟩
 exact Bm (j:=(⟨false⟩:Bu)) rfl rfl Q31
 refine dsp (fun h14 p14=>?_) fun h14 p14=>?_
 refine⟨fun h15=>have q15:=An h15;have p15:=of_decide_eq_false q15;?_,fun h15=>have q15:=Am h15;have p15:=of_decide_eq_true q15;?_⟩
 exact Bm (j:=(⟨true⟩:Bu)) rfl rfl Q31
 refine dsp (fun h16 p16=>?_) fun h16 p16=>?_
 exact⟨(Ec _),Bm (j:=(⟨decide (A3 d.wJ=0)⟩:Bu)) rfl rfl Q31⟩
 exact Bm (j:=(⟨false⟩:Bu)) rfl rfl Q31
 refine dsp (fun h15 p15=>?_) fun h15 p15=>?_
 exact⟨(Ec _),Bm (j:=(⟨decide (A3 d.wJ=0)⟩:Bu)) rfl rfl Q31⟩
 exact Bm (j:=(⟨false⟩:Bu)) rfl rfl Q31
 have hi_j1000013:j1000013.wires=U8 d:=hq_j1000013
 refine⟨?_,fun (j1000014:Ds) hq_j1000014=>?_⟩
 refine⟨fun h14=>?_,fun h14=>?_⟩
 exact Bm (j:=(⟨true⟩:Ds)) rfl rfl Q61
 refine⟨(Bf _ _ _),fun h15=>have p15:=Ar h15;?_,fun h15=>have p15:=Ay h15;?_⟩
 refine⟨fun h16=>have q16:=An h16;have p16:=(Cy dT (Cy dT (Cy dT (Cy dT dF)))).1 q16;?_,fun h16=>have q16:=Am h16;have p16:=(Cx dT (Cx dT (Cx dT (Cx dT dT)))).1 q16;?_⟩
 exact⟨(Abs d.field _ Q2),Bm (j:=(⟨!(Dx d.field d.wJ)⟩:Ds)) rfl rfl Q61⟩
 exact Bm (j:=(⟨false⟩:Ds)) rfl rfl Q61
 exact Bm (j:=(⟨false⟩:Ds)) rfl rfl Q61
 have hi_j1000014:j1000014.v=(j1000013.wires||(Ak d.mJ 3 5&&(!decide (d.field=fld0)&& !Dx d.field d.wJ))):=hq_j1000014
 refine⟨fun h14=>?_,fun h14=>?_⟩
 exact⟨(sB W31),rfl⟩
 refine dsp (fun h15 p15=>?_) fun h15 p15=>?_
 refine⟨fun h16=>have q16:=An h16;have p16:=of_decide_eq_false q16;?_,fun h16=>have q16:=Am h16;have p16:=of_decide_eq_true q16;?_⟩
 refine⟨fun h17=>have q17:=An h17;have p17:=of_decide_eq_false q17;?_,fun h17=>have q17:=Am h17;have p17:=of_decide_eq_true q17;?_⟩
 exact⟨(Qj d Q2),(sB W31),rfl⟩
 refine⟨(Xd d.field),fun h18=>?_,fun h18=>?_⟩
 exact⟨(Qj d Q2),(sB W31),rfl⟩
 exact⟨(sB W31),rfl⟩
 refine⟨fun h17=>have q17:=An h17;have p17:=of_decide_eq_false q17;?_,fun h17=>have q17:=Am h17;have p17:=of_decide_eq_true q17;?_⟩
 exact⟨(Qj d Q2),(sB W31),rfl⟩
 refine⟨(Xd d.field),fun h18=>?_,fun h18=>?_⟩
 exact⟨(Qj d Q2),(sB W31),rfl⟩
 exact⟨(sB W31),rfl⟩
 refine⟨fun h16=>have q16:=An h16;have p16:=of_decide_eq_false q16;?_,fun h16=>have q16:=Am h16;have p16:=of_decide_eq_true q16;?_⟩
 refine⟨fun h17=>have q17:=An h17;have p17:=of_decide_eq_false q17;?_,fun h17=>have q17:=Am h17;have p17:=of_decide_eq_true q17;?_⟩
 exact⟨(Qj d Q2),(sB W31),rfl⟩
 refine⟨(Xd d.field),fun h18=>?_,fun h18=>?_⟩
 exact⟨(Qj d Q2),(sB W31),rfl⟩
 exact⟨(sB W31),rfl⟩
 refine dsp (fun h17 p17=>?_) fun h17 p17=>?_
 refine⟨fun h18=>have q18:=An h18;have p18:=of_decide_eq_false q18;?_,fun h18=>have q18:=Am h18;have p18:=of_decide_eq_true q18;?_⟩
 exact⟨(Qj d Q2),(sB W31),rfl⟩
 refine⟨(Xd d.field),fun h19=>?_,fun h19=>?_⟩
 exact⟨(Qj d Q2),(sB W31),rfl⟩
 exact⟨(sB W31),rfl⟩
 exact⟨(sB W31),rfl⟩
theorem Aak (l:List Lev) (hp1:l.length≤A7):Fun Tryz.prog 101 [.c (.seq .lev l)] [] (.v (vO 0)) [.lst .lev l]:=by
 refine⟨Gs Tryz.func101 Q4 Q4,?_⟩
 have key:Sm Tryz.prog 8 0 (Abg Tryz.f101 1) [(2,.v (.c .nil)),(0,.v (.c (.seq .lev l)))] [] .ret [(2,.v (.c (.own 0)))] [.lst .lev l]:=by
  refine Sm.nilTest' (s:=0) (t3:=3) (t4:=4) (t:= .lev) (l:=l) rfl rfl rfl rfl rfl rfl rfl Tryz.underlying41 Q4 rfl rfl rfl fun p hp=>?_
  cases p with
  |true=>
   have hl:=hp rfl
   subst hl
   exact .inr ⟨by decide,Dt (ds:=[.br true,.at 0,.mkS 2 .lev,.keep [2],.sel [0]]) (ob:=[true=true]) Q4 ⟨rfl,trivial⟩⟩
  |false=>
   exact .inl ⟨[(0,.v (.c (.seq .lev l)))],[],Dt (ds:=[.br false,.at 0,.keep [0],.sel []]) (ob:=[false=false]) Q4 ⟨rfl,trivial⟩,
    (Dt (tm':=[(2,.v (.c (.own 0)))]) (H':=[.lst .lev ([]++l)]) (ds:=[.ty .lev,.ty .lev,.at 0,.keep [2],.sel [1]]) (ob:=[List.length ([]:List Lev)+l.length≤A7]) (by kernel_rfl) ⟨by simpa using hp1,trivial⟩).to (by rfl) (by rfl)⟩
 exact Rb Tryz.func101 (res:= .v (.c (.own 0))) (L':=[.lst .lev l]) (ds:=[.jump 1 .ret [(2,.v (.c (.own 0)))] [.lst .lev l]]) (σ:=[0]) (ob:=[Sm Tryz.prog 8 0 (Abg Tryz.f101 1) [(2,.v (.c .nil)),(0,.v (.c (.seq .lev l)))] [] .ret [(2,.v (.c (.own 0)))] [.lst .lev l]]) Q4 ⟨key,trivial⟩
theorem Akd (l:List Fld) (hp1:l.length≤A7):Fun Tryz.prog 161 [.c (.seq .fld l)] [] (.v (vO 0)) [.lst .fld l]:=by
 refine⟨Gs Tryz.func161 Q4 Q4,?_⟩
 have key:Sm Tryz.prog 8 0 (Abg Tryz.f161 1) [(2,.v (.c .nil)),(0,.v (.c (.seq .fld l)))] [] .ret [(2,.v (.c (.own 0)))] [.lst .fld l]:=by
  refine Sm.nilTest' (s:=0) (t3:=3) (t4:=4) (t:= .fld) (l:=l) rfl rfl rfl rfl rfl rfl rfl Tryz.underlying62 Q4 rfl rfl rfl fun p hp=>?_
  cases p with
  |true=>
   have hl:=hp rfl
   subst hl
   exact .inr ⟨by decide,Dt (ds:=[.br true,.at 0,.mkS 2 .fld,.keep [2],.sel [0]]) (ob:=[true=true]) Q4 ⟨rfl,trivial⟩⟩
  |false=>
   exact .inl ⟨[(0,.v (.c (.seq .fld l)))],[],Dt (ds:=[.br false,.at 0,.keep [0],.sel []]) (ob:=[false=false]) Q4 ⟨rfl,trivial⟩,
    (Dt (tm':=[(2,.v (.c (.own 0)))]) (H':=[.lst .fld ([]++l)]) (ds:=[.ty .fld,.ty .fld,.at 0,.keep [2],.sel [1]]) (ob:=[List.length ([]:List Fld)+l.length≤A7]) (by kernel_rfl) ⟨by simpa using hp1,trivial⟩).to (by rfl) (by rfl)⟩
 exact Rb Tryz.func161 (res:= .v (.c (.own 0))) (L':=[.lst .fld l]) (ds:=[.jump 1 .ret [(2,.v (.c (.own 0)))] [.lst .fld l]]) (σ:=[0]) (ob:=[Sm Tryz.prog 8 0 (Abg Tryz.f161 1) [(2,.v (.c .nil)),(0,.v (.c (.seq .fld l)))] [] .ret [(2,.v (.c (.own 0)))] [.lst .fld l]]) Q4 ⟨key,trivial⟩
structure L5 where
 sh:List Shp
 v:Nat
def L6 (s:List Shp):Fam:=⟨L5,fun q1=>[(2,.v (vP 0)),(3,.v (vP 1)),(8,.v (.c (.seq .shp s))),(9,.v (vI ((List.length s:Nat):Int))),(10,.v (vI ((q1.v:Nat):Int)))],fun q1=>[.cells [.nil],.cells [.own 2],.tree q1.sh],fun q1=>q1.v≤List.length s∧q1.sh=List.take q1.v s,fun q1=>List.length s-q1.v⟩
theorem Aie (s:List Shp) (hp1:s.length≤1048576) (hp2: ∀e∈s,e.fJ.length≤1048576):Fun Tryz.prog 98 [.agg [.seq .shp s]] [] (.v (.agg [.own 0])) [.tree s]:=by
 have hN:A7=274877906944:=rfl
 refine Ap Tryz.func98 Q4 Q4 (w:=let z2:=((s.length:Nat):Int);let z3:=L6 s;(.sZ [.at 0,.mkT 2 0,.keep [2,3,8,9,10],.sel [1,2,3]] (.loop z3 fun q1=> .br (.intro (Sx (s[q1.v]?)) fun x1=> .sZ [.el .shp x1,.ord (os 12 [6,8,9,11]) [2],.call [] (.v (vO 0)) [.lst .fld x1.fJ],.tyT,.tyT,.as 25 (.v (vI (((q1.v:Nat):Int)+1))),.at 0,.keep [2,3,8,9,10],.sel [0,1,6]] (.next)) (.lJ () [2])),z3.Has [(2,.v (vP 0)),(3,.v (vP 1)),(8,.v (.c (.seq .shp s))),(9,.v (vI z2)),(10,.v (vI 0))] [.cells [.nil],.cells [.own 2],.tree ([]:List Shp)]∧∀q1,z3.inv q1→(let z1:=((q1.v:Nat):Int);Bc (decide (z1<z2)) (El (s[q1.v]?) fun x1=>((s[q1.v]? =some x1)∧((0:Int)≤z1)∧(Fp 161 [.c (.seq .fld x1.fJ)] [] (.v (vO 0)) [.lst .fld x1.fJ])∧(q1.sh.length+List.length [(⟨x1.id,x1.fJ⟩:Shp)]≤A7)∧(wI (z1+1))∧z3.Nxt q1 [(2,.v (vP 0)),(3,.v (vP 1)),(8,.v (.c (.seq .shp s))),(9,.v (vI z2)),(10,.v (vI (z1+1)))] [.cells [.nil],.cells [.own 2],.tree (q1.sh++[(⟨x1.id,x1.fJ⟩:Shp)])])) (Lf (.v (.agg [.own 0])) (.v (.agg [.own 0])) [.tree q1.sh] [.tree s])))) Q4 ?_
 refine⟨Bm (j:=(⟨([]:List Shp),0⟩:L5)) Q9 rfl (by dsimp only[L6];exact⟨by omega,by simp⟩),fun (q1:L5) hq_q1=>?_⟩
 have hi_q1:q1.v≤s.length∧q1.sh=List.take q1.v s:=hq_q1
 obtain ⟨v1,v2⟩:=hi_q1
 have hsl:=congrArg List.length v2
 rw[List.length_take] at hsl
 refine dsp (fun h1 p1=>?_) fun h1 p1=>?_
 refine⟨(Bo (l:=s) (i:=q1.v) Q2),fun x1 hx1=>?_⟩
 have hfx:=hp2 x1 (List.mem_of_getElem? hx1)
 exact⟨hx1,Q2,(Akd x1.fJ Q2),Q5,(Ad Q2 Q2),A4 (j:=(⟨q1.sh++[(⟨x1.id,x1.fJ⟩:Shp)],q1.v+1⟩:L5)) Q9 rfl (by dsimp only[L6];exact⟨by omega,by rw[v2,List.take_succ_eq_append_getElem (by omega)];simp[(List.getElem?_eq_some_iff.1 hx1).2]⟩) (by dsimp only[L6];omega)⟩
 exact⟨rfl,(Ab (congrArg Blk.tree W32) rfl)⟩
theorem Xp (p:Pln) (hp1:List.length (p).sQ≤1048576) (hp2: ∀e∈(p).sQ,e.fJ.length≤1048576):Fun Tryz.prog 47 [.agg (Mp p)] [] (.v (.agg (Ajw 0 p))) [.tree p.sQ]:=by
 have hN:A7=274877906944:=rfl
 refine Ap Tryz.func47 Q4 Q4 (w:=(.sZ [.call [] (.v (.agg [.own 0])) [.tree p.sQ]] (.lJ () [2]),(Fp 98 [.agg [.seq .shp p.sQ]] [] (.v (.agg [.own 0])) [.tree p.sQ])∧Lf (.v (.agg (Ajw 0 p))) (.v (.agg (Ajw 0 p))) [.tree p.sQ] [.tree p.sQ])) Q4 ?_
 exact⟨(Aie p.sQ Q2 (hp2)),rfl,rfl⟩
theorem Hm (d:Dcd) (hp1:List.length (d).pJ.sQ≤1048576) (hp2: ∀e∈(d).pJ.sQ,e.fJ.length≤1048576) (hp3:List.length (d).sJ≤1048576):Fun Tryz.prog 50 [.agg (Bx d)] [] (.v (.agg (Ae 0 1 d))) [.tree d.pJ.sQ,.lst .lev d.sJ]:=by
 have hN:A7=274877906944:=rfl
 refine Ap Tryz.func50 Q4 Q4 (w:=let zi:Int→C:= .int .i64;let z1:List C:=[.nil,zi 0,zi 0,zi 0,zi 0,.nil,.int .u64 0,zi 0,zi 0,zi 0,zi 0,zi 0,.bool false,.bool false,zi 0,zi 0,zi 0,zi 0,zi 0,zi 0,zi 0,zi 0,.int .u64 0,zi 0,.str [],zi 0,zi 0];let z2:List Blk:=[.cells (Ae 1 2 d),.tree d.pJ.sQ,.lst .lev d.sJ,.cells z1];let z3:S:= .v (.agg (Ajw 0 d.pJ));let z4:=([(1,.v (vP 0)),(2,.v (vP 3))]:List (Nat×S))=[(1,.v (vP 0)),(2,.v (vP 3))];let z5:List Blk:=[.lst .lev d.sJ];let z6:S:= .v (vO 0);(.sZ [.tree (.first 0 (.first 3 (.two 1 (.two 2 (.one 4 (.first 6 (.one 5 (.one 7 (.first 8 (.one 9 (.done))))))) 4 (.one 2 (.first 6 (.one 5 (.one 7 (.first 8 (.one 9 (.done)))))))) 4 (.one 1 (.one 2 (.first 6 (.one 5 (.one 7 (.first 8 (.one 9 (.done))))))))))) 9 [0],.call [] z3 [.tree d.pJ.sQ],.call [] z6 z5,.at 0,.keep [1,2],.sel [0,2,3,1],.call [] z3 [.tree d.pJ.sQ],.call [] z6 z5,.at 0,.keep [1,2],.sel [0,2,3,1],.call [] z3 [.tree d.pJ.sQ],.call [] z6 z5,.at 0,.keep [1,2],.sel [0,2,3,1]] (.lJ () [1,2]),(Fp 47 [.agg (Mp d.pJ)] [] z3 [.tree d.pJ.sQ])∧(Fp 101 [.c (.seq .lev d.sJ)] [] z6 z5)∧(Fp 47 [.agg (Mp d.pJ)] [] z3 [.tree d.pJ.sQ])∧(Fp 101 [.c (.seq .lev d.sJ)] [] z6 z5)∧((z2:List Blk)=z2)∧z4∧(Fp 47 [.agg (Mp d.pJ)] [] z3 [.tree d.pJ.sQ])∧(Fp 101 [.c (.seq .lev d.sJ)] [] z6 z5)∧((z2:List Blk)=z2)∧z4∧Lf (.v (.agg (Ae 0 1 d))) (.v (.agg (Ae 0 1 d))) (L2 d) (L2 d))) Q4 ?_
 exact⟨(Xp d.pJ Q2 (hp2)),(Aak d.sJ Q2),(Xp d.pJ Q2 (hp2)),(Aak d.sJ Q2),rfl,rfl,(Xp d.pJ Q2 (hp2)),(Aak d.sJ Q2),rfl,rfl,rfl,rfl⟩
structure L7 where
 sh:List Shp
 i:Nat
def L8 (s:List Shp):Fam:=⟨L7,fun q1=>[(1,.v (vP 0)),(2,.v (vP 1)),(3,.v (vP 2)),(4,.v (vI ((q1.i:Nat):Int)))],fun q1=>[.cells [.seq .shp s],.cells [.nil],.cells [.own 3],.tree q1.sh],fun q1=>q1.i≤List.length s∧q1.sh=List.take q1.i s,fun q1=>List.length s-q1.i⟩
theorem Abx (s:List Shp) (hp1:s.length≤1048576) (hp2: ∀e∈s,e.fJ.length≤1048576):Fun Tryz.prog 89 [.agg [.seq .shp s]] [] (.v (.agg [.own 0])) [.tree s]:=by
 have hN:A7=274877906944:=rfl
 refine Ap Tryz.func89 Q4 Q4 (w:=let z4:=L8 s;(.sZ [.at 0,.mkT 2 0,.keep [1,2,3,4],.sel [0,1,2,3]] (.loop z4 fun q1=> .br (.intro (Sx (s[q1.i]?)) fun x1=> .sZ [.ord [(0,true),(1,true),(2,true),(3,true),(4,true),(5,true),(6,true),(7,true),(9,true),(10,true),(11,true),(12,true),(13,true),(14,true),(8,false),(15,false),(16,true),(17,false),(18,false),(19,true),(20,false)] [3],.el .shp x1,.el .shp x1,.ty .fld,.ty .fld,.tyT,.tyT,.as 12 (.v (vI (((q1.i:Nat):Int)+1))),.at 0,.keep [1,2,3,4],.sel [0,1,2,7]] (.next)) (.lJ () [3])),z4.Has [(1,.v (vP 0)),(2,.v (vP 1)),(3,.v (vP 2)),(4,.v (vI 0))] [.cells [.seq .shp s],.cells [.nil],.cells [.own 3],.tree ([]:List Shp)]∧∀q1,z4.inv q1→(let z3:=((q1.i:Nat):Int);Bc (decide (z3<((s.length:Nat):Int))) (El (s[q1.i]?) fun x1=>(let z1:=s[q1.i]? =some x1;let z2:=(⟨x1.id,([]:List Fld)++x1.fJ⟩:Shp);z1∧((0:Int)≤z3)∧z1∧((0:Int)≤z3)∧z1∧((0:Int)≤z3)∧z1∧((0:Int)≤z3)∧(List.length ([]:List Fld)+x1.fJ.length≤A7)∧(q1.sh.length+List.length [z2]≤A7)∧(wI (z3+1))∧z4.Nxt q1 [(1,.v (vP 0)),(2,.v (vP 1)),(3,.v (vP 2)),(4,.v (vI (z3+1)))] [.cells [.seq .shp s],.cells [.nil],.cells [.own 3],.tree (q1.sh++[z2])])) (Lf (.v (.agg [.own 0])) (.v (.agg [.own 0])) [.tree q1.sh] [.tree s])))) Q4 ?_
 refine⟨Bm (j:=(⟨([]:List Shp),0⟩:L7)) Q9 rfl (by dsimp only[L8];exact⟨by omega,by simp⟩),fun (q1:L7) hq_q1=>?_⟩
 have hi_q1:q1.i≤s.length∧q1.sh=List.take q1.i s:=hq_q1
 obtain ⟨v1,v2⟩:=hi_q1
 have hsl:=congrArg List.length v2
 rw[List.length_take] at hsl
 refine dsp (fun h1 p1=>?_) fun h1 p1=>?_
 refine⟨(Bo (l:=s) (i:=q1.i) Q2),fun x1 hx1=>?_⟩
 have hfx:=hp2 x1 (List.mem_of_getElem? hx1)
 exact⟨hx1,Q2,hx1,Q2,hx1,Q2,hx1,Q2,Q5,Q48,(Ad Q2 Q2),A4 (j:=(⟨q1.sh++[(⟨x1.id,([]:List Fld)++x1.fJ⟩:Shp)],q1.i+1⟩:L7)) Q9 rfl (by dsimp only[L8];exact⟨by omega,by rw[v2,List.take_succ_eq_append_getElem (by omega)];simp[(List.getElem?_eq_some_iff.1 hx1).2]⟩) (by dsimp only[L8];omega)⟩
 exact⟨rfl,(Ab (congrArg Blk.tree W32) rfl)⟩
theorem Gg (d:Dcd) (hp1:List.length (d).pJ.sQ≤1048576) (hp2: ∀e∈(d).pJ.sQ,e.fJ.length≤1048576) (hp3:List.length (d).sJ≤1048576):Fun Tryz.prog 59 [.agg (Bx d)] [] (.v (.agg (Ae 0 1 d))) [.tree d.pJ.sQ,.lst .lev d.sJ]:=by
 have hN:A7=274877906944:=rfl
 refine Ap Tryz.func59 Q4 Q4 (w:=(.sZ [.call [] (.v (.agg [.own 0])) [.tree d.pJ.sQ],.ty .lev,.ty .lev] (.lJ () [2,4]),(Fp 89 [.agg [.seq .shp d.pJ.sQ]] [] (.v (.agg [.own 0])) [.tree d.pJ.sQ])∧(List.length ([]:List Lev)+d.sJ.length≤A7)∧Lf (.v (.agg (Ae 0 1 d))) (.v (.agg (Ae 0 1 d))) [.tree d.pJ.sQ,.lst .lev (([]:List Lev)++d.sJ)] (L2 d))) Q4 ?_
 refine⟨(Abx d.pJ.sQ Q2 (hp2)),Q5,?_⟩
 have hm1:d=(⟨d.pJ,d.mJ,([]:List Lev)++d.sJ,d.sK,d.sX,d.aJ,d.field,d.wJ,d.wK,d.uJ,d.eJ⟩:Dcd):=by rfl
 exact⟨Q6,Q6⟩
theorem Aen (p:Pln) (hp1:List.length (p).sQ≤A7):Fun Tryz.prog 40 [.agg (Mp p)] [] (.tup [.agg (Ae 0 1 (Fd p)),vB (Dm p)]) [.tree (Fd p).pJ.sQ,.lst .lev (Fd p).sJ]:=by
 have hN:A7=274877906944:=rfl
 refine Ap Tryz.func40 Q4 Q4 (w:=let zi:Int→C:= .int .i64;let z1:List C:=[.own 1,.int .u64 0,zi 0,zi 0,zi 0,zi 0,zi 0,.bool false,.bool false,zi 0,zi 0,zi 0,zi 0,zi 0,zi 0,zi 0,zi 0,.int .u64 0,zi 0,.str [],zi 0,zi 0];let z2:S:= .tup [.agg (Ae 0 1 (Fd p)),vB (Dm p)];(.sZ [.call [] (.v (vB (Dm p))) []] (.br (.sZ [.at 0,.mkT 1 0,.mk 1 5 .lev] (.lJ () [2,3])) (.sZ [.call [] (.v (.agg [.own 0])) [.tree p.sQ],.at 0,.mk 1 5 .lev] (.lJ () [2,3]))),(Fp 13 [.agg (Mp p)] [] (.v (vB (Dm p))) [])∧Bc (!(Dm p)) (Lf (.tup [.agg (.own 0::zi 0::zi 0::zi 0::zi 0::z1),vB false]) z2 [.tree ([]:List Shp),.lst .lev ([]:List Lev)] (L2 (Fd p))) ((Fp 89 [.agg [.seq .shp p.sQ]] [] (.v (.agg [.own 0])) [.tree p.sQ])∧Lf (.tup [.agg (.own 0::zi p.rJ::zi p.dJ::zi p.most::zi 1::z1),vB true]) z2 [.tree p.sQ,.lst .lev ([]:List Lev)] (L2 (Fd p))))) Q4 ?_
 refine⟨(Aai p),fun h1=>have q1:=An h1;?_,fun h1=>have q1:=Am h1;have p1:=Cm q1;?_⟩
 exact zE (Fd p) (⟨(⟨([]:List Shp),0,0,0⟩:Pln),0,([]:List Lev),(⟨0,0⟩:Scn),0,0,(⟨0,0,false,false,0⟩:Fld),0,0,(⟨0,0,0⟩:Utf),(⟨0,0,0,0,[],0,0⟩:Ev)⟩:Dcd) (fun hm1=>⟨(congrArg S.tup (Ab (congrArg V.agg (Ab rfl (Ab (cI W33) (Ab (cI W33) (Ab (cI W33) (Ab (cI W33) (Ab rfl (Ab (congrArg (C.int .u64) W33) (Ab (cI W33) (Ab (cI W33) (Ab (cI W33) (Ab (cI W33) (Ab (cI W33) (Ab (congrArg C.bool W33) (Ab (congrArg C.bool W33) (Ab (cI W33) (Ab (cI W33) (Ab (cI W33) (Ab (cI W33) (Ab (cI W33) (Ab (cI W33) (Ab (cI W33) (Ab (cI W33) (Ab (congrArg (C.int .u64) W33) (Ab (cI W33) (Ab (congrArg C.str W33) (Ab (cI W33) (Ab (cI W33) rfl)))))))))))))))))))))))))))) (Ab (congrArg V.c (congrArg C.bool W33)) rfl))),Q6⟩) W33
 have hpt:=Cm q1
 exact zE (Fd p) (⟨p,1,([]:List Lev),(⟨0,0⟩:Scn),0,0,(⟨0,0,false,false,0⟩:Fld),0,0,(⟨0,0,0⟩:Utf),(⟨0,0,0,0,[],0,0⟩:Ev)⟩:Dcd) (fun hm1=>⟨(Abx p.sQ Q2 (D7 hpt.2.1)),(congrArg S.tup (Ab (congrArg V.agg (Ab rfl (Ab (cI W33) (Ab (cI W33) (Ab (cI W33) (Ab (cI W33) (Ab rfl (Ab (congrArg (C.int .u64) W33) (Ab (cI W33) (Ab (cI W33) (Ab (cI W33) (Ab (cI W33) (Ab (cI W33) (Ab (congrArg C.bool W33) (Ab (congrArg C.bool W33) (Ab (cI W33) (Ab (cI W33) (Ab (cI W33) (Ab (cI W33) (Ab (cI W33) (Ab (cI W33) (Ab (cI W33) (Ab (cI W33) (Ab (congrArg (C.int .u64) W33) (Ab (cI W33) (Ab (congrArg C.str W33) (Ab (cI W33) (Ab (cI W33) rfl)))))))))))))))))))))))))))) (Ab (congrArg V.c (congrArg C.bool W33)) rfl))),Q6⟩) W33
theorem Fw (m:Mac) (e:Ev) (hp1:List.length (m).oJ≤200000000):Fun Tryz.prog 88 [vP 0,.agg (cEv e)] [.cells (Ac 1 2 3 m),.tree m.d.pJ.sQ,.lst .lev m.d.sJ,.lst .ev m.oJ] (.tup []) [.cells (Ac 1 2 4 m),.tree (m).d.pJ.sQ,.lst .lev (m).d.sJ,.dK,.lst .ev ((m).oJ++[e])]:=by
 have hN:A7=274877906944:=rfl
 refine Ap Tryz.func88 Q4 Q4 (w:=(.sZ [.ord (os 11 [6,7,10]) [3],.ty .ev,.ty .ev] (.lJ () [0,1,2,3,6]),(m.oJ.length+List.length [e]≤A7)∧Lf (.tup []) (.tup []) [.cells (Ac 1 2 4 m),.tree m.d.pJ.sQ,.lst .lev m.d.sJ,.dK,.lst .ev (m.oJ++[e])] [.cells (Ac 1 2 4 m),.tree (m).d.pJ.sQ,.lst .lev (m).d.sJ,.dK,.lst .ev ((m).oJ++[e])])) Q4 ?_
 exact⟨Q5,rfl,(Ab rfl (Ab (congrArg Blk.tree (by rfl)) (Ab (congrArg (Blk.lst .lev) (by rfl)) (Ab rfl (Ab (congrArg (Blk.lst .ev) (by rfl)) rfl)))))⟩
theorem Ck (m:Mac) (c:Int) (a:Int) (hp1:List.length (m).oJ≤200000000):Fun Tryz.prog 52 [vP 0,vI c,vI a] [.cells (Ac 1 2 3 m),.tree m.d.pJ.sQ,.lst .lev m.d.sJ,.lst .ev m.oJ] (.tup []) [.cells (Ac 1 2 4 (A1 m c a)),.tree (A1 m c a).d.pJ.sQ,.lst .lev (A1 m c a).d.sJ,.dK,.lst .ev (A1 m c a).oJ]:=by
 have hN:A7=274877906944:=rfl
 refine Ap Tryz.func52 Q4 Q4 (w:=let zi:Int→C:= .int .i64;let z3:=A2 c a;let z1:List C:=[.own 1,zi m.d.pJ.rJ,zi m.d.pJ.dJ,zi m.d.pJ.most,zi 9,.own 2,.int .u64 0,zi 0,zi m.d.sX,zi m.d.aJ,zi m.d.field.nJ,zi m.d.field.kind,.bool m.d.field.rep,.bool m.d.field.packed,zi m.d.field.mK,zi m.d.wJ,zi 0,zi m.d.uJ.wK,zi m.d.uJ.low,zi m.d.uJ.high,zi z3.kind,zi z3.field,.int .u64 z3.bits,zi z3.len,.str z3.text,zi z3.code,zi z3.aJ,.own 4];let z2:List Blk:=[.cells z1,.tree m.d.pJ.sQ,.lst .lev m.d.sJ,.dK,.lst .ev (m.oJ++[z3])];let z4:=A1 m c a;(.sZ [.call [] (.v (.agg (cEv z3))) [],.call [0,1,2,3] (.tup []) z2] (.lJ () [0,1,2,3,4]),(Fp 111 [vI c,vI a] [] (.v (.agg (cEv z3))) [])∧(Fp 88 [vP 0,.agg (cEv z3)] [.cells [.own 1,zi m.d.pJ.rJ,zi m.d.pJ.dJ,zi m.d.pJ.most,zi 9,.own 2,.int .u64 0,zi 0,zi m.d.sX,zi m.d.aJ,zi m.d.field.nJ,zi m.d.field.kind,.bool m.d.field.rep,.bool m.d.field.packed,zi m.d.field.mK,zi m.d.wJ,zi 0,zi m.d.uJ.wK,zi m.d.uJ.low,zi m.d.uJ.high,zi z3.kind,zi z3.field,.int .u64 z3.bits,zi z3.len,.str z3.text,zi z3.code,zi z3.aJ,.own 3],.tree m.d.pJ.sQ,.lst .lev m.d.sJ,.lst .ev m.oJ] (.tup []) z2)∧Lf (.tup []) (.tup []) z2 [.cells (Ac 1 2 4 z4),.tree z4.d.pJ.sQ,.lst .lev z4.d.sJ,.dK,.lst .ev z4.oJ])) Q4 ?_
 exact zE (A1 m c a) (⟨(⟨m.d.pJ,9,m.d.sJ,(⟨0,0⟩:Scn),m.d.sX,m.d.aJ,m.d.field,m.d.wJ,0,m.d.uJ,(A2 c a)⟩:Dcd),m.oJ++[(A2 c a)]⟩:Mac) (fun hm1=>⟨(Ah5 _ _),(Fw (⟨(⟨m.d.pJ,9,m.d.sJ,(⟨0,0⟩:Scn),m.d.sX,m.d.aJ,m.d.field,m.d.wJ,0,m.d.uJ,(A2 c a)⟩:Dcd),m.oJ⟩:Mac) (A2 c a) Q7),rfl,Q6⟩) W34
theorem Ans (m:Mac) (hp1:List.length (m).oJ≤200000000) (hp2:List.length (m).d.sJ≤A7):Fun Tryz.prog 180 [vP 0] [.cells (Ac 1 2 3 m),.tree m.d.pJ.sQ,.lst .lev m.d.sJ,.lst .ev m.oJ] (.v (vB (Az m).isSome)) [.cells (Ac 1 4 5 ((Az m).getD m)),.tree ((Az m).getD m).d.pJ.sQ,.dK,.dK,.lst .lev ((Az m).getD m).d.sJ,.lst .ev ((Az m).getD m).oJ]:=by
 have hN:A7=274877906944:=rfl
 refine Ap Tryz.func180 Q4 Q4 (w:=let zi:Int→C:= .int .i64;let z4:List C:=[zi 0,.int .u64 0,zi 0,.str [],zi 0,zi 0];let z7:List C:=[zi m.d.eJ.kind,zi m.d.eJ.field,.int .u64 m.d.eJ.bits,zi m.d.eJ.len,.str m.d.eJ.text,zi m.d.eJ.code,zi m.d.eJ.aJ,.own 5];let z3:List C:= .own 1::zi m.d.pJ.rJ::zi m.d.pJ.dJ::zi m.d.pJ.most::zi 1:: .own 4:: .int .u64 m.d.sK.bits::zi m.d.sK.hJ::zi m.d.sX::zi m.d.aJ::zi m.d.field.nJ::zi m.d.field.kind:: .bool m.d.field.rep:: .bool m.d.field.packed::zi m.d.field.mK::zi m.d.wJ::zi m.d.wK::zi m.d.uJ.wK::zi m.d.uJ.low::zi m.d.uJ.high::z7;let z5:List C:= .own 1::zi m.d.pJ.rJ::zi m.d.pJ.dJ::zi m.d.pJ.most::zi 2:: .own 4:: .int .u64 m.d.sK.bits::zi m.d.sK.hJ::zi m.d.sX::zi m.d.aJ::zi m.d.field.nJ::zi m.d.field.kind:: .bool m.d.field.rep:: .bool m.d.field.packed::zi m.d.field.mK::zi m.d.wJ::zi 0::zi m.d.uJ.wK::zi m.d.uJ.low::zi m.d.uJ.high::z7;let z8:List C:=[zi m.d.eJ.kind,zi m.d.eJ.field,.int .u64 m.d.eJ.bits,zi m.d.eJ.len,.str m.d.eJ.text,zi m.d.eJ.code,zi m.d.eJ.aJ,.own 3];let z2:List C:= .own 1::zi m.d.pJ.rJ::zi m.d.pJ.dJ::zi m.d.pJ.most::zi 1:: .own 2:: .int .u64 m.d.sK.bits::zi m.d.sK.hJ::zi m.d.sX::zi m.d.aJ::zi m.d.field.nJ::zi m.d.field.kind:: .bool m.d.field.rep:: .bool m.d.field.packed::zi m.d.field.mK::zi m.d.wJ::zi m.d.wK::zi m.d.uJ.wK::zi m.d.uJ.low::zi m.d.uJ.high::z8;let z9:List C:=[zi m.d.eJ.kind,zi m.d.eJ.field,.int .u64 m.d.eJ.bits,zi m.d.eJ.len,.str m.d.eJ.text,zi m.d.eJ.code,zi m.d.eJ.aJ,.own 4];let z1:List C:= .own 1::zi m.d.pJ.rJ::zi m.d.pJ.dJ::zi m.d.pJ.most::zi 1:: .own 2:: .int .u64 m.d.sK.bits::zi m.d.sK.hJ::zi m.d.sX::zi m.d.aJ::zi m.d.field.nJ::zi m.d.field.kind:: .bool m.d.field.rep:: .bool m.d.field.packed::zi m.d.field.mK::zi m.d.wJ::zi m.d.wK::zi m.d.uJ.wK::zi m.d.uJ.low::zi m.d.uJ.high::z9;let z6:List C:= .own 1::zi m.d.pJ.rJ::zi m.d.pJ.dJ::zi m.d.pJ.most::zi 2:: .own 2:: .int .u64 m.d.sK.bits::zi m.d.sK.hJ::zi m.d.sX::zi m.d.aJ::zi m.d.field.nJ::zi m.d.field.kind:: .bool m.d.field.rep:: .bool m.d.field.packed::zi m.d.field.mK::zi m.d.wJ::zi 0::zi 0::zi 0::zi 0::z9;let z13:=((m.d.sJ.length:Nat):Int);let z11:=List.take ((Int.toNat (z13-1))-0) m.d.sJ;let z18:S:= .v (vB (Az m).isSome);let z19:List Blk:=[.cells (Ac 1 2 3 m),.tree m.d.pJ.sQ,.lst .lev z11,.lst .ev m.oJ];let z20:List Blk:=[.cells z2,.tree m.d.pJ.sQ,.lst .lev z11,.lst .ev m.oJ];let z21:=decide (m.d.sK.hJ=0);let z22:=decide (0<((z11.length:Nat):Int));let z23:=(0:Int)≤z13-1;let z24:List Blk:=[.cells (Ac 1 4 5 m),.tree m.d.pJ.sQ,.dK,.dK,.lst .lev m.d.sJ,.lst .ev m.oJ];let z25:S:= .v (vI (Eb m.d));let z26:=A1 m 5 m.d.aJ;let z27:S:= .v (vB true);let z28:=decide (m.d.mJ=2);let z29:List V:=[vP 0,.agg (zi 7::z4)];let z30:List V:=[vP 0,.agg (zi 8::z4)];let z31:=z13-1≤z13;let z32:=wI (z13-1);let z34:=decide (Eb m.d=0);let z36:List Blk:=[.cells (Ac 1 2 4 z26),.tree z26.d.pJ.sQ,.lst .lev z26.d.sJ,.dK,.lst .ev z26.oJ];let z37:=decide (m.d.wK<1);let z38:S:= .v (vI (z13-1));let z39:=decide (0<z13);let z41:=(Az m).getD m;let z12:List Blk:=[.cells (Ac 1 4 5 z41),.tree z41.d.pJ.sQ,.dK,.dK,.lst .lev z41.d.sJ,.lst .ev z41.oJ];let z10:=Lf (.v (vB false)) z18 z24 z12;let z35:=Lf z27 z18 [.cells z5,.tree m.d.pJ.sQ,.dK,.dK,.lst .lev m.d.sJ,.lst .ev m.oJ] z12;let z40:=Bc z28 ((z21=false)∧Lf (.v (vB false)) z18 z24 z12) z10;let z42:=os 18 [17];let z43:=m.oJ++[(⟨5,0,0,0,[],0,0⟩:Ev)];let z33:List Blk:=[.cells z6,.tree m.d.pJ.sQ,.lst .lev m.d.sJ,.dK,.lst .ev z43];let z44:=m.oJ++[(⟨7,0,0,0,[],0,0⟩:Ev)];let z14:List Blk:=[.cells (Ac 1 2 4 m),.tree m.d.pJ.sQ,.lst .lev z11,.dK,.lst .ev z44];let z16:List Blk:=[.cells (Ac 1 4 5 m),.tree m.d.pJ.sQ,.dK,.dK,.lst .lev z11,.lst .ev z44];let z45:=m.oJ++[(⟨8,0,0,0,[],0,0⟩:Ev)];let z15:List Blk:=[.cells z1,.tree m.d.pJ.sQ,.lst .lev z11,.dK,.lst .ev z45];let z17:List Blk:=[.cells z3,.tree m.d.pJ.sQ,.dK,.dK,.lst .lev z11,.lst .ev z45];let z46:=Bx m.d;(.br (.br (.br (.sZ [.call [0,1,2,3] (.tup []) z36,.at 0,.cut 0 5] (.lJ () [0,1,2,3,5,4])) (.sZ [.call [0,1,2,3] (.tup []) z33,.at 0,.cut 0 5] (.lJ () [0,1,2,3,5,4]))) (.br (.sZ [.br false] (.br (.br (.br (.sZ [.call [] z25 []] (.br (.sZ [.ord z42 [],.as 133 z38,.at 13,.cut 0 5] (.br (.sZ [.call [0,1,4,3] (.tup []) z14] (.lJ () [0,1,2,3,4,5])) (.sZ [.call [0,1,4,3] (.tup []) z15] (.lJ () [0,1,2,3,4,5])))) (.sZ [.at 0,.cut 0 5,.cut 0 27] (.lJ () [0,1,2,3,4,5])))) (.sZ [.at 0,.cut 0 5,.cut 0 27] (.lJ () [0,1,2,3,4,5]))) (.sZ [.at 0,.cut 0 5,.cut 0 27] (.lJ () [0,1,2,3,4,5]))) (.sZ [.at 0,.cut 0 5,.cut 0 27] (.lJ () [0,1,2,3,4,5])))) (.br (.br (.sZ [.br false] (.br (.sZ [.br true] (.br (.sZ [.call [] z25 []] (.br (.sZ [.ord z42 [],.as 133 z38,.at 13,.cut 0 5] (.br (.sZ [.call [0,1,4,3] (.tup []) z14] (.lJ () [0,1,2,3,4,5])) (.sZ [.call [0,1,4,3] (.tup []) z15] (.lJ () [0,1,2,3,4,5])))) (.sZ [.at 0,.cut 0 5,.cut 0 27] (.lJ () [0,1,2,3,4,5])))) (.sZ [.at 0,.cut 0 5,.cut 0 27] (.lJ () [0,1,2,3,4,5])))) (.sZ [.at 0,.cut 0 5,.cut 0 27] (.lJ () [0,1,2,3,4,5])))) (.br (.sZ [.br false,.at 0,.cut 0 5,.cut 0 27] (.lJ () [0,1,2,3,4,5])) (.sZ [.at 0,.cut 0 5,.cut 0 27] (.lJ () [0,1,2,3,4,5])))) (.br (.br (.br (.sZ [.call [] z25 []] (.br (.sZ [.ord z42 [],.as 133 z38,.at 13,.cut 0 5] (.br (.sZ [.call [0,1,4,3] (.tup []) z14] (.lJ () [0,1,2,3,4,5])) (.sZ [.call [0,1,4,3] (.tup []) z15] (.lJ () [0,1,2,3,4,5])))) (.sZ [.at 0,.cut 0 5,.cut 0 27] (.lJ () [0,1,2,3,4,5])))) (.sZ [.at 0,.cut 0 5,.cut 0 27] (.lJ () [0,1,2,3,4,5]))) (.sZ [.at 0,.cut 0 5,.cut 0 27] (.lJ () [0,1,2,3,4,5]))) (.sZ [.at 0,.cut 0 5,.cut 0 27] (.lJ () [0,1,2,3,4,5])))))) (.br (.br (.sZ [.at 0,.cut 0 5,.cut 0 27] (.lJ () [0,1,2,3,4,5])) (.br (.br (.br (.sZ [.call [] z25 []] (.br (.sZ [.ord z42 [],.as 133 z38,.at 13,.cut 0 5] (.br (.sZ [.call [0,1,4,3] (.tup []) z14] (.lJ () [0,1,2,3,4,5])) (.sZ [.call [0,1,4,3] (.tup []) z15] (.lJ () [0,1,2,3,4,5])))) (.sZ [.at 0,.cut 0 5,.cut 0 27] (.lJ () [0,1,2,3,4,5])))) (.sZ [.at 0,.cut 0 5,.cut 0 27] (.lJ () [0,1,2,3,4,5]))) (.sZ [.at 0,.cut 0 5,.cut 0 27] (.lJ () [0,1,2,3,4,5]))) (.sZ [.at 0,.cut 0 5,.cut 0 27] (.lJ () [0,1,2,3,4,5])))) (.br (.br (.br (.sZ [.at 0,.cut 0 5,.cut 0 27] (.lJ () [0,1,2,3,4,5])) (.br (.sZ [.br true] (.br (.sZ [.call [] z25 []] (.br (.sZ [.ord z42 [],.as 133 z38,.at 13,.cut 0 5] (.br (.sZ [.call [0,1,4,3] (.tup []) z14] (.lJ () [0,1,2,3,4,5])) (.sZ [.call [0,1,4,3] (.tup []) z15] (.lJ () [0,1,2,3,4,5])))) (.sZ [.at 0,.cut 0 5,.cut 0 27] (.lJ () [0,1,2,3,4,5])))) (.sZ [.at 0,.cut 0 5,.cut 0 27] (.lJ () [0,1,2,3,4,5])))) (.sZ [.at 0,.cut 0 5,.cut 0 27] (.lJ () [0,1,2,3,4,5])))) (.br (.sZ [.br false,.at 0,.cut 0 5,.cut 0 27] (.lJ () [0,1,2,3,4,5])) (.sZ [.at 0,.cut 0 5,.cut 0 27] (.lJ () [0,1,2,3,4,5])))) (.br (.br (.br (.sZ [.call [] z25 []] (.br (.sZ [.ord z42 [],.as 133 z38,.at 13,.cut 0 5] (.br (.sZ [.call [0,1,4,3] (.tup []) z14] (.lJ () [0,1,2,3,4,5])) (.sZ [.call [0,1,4,3] (.tup []) z15] (.lJ () [0,1,2,3,4,5])))) (.sZ [.at 0,.cut 0 5,.cut 0 27] (.lJ () [0,1,2,3,4,5])))) (.sZ [.at 0,.cut 0 5,.cut 0 27] (.lJ () [0,1,2,3,4,5]))) (.sZ [.at 0,.cut 0 5,.cut 0 27] (.lJ () [0,1,2,3,4,5]))) (.sZ [.at 0,.cut 0 5,.cut 0 27] (.lJ () [0,1,2,3,4,5]))))),Bc (decide (m.d.mJ=6)) (Bc z37 (Bc (decide (0<m.d.uJ.wK)) ((Fp 52 [vP 0,vI 5,vI m.d.aJ] [.cells (Ac 1 2 3 m),.tree m.d.pJ.sQ,.lst .lev m.d.sJ,.lst .ev m.oJ] (.tup []) z36)∧Lf z27 z18 [.cells (Ac 1 4 5 z26),.tree z26.d.pJ.sQ,.dK,.dK,.lst .lev z26.d.sJ,.lst .ev z26.oJ] z12) ((Fp 88 [vP 0,.agg (zi 5::z4)] [.cells (.own 1::zi m.d.pJ.rJ::zi m.d.pJ.dJ::zi m.d.pJ.most::zi 2:: .own 2:: .int .u64 m.d.sK.bits::zi m.d.sK.hJ::zi m.d.sX::zi m.d.aJ::zi m.d.field.nJ::zi m.d.field.kind:: .bool m.d.field.rep:: .bool m.d.field.packed::zi m.d.field.mK::zi m.d.wJ::zi 0::zi 0::zi 0::zi 0::z8),.tree m.d.pJ.sQ,.lst .lev m.d.sJ,.lst .ev m.oJ] (.tup []) z33)∧Lf z27 z18 [.cells (.own 1::zi m.d.pJ.rJ::zi m.d.pJ.dJ::zi m.d.pJ.most::zi 2:: .own 4:: .int .u64 m.d.sK.bits::zi m.d.sK.hJ::zi m.d.sX::zi m.d.aJ::zi m.d.field.nJ::zi m.d.field.kind:: .bool m.d.field.rep:: .bool m.d.field.packed::zi m.d.field.mK::zi m.d.wJ::zi 0::zi 0::zi 0::zi 0::z7),.tree m.d.pJ.sQ,.dK,.dK,.lst .lev m.d.sJ,.lst .ev z43] z12)) (Bc (decide (m.d.mJ=7)) ((z37=false)∧Bc z28 (Bc z21 (Bc z39 ((Fp 108 [.agg z46] [] z25 [])∧Bc z34 (z32∧z32∧z31∧z23∧z31∧z23∧Bc z22 ((Fp 88 z29 z19 (.tup []) z14)∧Lf z27 z18 z16 z12) ((Fp 88 z30 z20 (.tup []) z15)∧Lf z27 z18 z17 z12)) z10) z10) z10) z10) (Bc (decide (m.d.mJ=8)) (Bc z21 ((z37=false)∧Bc z28 ((z21=true)∧Bc z39 ((Fp 108 [.agg z46] [] z25 [])∧Bc z34 (z32∧z32∧z31∧z23∧z31∧z23∧Bc z22 ((Fp 88 z29 z19 (.tup []) z14)∧Lf z27 z18 z16 z12) ((Fp 88 z30 z20 (.tup []) z15)∧Lf z27 z18 z17 z12)) z10) z10) z10) z40) (Bc z28 (Bc z21 (Bc z39 ((Fp 108 [.agg z46] [] z25 [])∧Bc z34 (z32∧z32∧z31∧z23∧z31∧z23∧Bc z22 ((Fp 88 z29 z19 (.tup []) z14)∧Lf z27 z18 z16 z12) ((Fp 88 z30 z20 (.tup []) z15)∧Lf z27 z18 z17 z12)) z10) z10) z10) z10)))) (Bc (decide (m.d.mJ=7)) (Bc z37 z35 (Bc z28 (Bc z21 (Bc z39 ((Fp 108 [.agg z46] [] z25 [])∧Bc z34 (z32∧z32∧z31∧z23∧z31∧z23∧Bc z22 ((Fp 88 z29 z19 (.tup []) z14)∧Lf z27 z18 z16 z12) ((Fp 88 z30 z20 (.tup []) z15)∧Lf z27 z18 z17 z12)) z10) z10) z10) z10)) (Bc (decide (m.d.mJ=8)) (Bc z21 (Bc z37 z35 (Bc z28 ((z21=true)∧Bc z39 ((Fp 108 [.agg z46] [] z25 [])∧Bc z34 (z32∧z32∧z31∧z23∧z31∧z23∧Bc z22 ((Fp 88 z29 z19 (.tup []) z14)∧Lf z27 z18 z16 z12) ((Fp 88 z30 z20 (.tup []) z15)∧Lf z27 z18 z17 z12)) z10) z10) z10)) z40) (Bc z28 (Bc z21 (Bc z39 ((Fp 108 [.agg z46] [] z25 [])∧Bc z34 (z32∧z32∧z31∧z23∧z31∧z23∧Bc z22 ((Fp 88 z29 z19 (.tup []) z14)∧Lf z27 z18 z16 z12) ((Fp 88 z30 z20 (.tup []) z15)∧Lf z27 z18 z17 z12)) z10) z10) z10) z10))))) Q4 ?_
 refine dsp (fun h1 p1=>?_) fun h1 p1=>?_
 refine dsp (fun h2 p2=>?_) fun h2 p2=>?_
 refine dsp (fun h3 p3=>?_) fun h3 p3=>?_
 exact zE ((Az m).getD m) (A1 m 5 m.d.aJ) (fun hm1=>⟨(Ck m _ _ Q2),(sB W35),Q6⟩) W35
 exact zE ((Az m).getD m) (⟨(⟨m.d.pJ,2,m.d.sJ,m.d.sK,m.d.sX,m.d.aJ,m.d.field,m.d.wJ,0,(⟨0,0,0⟩:Utf),m.d.eJ⟩:Dcd),m.oJ++[(⟨5,0,0,0,[],0,0⟩:Ev)]⟩:Mac) (fun hm1=>⟨(Fw (⟨(⟨m.d.pJ,2,m.d.sJ,m.d.sK,m.d.sX,m.d.aJ,m.d.field,m.d.wJ,0,(⟨0,0,0⟩:Utf),m.d.eJ⟩:Dcd),m.oJ⟩:Mac) (⟨5,0,0,0,[],0,0⟩:Ev) Q7),(sB W35),Q6⟩) W35
 refine dsp (fun h3 p3=>?_) fun h3 p3=>?_
 refine⟨h2,dsp (fun h4 p4=>?_) fun h4 p4=>?_⟩
 refine dsp (fun h5 p5=>?_) fun h5 p5=>?_
 refine dsp (fun h6 p6=>?_) fun h6 p6=>?_
 refine⟨(Eg m.d Q2),dsp (fun h7 p7=>?_) fun h7 p7=>?_⟩
 refine⟨(Ad Q2 Q2),(Ad Q2 Q2),Q2,Q2,Q2,Q2,dsp (fun h8 p8=>?_) fun h8 p8=>?_⟩
 exact zE ((Az m).getD m) (⟨(⟨m.d.pJ,m.d.mJ,List.take ((Int.toNat (((m.d.sJ.length:Nat):Int)-1))-0) m.d.sJ,m.d.sK,m.d.sX,m.d.aJ,m.d.field,m.d.wJ,m.d.wK,m.d.uJ,m.d.eJ⟩:Dcd),m.oJ++[(⟨7,0,0,0,[],0,0⟩:Ev)]⟩:Mac) (fun hm1=>⟨(Fw (⟨(⟨m.d.pJ,m.d.mJ,List.take ((Int.toNat (((m.d.sJ.length:Nat):Int)-1))-0) m.d.sJ,m.d.sK,m.d.sX,m.d.aJ,m.d.field,m.d.wJ,m.d.wK,m.d.uJ,m.d.eJ⟩:Dcd),m.oJ⟩:Mac) (⟨7,0,0,0,[],0,0⟩:Ev) Q7),(sB W35),Q6⟩) W35
 exact zE ((Az m).getD m) (⟨(⟨m.d.pJ,1,List.take ((Int.toNat (((m.d.sJ.length:Nat):Int)-1))-0) m.d.sJ,m.d.sK,m.d.sX,m.d.aJ,m.d.field,m.d.wJ,m.d.wK,m.d.uJ,m.d.eJ⟩:Dcd),m.oJ++[(⟨8,0,0,0,[],0,0⟩:Ev)]⟩:Mac) (fun hm1=>⟨(Fw (⟨(⟨m.d.pJ,1,List.take ((Int.toNat (((m.d.sJ.length:Nat):Int)-1))-0) m.d.sJ,m.d.sK,m.d.sX,m.d.aJ,m.d.field,m.d.wJ,m.d.wK,m.d.uJ,m.d.eJ⟩:Dcd),m.oJ⟩:Mac) (⟨8,0,0,0,[],0,0⟩:Ev) Q7),(sB W35),Q6⟩) W35
 exact zE ((Az m).getD m) m (fun hm1=>⟨(sB W35),Q6⟩) W35
 exact zE ((Az m).getD m) m (fun hm1=>⟨(sB W35),Q6⟩) W35
 exact zE ((Az m).getD m) m (fun hm1=>⟨(sB W35),Q6⟩) W35
 exact zE ((Az m).getD m) m (fun hm1=>⟨(sB W35),Q6⟩) W35
 refine dsp (fun h4 p4=>?_) fun h4 p4=>?_
 refine dsp (fun h5 p5=>?_) fun h5 p5=>?_
 refine⟨h2,dsp (fun h6 p6=>?_) fun h6 p6=>?_⟩
 refine⟨h5,dsp (fun h7 p7=>?_) fun h7 p7=>?_⟩
 refine⟨(Eg m.d Q2),dsp (fun h8 p8=>?_) fun h8 p8=>?_⟩
 refine⟨(Ad Q2 Q2),(Ad Q2 Q2),Q2,Q2,Q2,Q2,dsp (fun h9 p9=>?_) fun h9 p9=>?_⟩
 exact zE ((Az m).getD m) (⟨(⟨m.d.pJ,m.d.mJ,List.take ((Int.toNat (((m.d.sJ.length:Nat):Int)-1))-0) m.d.sJ,m.d.sK,m.d.sX,m.d.aJ,m.d.field,m.d.wJ,m.d.wK,m.d.uJ,m.d.eJ⟩:Dcd),m.oJ++[(⟨7,0,0,0,[],0,0⟩:Ev)]⟩:Mac) (fun hm1=>⟨(Fw (⟨(⟨m.d.pJ,m.d.mJ,List.take ((Int.toNat (((m.d.sJ.length:Nat):Int)-1))-0) m.d.sJ,m.d.sK,m.d.sX,m.d.aJ,m.d.field,m.d.wJ,m.d.wK,m.d.uJ,m.d.eJ⟩:Dcd),m.oJ⟩:Mac) (⟨7,0,0,0,[],0,0⟩:Ev) Q7),(sB W35),Q6⟩) W35
 exact zE ((Az m).getD m) (⟨(⟨m.d.pJ,1,List.take ((Int.toNat (((m.d.sJ.length:Nat):Int)-1))-0) m.d.sJ,m.d.sK,m.d.sX,m.d.aJ,m.d.field,m.d.wJ,m.d.wK,m.d.uJ,m.d.eJ⟩:Dcd),m.oJ++[(⟨8,0,0,0,[],0,0⟩:Ev)]⟩:Mac) (fun hm1=>⟨(Fw (⟨(⟨m.d.pJ,1,List.take ((Int.toNat (((m.d.sJ.length:Nat):Int)-1))-0) m.d.sJ,m.d.sK,m.d.sX,m.d.aJ,m.d.field,m.d.wJ,m.d.wK,m.d.uJ,m.d.eJ⟩:Dcd),m.oJ⟩:Mac) (⟨8,0,0,0,[],0,0⟩:Ev) Q7),(sB W35),Q6⟩) W35
 exact zE ((Az m).getD m) m (fun hm1=>⟨(sB W35),Q6⟩) W35
 exact zE ((Az m).getD m) m (fun hm1=>⟨(sB W35),Q6⟩) W35
 exact zE ((Az m).getD m) m (fun hm1=>⟨(sB W35),Q6⟩) W35
 refine dsp (fun h6 p6=>?_) fun h6 p6=>?_
 exact zE ((Az m).getD m) m (fun hm1=>⟨h5,(sB W35),Q6⟩) W35
 exact zE ((Az m).getD m) m (fun hm1=>⟨(sB W35),Q6⟩) W35
 refine dsp (fun h5 p5=>?_) fun h5 p5=>?_
 refine dsp (fun h6 p6=>?_) fun h6 p6=>?_
 refine dsp (fun h7 p7=>?_) fun h7 p7=>?_
 refine⟨(Eg m.d Q2),dsp (fun h8 p8=>?_) fun h8 p8=>?_⟩
 refine⟨(Ad Q2 Q2),(Ad Q2 Q2),Q2,Q2,Q2,Q2,dsp (fun h9 p9=>?_) fun h9 p9=>?_⟩
 exact zE ((Az m).getD m) (⟨(⟨m.d.pJ,m.d.mJ,List.take ((Int.toNat (((m.d.sJ.length:Nat):Int)-1))-0) m.d.sJ,m.d.sK,m.d.sX,m.d.aJ,m.d.field,m.d.wJ,m.d.wK,m.d.uJ,m.d.eJ⟩:Dcd),m.oJ++[(⟨7,0,0,0,[],0,0⟩:Ev)]⟩:Mac) (fun hm1=>⟨(Fw (⟨(⟨m.d.pJ,m.d.mJ,List.take ((Int.toNat (((m.d.sJ.length:Nat):Int)-1))-0) m.d.sJ,m.d.sK,m.d.sX,m.d.aJ,m.d.field,m.d.wJ,m.d.wK,m.d.uJ,m.d.eJ⟩:Dcd),m.oJ⟩:Mac) (⟨7,0,0,0,[],0,0⟩:Ev) Q7),(sB W35),Q6⟩) W35
 exact zE ((Az m).getD m) (⟨(⟨m.d.pJ,1,List.take ((Int.toNat (((m.d.sJ.length:Nat):Int)-1))-0) m.d.sJ,m.d.sK,m.d.sX,m.d.aJ,m.d.field,m.d.wJ,m.d.wK,m.d.uJ,m.d.eJ⟩:Dcd),m.oJ++[(⟨8,0,0,0,[],0,0⟩:Ev)]⟩:Mac) (fun hm1=>⟨(Fw (⟨(⟨m.d.pJ,1,List.take ((Int.toNat (((m.d.sJ.length:Nat):Int)-1))-0) m.d.sJ,m.d.sK,m.d.sX,m.d.aJ,m.d.field,m.d.wJ,m.d.wK,m.d.uJ,m.d.eJ⟩:Dcd),m.oJ⟩:Mac) (⟨8,0,0,0,[],0,0⟩:Ev) Q7),(sB W35),Q6⟩) W35
 exact zE ((Az m).getD m) m (fun hm1=>⟨(sB W35),Q6⟩) W35
 exact zE ((Az m).getD m) m (fun hm1=>⟨(sB W35),Q6⟩) W35
 exact zE ((Az m).getD m) m (fun hm1=>⟨(sB W35),Q6⟩) W35
 exact zE ((Az m).getD m) m (fun hm1=>⟨(sB W35),Q6⟩) W35
 refine dsp (fun h2 p2=>?_) fun h2 p2=>?_
 refine dsp (fun h3 p3=>?_) fun h3 p3=>?_
 exact zE ((Az m).getD m) (⟨(⟨m.d.pJ,2,m.d.sJ,m.d.sK,m.d.sX,m.d.aJ,m.d.field,m.d.wJ,0,m.d.uJ,m.d.eJ⟩:Dcd),m.oJ⟩:Mac) (fun hm1=>⟨(sB W35),Q6⟩) W35
 refine dsp (fun h4 p4=>?_) fun h4 p4=>?_
 refine dsp (fun h5 p5=>?_) fun h5 p5=>?_
 refine dsp (fun h6 p6=>?_) fun h6 p6=>?_
 refine⟨(Eg m.d Q2),dsp (fun h7 p7=>?_) fun h7 p7=>?_⟩
 refine⟨(Ad Q2 Q2),(Ad Q2 Q2),Q2,Q2,Q2,Q2,dsp (fun h8 p8=>?_) fun h8 p8=>?_⟩
 exact zE ((Az m).getD m) (⟨(⟨m.d.pJ,m.d.mJ,List.take ((Int.toNat (((m.d.sJ.length:Nat):Int)-1))-0) m.d.sJ,m.d.sK,m.d.sX,m.d.aJ,m.d.field,m.d.wJ,m.d.wK,m.d.uJ,m.d.eJ⟩:Dcd),m.oJ++[(⟨7,0,0,0,[],0,0⟩:Ev)]⟩:Mac) (fun hm1=>⟨(Fw (⟨(⟨m.d.pJ,m.d.mJ,List.take ((Int.toNat (((m.d.sJ.length:Nat):Int)-1))-0) m.d.sJ,m.d.sK,m.d.sX,m.d.aJ,m.d.field,m.d.wJ,m.d.wK,m.d.uJ,m.d.eJ⟩:Dcd),m.oJ⟩:Mac) (⟨7,0,0,0,[],0,0⟩:Ev) Q7),(sB W35),Q6⟩) W35
 exact zE ((Az m).getD m) (⟨(⟨m.d.pJ,1,List.take ((Int.toNat (((m.d.sJ.length:Nat):Int)-1))-0) m.d.sJ,m.d.sK,m.d.sX,m.d.aJ,m.d.field,m.d.wJ,m.d.wK,m.d.uJ,m.d.eJ⟩:Dcd),m.oJ++[(⟨8,0,0,0,[],0,0⟩:Ev)]⟩:Mac) (fun hm1=>⟨(Fw (⟨(⟨m.d.pJ,1,List.take ((Int.toNat (((m.d.sJ.length:Nat):Int)-1))-0) m.d.sJ,m.d.sK,m.d.sX,m.d.aJ,m.d.field,m.d.wJ,m.d.wK,m.d.uJ,m.d.eJ⟩:Dcd),m.oJ⟩:Mac) (⟨8,0,0,0,[],0,0⟩:Ev) Q7),(sB W35),Q6⟩) W35
 exact zE ((Az m).getD m) m (fun hm1=>⟨(sB W35),Q6⟩) W35
 exact zE ((Az m).getD m) m (fun hm1=>⟨(sB W35),Q6⟩) W35
 exact zE ((Az m).getD m) m (fun hm1=>⟨(sB W35),Q6⟩) W35
 exact zE ((Az m).getD m) m (fun hm1=>⟨(sB W35),Q6⟩) W35
 refine dsp (fun h3 p3=>?_) fun h3 p3=>?_
 refine dsp (fun h4 p4=>?_) fun h4 p4=>?_
 refine dsp (fun h5 p5=>?_) fun h5 p5=>?_
 exact zE ((Az m).getD m) (⟨(⟨m.d.pJ,2,m.d.sJ,m.d.sK,m.d.sX,m.d.aJ,m.d.field,m.d.wJ,0,m.d.uJ,m.d.eJ⟩:Dcd),m.oJ⟩:Mac) (fun hm1=>⟨(sB W35),Q6⟩) W35
 refine dsp (fun h6 p6=>?_) fun h6 p6=>?_
 refine⟨h4,dsp (fun h7 p7=>?_) fun h7 p7=>?_⟩
 refine⟨(Eg m.d Q2),dsp (fun h8 p8=>?_) fun h8 p8=>?_⟩
 refine⟨(Ad Q2 Q2),(Ad Q2 Q2),Q2,Q2,Q2,Q2,dsp (fun h9 p9=>?_) fun h9 p9=>?_⟩
 exact zE ((Az m).getD m) (⟨(⟨m.d.pJ,m.d.mJ,List.take ((Int.toNat (((m.d.sJ.length:Nat):Int)-1))-0) m.d.sJ,m.d.sK,m.d.sX,m.d.aJ,m.d.field,m.d.wJ,m.d.wK,m.d.uJ,m.d.eJ⟩:Dcd),m.oJ++[(⟨7,0,0,0,[],0,0⟩:Ev)]⟩:Mac) (fun hm1=>⟨(Fw (⟨(⟨m.d.pJ,m.d.mJ,List.take ((Int.toNat (((m.d.sJ.length:Nat):Int)-1))-0) m.d.sJ,m.d.sK,m.d.sX,m.d.aJ,m.d.field,m.d.wJ,m.d.wK,m.d.uJ,m.d.eJ⟩:Dcd),m.oJ⟩:Mac) (⟨7,0,0,0,[],0,0⟩:Ev) Q7),(sB W35),Q6⟩) W35
 exact zE ((Az m).getD m) (⟨(⟨m.d.pJ,1,List.take ((Int.toNat (((m.d.sJ.length:Nat):Int)-1))-0) m.d.sJ,m.d.sK,m.d.sX,m.d.aJ,m.d.field,m.d.wJ,m.d.wK,m.d.uJ,m.d.eJ⟩:Dcd),m.oJ++[(⟨8,0,0,0,[],0,0⟩:Ev)]⟩:Mac) (fun hm1=>⟨(Fw (⟨(⟨m.d.pJ,1,List.take ((Int.toNat (((m.d.sJ.length:Nat):Int)-1))-0) m.d.sJ,m.d.sK,m.d.sX,m.d.aJ,m.d.field,m.d.wJ,m.d.wK,m.d.uJ,m.d.eJ⟩:Dcd),m.oJ⟩:Mac) (⟨8,0,0,0,[],0,0⟩:Ev) Q7),(sB W35),Q6⟩) W35
 exact zE ((Az m).getD m) m (fun hm1=>⟨(sB W35),Q6⟩) W35
 exact zE ((Az m).getD m) m (fun hm1=>⟨(sB W35),Q6⟩) W35
 exact zE ((Az m).getD m) m (fun hm1=>⟨(sB W35),Q6⟩) W35
 refine dsp (fun h5 p5=>?_) fun h5 p5=>?_
 exact zE ((Az m).getD m) m (fun hm1=>⟨h4,(sB W35),Q6⟩) W35
 exact zE ((Az m).getD m) m (fun hm1=>⟨(sB W35),Q6⟩) W35
 refine dsp (fun h4 p4=>?_) fun h4 p4=>?_
 refine dsp (fun h5 p5=>?_) fun h5 p5=>?_
 refine dsp (fun h6 p6=>?_) fun h6 p6=>?_
 refine⟨(Eg m.d Q2),dsp (fun h7 p7=>?_) fun h7 p7=>?_⟩
 refine⟨(Ad Q2 Q2),(Ad Q2 Q2),Q2,Q2,Q2,Q2,dsp (fun h8 p8=>?_) fun h8 p8=>?_⟩
 exact zE ((Az m).getD m) (⟨(⟨m.d.pJ,m.d.mJ,List.take ((Int.toNat (((m.d.sJ.length:Nat):Int)-1))-0) m.d.sJ,m.d.sK,m.d.sX,m.d.aJ,m.d.field,m.d.wJ,m.d.wK,m.d.uJ,m.d.eJ⟩:Dcd),m.oJ++[(⟨7,0,0,0,[],0,0⟩:Ev)]⟩:Mac) (fun hm1=>⟨(Fw (⟨(⟨m.d.pJ,m.d.mJ,List.take ((Int.toNat (((m.d.sJ.length:Nat):Int)-1))-0) m.d.sJ,m.d.sK,m.d.sX,m.d.aJ,m.d.field,m.d.wJ,m.d.wK,m.d.uJ,m.d.eJ⟩:Dcd),m.oJ⟩:Mac) (⟨7,0,0,0,[],0,0⟩:Ev) Q7),(sB W35),Q6⟩) W35
 exact zE ((Az m).getD m) (⟨(⟨m.d.pJ,1,List.take ((Int.toNat (((m.d.sJ.length:Nat):Int)-1))-0) m.d.sJ,m.d.sK,m.d.sX,m.d.aJ,m.d.field,m.d.wJ,m.d.wK,m.d.uJ,m.d.eJ⟩:Dcd),m.oJ++[(⟨8,0,0,0,[],0,0⟩:Ev)]⟩:Mac) (fun hm1=>⟨(Fw (⟨(⟨m.d.pJ,1,List.take ((Int.toNat (((m.d.sJ.length:Nat):Int)-1))-0) m.d.sJ,m.d.sK,m.d.sX,m.d.aJ,m.d.field,m.d.wJ,m.d.wK,m.d.uJ,m.d.eJ⟩:Dcd),m.oJ⟩:Mac) (⟨8,0,0,0,[],0,0⟩:Ev) Q7),(sB W35),Q6⟩) W35
 exact zE ((Az m).getD m) m (fun hm1=>⟨(sB W35),Q6⟩) W35
 exact zE ((Az m).getD m) m (fun hm1=>⟨(sB W35),Q6⟩) W35
 exact zE ((Az m).getD m) m (fun hm1=>⟨(sB W35),Q6⟩) W35
 exact zE ((Az m).getD m) m (fun hm1=>⟨(sB W35),Q6⟩) W35
structure Nx where
 m:Mac
def Ny (m:Mac):Fam:=⟨Nx,fun q1=>[(0,.v (vP 0))],fun q1=>[.cells (Ac 4 5 6 q1.m),.dK,.dK,.dK,.tree q1.m.d.pJ.sQ,.lst .lev q1.m.d.sJ,.lst .ev q1.m.oJ],fun q1=>Af q1.m=Af m∧List.length (q1.m).oJ+wM q1.m≤List.length m.oJ+wM m∧List.length (q1.m).d.sJ≤List.length m.d.sJ,fun q1=>wM q1.m⟩
theorem Es (m:Mac) (hp1:Bk (m).d=true) (hp2:List.length (m).oJ≤100000100):Fun Tryz.prog 117 [vP 0] [.cells (Ac 1 2 3 m),.tree m.d.pJ.sQ,.lst .lev m.d.sJ,.lst .ev m.oJ] (.tup []) [.cells (Ac 4 5 6 (Af m)),.dK,.dK,.dK,.tree (Af m).d.pJ.sQ,.lst .lev (Af m).d.sJ,.lst .ev (Af m).oJ]:=by
 have hN:A7=274877906944:=rfl
 have hlv:=Cb hp1
 have hpt:=Cm hlv.1
 have htb:=Hy hp1
 have hwm:=Agi m
 refine Ap Tryz.func117 Q4 Q4 (w:=let z3:=Ny m;(.sZ [.call [] (.v (vB (Bk m.d))) [],.br false,.at 0,.cut 0 0,.cut 0 5,.cut 0 27,.keep [0],.sel [0,1,2,3,4,5,6]] (.loop z3 fun q1=>let z1:=(Az q1.m).getD q1.m;.sZ [.call [0,4,5,6] (.v (vB (Az q1.m).isSome)) [.cells (Ac 1 4 5 z1),.tree z1.d.pJ.sQ,.dK,.dK,.lst .lev z1.d.sJ,.lst .ev z1.oJ]] (.br (.sZ [.at 0,.keep [0],.sel [0,1,2,3,4,7,8]] (.next)) (.lJ () [0,1,2,3,4,7,8]))),(Fp 102 [.agg (Bx m.d)] [] (.v (vB (Bk m.d))) [])∧((!(Bk m.d))=false)∧z3.Has [(0,.v (vP 0))] [.cells (Ac 4 5 6 m),.dK,.dK,.dK,.tree m.d.pJ.sQ,.lst .lev m.d.sJ,.lst .ev m.oJ]∧∀q1,z3.inv q1→(let z2:=(Az q1.m).getD q1.m;(Fp 180 [vP 0] [.cells (Ac 1 2 3 q1.m),.tree q1.m.d.pJ.sQ,.lst .lev q1.m.d.sJ,.lst .ev q1.m.oJ] (.v (vB (Az q1.m).isSome)) [.cells (Ac 1 4 5 z2),.tree z2.d.pJ.sQ,.dK,.dK,.lst .lev z2.d.sJ,.lst .ev z2.oJ])∧Bc ((Az q1.m).isSome) (z3.Nxt q1 [(0,.v (vP 0))] [.cells (Ac 4 5 6 z2),.dK,.dK,.dK,.tree z2.d.pJ.sQ,.lst .lev z2.d.sJ,.lst .ev z2.oJ]) (Lf (.tup []) (.tup []) [.cells (Ac 4 5 6 z2),.dK,.dK,.dK,.tree z2.d.pJ.sQ,.lst .lev z2.d.sJ,.lst .ev z2.oJ] [.cells (Ac 4 5 6 (Af m)),.dK,.dK,.dK,.tree (Af m).d.pJ.sQ,.lst .lev (Af m).d.sJ,.lst .ev (Af m).oJ])))) Q4 ?_
 refine⟨(Ze m.d Q2 Q2),(by simp[hp1]),Bm (j:=(⟨m⟩:Nx)) rfl rfl (by dsimp only[Ny];exact⟨rfl,Nat.le_refl _,Nat.le_refl _⟩),fun (q1:Nx) hq_q1=>?_⟩
 have hi_q1:Af q1.m=Af m∧List.length (q1.m).oJ+wM q1.m≤m.oJ.length+wM m∧List.length (q1.m).d.sJ≤m.d.sJ.length:=hq_q1
 obtain ⟨v1,v2,v3⟩:=hi_q1
 refine⟨(Ans q1.m Q2 Q2),fun h1=>?_,fun h1=>?_⟩
 obtain ⟨q,hq⟩:=Option.isSome_iff_exists.1 h1
 have hg:(Az q1.m).getD q1.m=q:=by rw[hq];rfl
 exact A4 (j:=(⟨((Az q1.m).getD q1.m)⟩:Nx)) rfl rfl (by dsimp only[Ny];exact⟨by rw[hg,←v1];exact(Cs hq).symm,by rw[hg];have:=Cg hq;omega,by rw[hg];have:=(Kp hq).1;omega⟩) (by dsimp only[Ny];rw[hg];exact(Cg hq).1)
 have hz:Az q1.m=none:=by simpa using h1
 have hg:(Az q1.m).getD q1.m=q1.m:=by rw[hz];rfl
 have hst:Af m=q1.m:=by rw[←v1,B8 hz]
 exact zE (Af m) ((Az q1.m).getD q1.m) (fun hm1=>⟨rfl,Q6⟩) W36
theorem Aif (m:Mac) (u:Int) (hp1:Bk (m).d=true) (hp2:List.length (m).oJ≤100000000) (hp3:(0:Int)≤u∧u≤18446744073709551615):Fun Tryz.prog 185 [vP 0,.c (.int .u64 u)] [.cells (Ac 1 2 3 m),.tree m.d.pJ.sQ,.lst .lev m.d.sJ,.lst .ev m.oJ] (.tup []) [.cells (Ac 4 5 6 (C6 m u)),.dK,.dK,.dK,.tree (C6 m u).d.pJ.sQ,.lst .lev (C6 m u).d.sJ,.lst .ev (C6 m u).oJ]:=by
 have hN:A7=274877906944:=rfl
 have hlv:=Cb hp1
 have hpt:=Cm hlv.1
 have htb:=Hy hp1
 have hwm:=Agi m
 refine Ap Tryz.func185 Q4 Q4 (w:=let zi:Int→C:= .int .i64;let z1:List C:=[.own 2,.int .u64 0,zi 0,zi m.d.sX,zi m.d.aJ,zi m.d.field.nJ,zi m.d.field.kind,.bool m.d.field.rep,.bool m.d.field.packed,zi m.d.field.mK,zi m.d.wJ,zi m.d.wK,zi m.d.uJ.wK,zi m.d.uJ.low,zi m.d.uJ.high,zi m.d.eJ.kind,zi m.d.eJ.field,.int .u64 m.d.eJ.bits,zi m.d.eJ.len,.str m.d.eJ.text,zi m.d.eJ.code,zi m.d.eJ.aJ,.own 3];let z2:List C:=[.own 1,zi m.d.pJ.rJ,zi m.d.pJ.dJ,zi m.d.pJ.most,zi m.d.mJ,.own 2,.int .u64 0,zi 0,zi m.d.sX,zi m.d.aJ,zi m.d.field.nJ,zi m.d.field.kind,.bool m.d.field.rep,.bool m.d.field.packed,zi m.d.field.mK,zi m.d.wJ,zi m.d.wK,zi m.d.uJ.wK,zi m.d.uJ.low,zi m.d.uJ.high,zi m.d.eJ.kind,zi m.d.eJ.field,.int .u64 m.d.eJ.bits,zi m.d.eJ.len,.str m.d.eJ.text,zi m.d.eJ.code,zi m.d.eJ.aJ,.own 4];let z4:=A1 (⟨(⟨m.d.pJ,m.d.mJ,m.d.sJ,(⟨0,0⟩:Scn),m.d.sX,m.d.aJ,m.d.field,m.d.wJ,m.d.wK,m.d.uJ,m.d.eJ⟩:Dcd),m.oJ⟩:Mac) 7 m.d.sX;let z6:List Blk:=[.cells (.own 1::zi m.d.pJ.rJ::zi m.d.pJ.dJ::zi m.d.pJ.most::zi m.d.mJ::z1),.tree m.d.pJ.sQ,.lst .lev m.d.sJ,.lst .ev m.oJ];let z7:List Blk:=[.cells (Ac 4 5 6 (C6 m u)),.dK,.dK,.dK,.tree (C6 m u).d.pJ.sQ,.lst .lev (C6 m u).d.sJ,.lst .ev (C6 m u).oJ];let z9:List Blk:=[.cells (Ac 1 2 4 z4),.tree z4.d.pJ.sQ,.lst .lev z4.d.sJ,.dK,.lst .ev z4.oJ];let z10:=(⟨1,0,0,u,[],0,0⟩:Ev);let z3:=Af (⟨(⟨m.d.pJ,2,[(⟨m.d.pJ.rJ,u⟩:Lev)],(⟨0,0⟩:Scn),m.d.sX,m.d.aJ,m.d.field,m.d.wJ,m.d.wK,m.d.uJ,m.d.eJ⟩:Dcd),m.oJ++[z10]⟩:Mac);let z5:List Blk:=[.cells (Ac 4 5 6 z3),.dK,.dK,.dK,.tree z3.d.pJ.sQ,.lst .lev z3.d.sJ,.lst .ev z3.oJ];let z8:List Blk:=[.cells z2,.tree m.d.pJ.sQ,.lst .lev m.d.sJ,.dK,.lst .ev (m.oJ++[z10])];(.sZ [.as 16 (.v (.c (.int .u64 m.d.pJ.most)))] (.br (.sZ [.call [0,1,2,3] (.tup []) z9,.at 0,.cut 0 0,.cut 0 5] (.lJ () [0,1,2,3,5,6,4])) (.sZ [.as 27 (.v (vI u)),.call [0,1,2,3] (.tup []) z8,.as 39 (.v (vI u)),.ty .lev,.call [0,1,5,4] (.tup []) z5,.at 0,.kill 2] (.lJ () [0,1,2,3,6,7,8]))),(wU (m.d.pJ.most))∧Bc (decide (m.d.pJ.most<u)) ((Fp 52 [vP 0,vI 7,vI m.d.sX] z6 (.tup []) z9)∧Lf (.tup []) (.tup []) [.cells (Ac 4 5 6 z4),.dK,.dK,.dK,.tree z4.d.pJ.sQ,.lst .lev z4.d.sJ,.lst .ev z4.oJ] z7) ((wI (u))∧(Fp 88 [vP 0,.agg [zi 1,zi 0,.int .u64 0,zi u,.str [],zi 0,zi 0]] z6 (.tup []) z8)∧(wI (u))∧(Fp 117 [vP 0] [.cells (.own 1::zi m.d.pJ.rJ::zi m.d.pJ.dJ::zi m.d.pJ.most::zi 2::z1),.tree m.d.pJ.sQ,.lst .lev [(⟨m.d.pJ.rJ,u⟩:Lev)],.lst .ev (m.oJ++[z10])] (.tup []) z5)∧Lf (.tup []) (.tup []) z5 z7))) Q4 ?_
 refine⟨(B3 Q2 Q2),dsp (fun h1 p1=>?_) fun h1 p1=>?_⟩
 exact zE (C6 m u) (A1 (⟨(⟨m.d.pJ,m.d.mJ,m.d.sJ,(⟨0,0⟩:Scn),m.d.sX,m.d.aJ,m.d.field,m.d.wJ,m.d.wK,m.d.uJ,m.d.eJ⟩:Dcd),m.oJ⟩:Mac) 7 m.d.sX) (fun hm1=>⟨(Ck (⟨(⟨m.d.pJ,m.d.mJ,m.d.sJ,(⟨0,0⟩:Scn),m.d.sX,m.d.aJ,m.d.field,m.d.wJ,m.d.wK,m.d.uJ,m.d.eJ⟩:Dcd),m.oJ⟩:Mac) _ _ Q7),rfl,Q6⟩) W37
 exact zE (C6 m u) (Af (⟨(⟨m.d.pJ,2,[(⟨m.d.pJ.rJ,u⟩:Lev)],(⟨0,0⟩:Scn),m.d.sX,m.d.aJ,m.d.field,m.d.wJ,m.d.wK,m.d.uJ,m.d.eJ⟩:Dcd),m.oJ++[(⟨1,0,0,u,[],0,0⟩:Ev)]⟩:Mac)) (fun hm1=>⟨(Ad Q2 Q2),(Fw (⟨(⟨m.d.pJ,m.d.mJ,m.d.sJ,(⟨0,0⟩:Scn),m.d.sX,m.d.aJ,m.d.field,m.d.wJ,m.d.wK,m.d.uJ,m.d.eJ⟩:Dcd),m.oJ⟩:Mac) (⟨1,0,0,u,[],0,0⟩:Ev) Q7),(Ad Q2 Q2),(Es (⟨(⟨m.d.pJ,2,[(⟨m.d.pJ.rJ,u⟩:Lev)],(⟨0,0⟩:Scn),m.d.sX,m.d.aJ,m.d.field,m.d.wJ,m.d.wK,m.d.uJ,m.d.eJ⟩:Dcd),m.oJ++[(⟨1,0,0,u,[],0,0⟩:Ev)]⟩:Mac) (R6 hp1 rfl rfl hp3.1 Q2) Q18),rfl,Q6⟩) W37
theorem Ao4 (m:Mac) (u:Int) (hp1:Bk (m).d=true) (hp2:List.length (m).oJ≤100000000) (hp3:(0:Int)≤u∧u≤18446744073709551615):Fun Tryz.prog 186 [vP 0,.c (.int .u64 u)] [.cells (Ac 1 2 3 m),.tree m.d.pJ.sQ,.lst .lev m.d.sJ,.lst .ev m.oJ] (.tup []) [.cells (Ac 4 5 6 (Ex m u)),.dK,.dK,.dK,.tree (Ex m u).d.pJ.sQ,.lst .lev (Ex m u).d.sJ,.lst .ev (Ex m u).oJ]:=by
 have hN:A7=274877906944:=rfl
 have hlv:=Cb hp1
 have hpt:=Cm hlv.1
 have htb:=Hy hp1
 have hwm:=Agi m
 have htw:=Amj u
 have hmx:max (A3 (Aj u)) 1=if 1>A3 (Aj u) then 1 else A3 (Aj u):=by split<;>omega
 refine Ap Tryz.func186 Q4 Q4 (w:=let zi:Int→C:= .int .i64;let z9:List C:=[zi m.d.wK,zi m.d.uJ.wK,zi m.d.uJ.low,zi m.d.uJ.high,zi m.d.eJ.kind,zi m.d.eJ.field,.int .u64 m.d.eJ.bits,zi m.d.eJ.len,.str m.d.eJ.text,zi m.d.eJ.code,zi m.d.eJ.aJ,.own 3];let z8:List C:= .own 1::zi m.d.pJ.rJ::zi m.d.pJ.dJ::zi m.d.pJ.most::zi m.d.mJ:: .own 2:: .int .u64 0::zi 0::zi m.d.sX::zi m.d.aJ::zi m.d.field.nJ::zi m.d.field.kind:: .bool m.d.field.rep:: .bool m.d.field.packed::zi m.d.field.mK::zi m.d.wJ::z9;let z13:List Blk:=[.cells (Ac 4 5 6 (Ex m u)),.dK,.dK,.dK,.tree (Ex m u).d.pJ.sQ,.lst .lev (Ex m u).d.sJ,.lst .ev (Ex m u).oJ];let z15:=(⟨0,0⟩:Scn);let z12:=(⟨m.d.pJ,m.d.mJ,m.d.sJ,z15,m.d.sX,m.d.aJ,m.d.field,m.d.wJ,m.d.wK,m.d.uJ,m.d.eJ⟩:Dcd);let z14:=A1 (⟨z12,m.oJ⟩:Mac) 2 m.d.sX;let z16:=((m.d.sJ.length:Nat):Int);let z17:=A1 (⟨z12,m.oJ⟩:Mac) 3 m.d.sX;let z18:=A1 (⟨z12,m.oJ⟩:Mac) 4 m.d.sX;let z20:=Aj u;let z10:List C:=[zi z20,zi m.d.wK,zi m.d.uJ.wK,zi m.d.uJ.low,zi m.d.uJ.high,zi m.d.eJ.kind,zi m.d.eJ.field,.int .u64 m.d.eJ.bits,zi m.d.eJ.len,.str m.d.eJ.text,zi m.d.eJ.code,zi m.d.eJ.aJ,.own 6];let z11:List C:=[zi z20,zi m.d.wK,zi m.d.uJ.wK,zi m.d.uJ.low,zi m.d.uJ.high,zi m.d.eJ.kind,zi m.d.eJ.field,.int .u64 m.d.eJ.bits,zi m.d.eJ.len,.str m.d.eJ.text,zi m.d.eJ.code,zi m.d.eJ.aJ];let z19:=decide (Eb m.d<(if 1>(A3 z20) then 1 else A3 z20));let z21:List Blk:=[.cells (Ac 1 2 4 z14),.tree z14.d.pJ.sQ,.lst .lev z14.d.sJ,.dK,.lst .ev z14.oJ];let z22:S:= .v (vI (A3 z20));let z23:List Blk:=[.cells z8,.tree m.d.pJ.sQ,.lst .lev m.d.sJ,.lst .ev m.oJ];let z24:S:= .v (vI (Eb m.d));let z25:List Blk:=[.cells (Ac 4 5 6 z14),.dK,.dK,.dK,.tree z14.d.pJ.sQ,.lst .lev z14.d.sJ,.lst .ev z14.oJ];let z26:List V:=[vP 0,vI 9,vI m.d.aJ];let z27:List Blk:=[.cells (Ac 1 2 4 z17),.tree z17.d.pJ.sQ,.lst .lev z17.d.sJ,.dK,.lst .ev z17.oJ];let z28:List Blk:=[.cells (Ac 1 2 4 z18),.tree z18.d.pJ.sQ,.lst .lev z18.d.sJ,.dK,.lst .ev z18.oJ];let z29:S:= .tup [vI (B0 u),vI z20,vB (Si u)];let z30:=m.d.sJ[Int.toNat (z16-1)]?;(.sZ [.call [] z29 []] (.br (.sZ [.call [0,1,2,3] (.tup []) z21,.at 0,.cut 0 0,.cut 0 5] (.lJ () [0,1,2,3,5,6,4])) (.br (.sZ [.call [0,1,2,3] (.tup []) z21,.at 0,.cut 0 0,.cut 0 5] (.lJ () [0,1,2,3,5,6,4])) (.intro (Sx z30) fun x1=>let z4:=fieldAt m.d.pJ.sQ x1.mK (B0 u);let z1:=A1 (⟨(⟨m.d.pJ,3,m.d.sJ,z15,m.d.sX,m.d.aJ,(z4.getD fld0),Aj u,m.d.wK,m.d.uJ,m.d.eJ⟩:Dcd),m.oJ⟩:Mac) 9 m.d.aJ;let z2:=A1 (⟨(⟨m.d.pJ,4,m.d.sJ,z15,m.d.sX,m.d.aJ,(z4.getD fld0),Aj u,m.d.wK,m.d.uJ,m.d.eJ⟩:Dcd),m.oJ⟩:Mac) 9 m.d.aJ;let z3:=A1 (⟨(⟨m.d.pJ,5,m.d.sJ,z15,m.d.sX,m.d.aJ,(z4.getD fld0),Aj u,m.d.wK,m.d.uJ,m.d.eJ⟩:Dcd),m.oJ⟩:Mac) 9 m.d.aJ;.sZ [.tree (fr (.two 22 (fr (.one 26 (.one 27 (.first 28 (.done)))) 23 3) 26 (.one 22 (fr (.one 27 (.first 28 (.done))) 23 3))) 0 22) 29 [],.as 56 (.v (vI (z16-1))),.el .lev x1,.call [] (.tup [.agg (Gc (z4.getD fld0)),vB z4.isSome]) [],.at 0,.keep [0,5,7,8],.sel [0,1,2,3,4],.call [] (.tup [.agg (Gc (z4.getD fld0)),vB z4.isSome]) [],.at 0,.keep [0,5,7,8],.sel [0,1,2,3,4],.call [] (.v (vB (D3 z20))) []] (.br (.sZ [.call [0,1,2,3] (.tup []) z27,.at 0,.cut 0 0,.cut 0 5] (.lJ () [0,1,2,3,6,7,5])) (.br (.sZ [.call [] (.v (vB (Dx (z4.getD fld0) z20))) []] (.br (.sZ [.call [0,1,2,3] (.tup []) z28,.at 0,.cut 0 0,.cut 0 5] (.lJ () [0,1,2,3,6,7,5])) (.br (.sZ [.call [] z24 [],.call [] z22 []] (.br (.sZ [.call [0,1,2,3] (.tup []) [.cells (Ac 1 2 4 z1),.tree z1.d.pJ.sQ,.lst .lev z1.d.sJ,.dK,.lst .ev z1.oJ],.at 0,.cut 0 0,.cut 0 5] (.lJ () [0,1,2,3,6,7,5])) (.sZ [.at 0,.cut 0 0,.cut 0 5,.cut 0 27] (.lJ () [0,1,2,3,5,6,7])))) (.br (.sZ [.call [] z24 [],.call [] z22 []] (.br (.sZ [.call [0,1,2,3] (.tup []) [.cells (Ac 1 2 4 z2),.tree z2.d.pJ.sQ,.lst .lev z2.d.sJ,.dK,.lst .ev z2.oJ],.at 0,.cut 0 0,.cut 0 5] (.lJ () [0,1,2,3,6,7,5])) (.sZ [.at 0,.cut 0 0,.cut 0 5,.cut 0 27] (.lJ () [0,1,2,3,5,6,7])))) (.sZ [.call [] z24 [],.call [] z22 []] (.br (.sZ [.call [0,1,2,3] (.tup []) [.cells (Ac 1 2 4 z3),.tree z3.d.pJ.sQ,.lst .lev z3.d.sJ,.dK,.lst .ev z3.oJ],.at 0,.cut 0 0,.cut 0 5] (.lJ () [0,1,2,3,6,7,5])) (.sZ [.at 0,.cut 0 0,.cut 0 5,.cut 0 27] (.lJ () [0,1,2,3,5,6,7])))))))) (.br (.sZ [.call [] z24 [],.call [] z22 []] (.br (.sZ [.call [0,1,2,3] (.tup []) [.cells (Ac 1 2 4 z1),.tree z1.d.pJ.sQ,.lst .lev z1.d.sJ,.dK,.lst .ev z1.oJ],.at 0,.cut 0 0,.cut 0 5] (.lJ () [0,1,2,3,6,7,5])) (.sZ [.at 0,.cut 0 0,.cut 0 5,.cut 0 27] (.lJ () [0,1,2,3,5,6,7])))) (.br (.sZ [.call [] z24 [],.call [] z22 []] (.br (.sZ [.call [0,1,2,3] (.tup []) [.cells (Ac 1 2 4 z2),.tree z2.d.pJ.sQ,.lst .lev z2.d.sJ,.dK,.lst .ev z2.oJ],.at 0,.cut 0 0,.cut 0 5] (.lJ () [0,1,2,3,6,7,5])) (.sZ [.at 0,.cut 0 0,.cut 0 5,.cut 0 27] (.lJ () [0,1,2,3,5,6,7])))) (.sZ [.call [] z24 [],.call [] z22 []] (.br (.sZ [.call [0,1,2,3] (.tup []) [.cells (Ac 1 2 4 z3),.tree z3.d.pJ.sQ,.lst .lev z3.d.sJ,.dK,.lst .ev z3.oJ],.at 0,.cut 0 0,.cut 0 5] (.lJ () [0,1,2,3,6,7,5])) (.sZ [.at 0,.cut 0 0,.cut 0 5,.cut 0 27] (.lJ () [0,1,2,3,5,6,7]))))))))))),(Fp 216 [.c (.int .u64 u)] [] z29 [])∧Bc (!(Si u)) ((Fp 52 [vP 0,vI 2,vI m.d.sX] z23 (.tup []) z21)∧Lf (.tup []) (.tup []) z25 z13) (Bc (decide (z16=0)) ((Fp 52 [vP 0,vI 2,vI m.d.sX] z23 (.tup []) z21)∧Lf (.tup []) (.tup []) z25 z13) (El z30 fun x1=>(let z6:=fieldAt m.d.pJ.sQ x1.mK (B0 u);let z5:=z6.getD fld0;let z7:=m.d.sJ[Int.toNat (z16-1)]? =some x1;(wI (z16-1))∧(wI (z16-1))∧(z16-1<z16)∧((0:Int)≤z16-1)∧(z16-1<z16)∧((0:Int)≤z16-1)∧z7∧z7∧(Fp 165 [.agg [.seq .shp m.d.pJ.sQ],vI x1.mK,vI (B0 u)] [] (.tup [.agg (Gc z5),vB z6.isSome]) [])∧(Fp 165 [.agg [.seq .shp m.d.pJ.sQ],vI x1.mK,vI (B0 u)] [] (.tup [.agg (Gc z5),vB z6.isSome]) [])∧(([.cells z8,.tree m.d.pJ.sQ,.lst .lev m.d.sJ,.lst .ev m.oJ,.cells (Gc z5)]:List Blk)=[.cells z8,.tree m.d.pJ.sQ,.lst .lev m.d.sJ,.lst .ev m.oJ,.cells (Gc z5)])∧(([(0,.v (vP 0)),(5,.v (vI z20)),(7,.v (vP 4)),(8,.v (vB z6.isSome))]:List (Nat×S))=[(0,.v (vP 0)),(5,.v (vI z20)),(7,.v (vP 4)),(8,.v (vB z6.isSome))])∧(Fp 104 [vI z20] [] (.v (vB (D3 z20))) [])∧Bc (!(D3 z20)) ((Fp 52 [vP 0,vI 3,vI m.d.sX] z23 (.tup []) z27)∧Lf (.tup []) (.tup []) [.cells (Ac 4 5 6 z17),.dK,.dK,.dK,.tree z17.d.pJ.sQ,.lst .lev z17.d.sJ,.lst .ev z17.oJ] z13) (Bc (z6.isSome) ((Fp 170 [.agg (Gc z5),vI z20] [] (.v (vB (Dx z5 z20))) [])∧Bc (!(Dx z5 z20)) ((Fp 52 [vP 0,vI 4,vI m.d.sX] z23 (.tup []) z28)∧Lf (.tup []) (.tup []) [.cells (Ac 4 5 6 z18),.dK,.dK,.dK,.tree z18.d.pJ.sQ,.lst .lev z18.d.sJ,.lst .ev z18.oJ] z13) (Bc (decide (Aj u=0)) ((Fp 108 [.agg (.seq .shp m.d.pJ.sQ::zi m.d.pJ.rJ::zi m.d.pJ.dJ::zi m.d.pJ.most::zi 3:: .seq .lev m.d.sJ:: .int .u64 0::zi 0::zi m.d.sX::zi m.d.aJ::zi z5.nJ::zi z5.kind:: .bool z5.rep:: .bool z5.packed::zi z5.mK::z11)] [] z24 [])∧(Fp 171 [vI z20] [] z22 [])∧Bc z19 ((Fp 52 z26 [.cells (.own 1::zi m.d.pJ.rJ::zi m.d.pJ.dJ::zi m.d.pJ.most::zi 3:: .own 2:: .int .u64 0::zi 0::zi m.d.sX::zi m.d.aJ::zi z5.nJ::zi z5.kind:: .bool z5.rep:: .bool z5.packed::zi z5.mK::zi z20::z9),.tree m.d.pJ.sQ,.lst .lev m.d.sJ,.lst .ev m.oJ] (.tup []) [.cells (Ac 1 2 4 (A1 (⟨(⟨m.d.pJ,3,m.d.sJ,z15,m.d.sX,m.d.aJ,z5,Aj u,m.d.wK,m.d.uJ,m.d.eJ⟩:Dcd),m.oJ⟩:Mac) 9 m.d.aJ)),.tree (A1 (⟨(⟨m.d.pJ,3,m.d.sJ,z15,m.d.sX,m.d.aJ,z5,Aj u,m.d.wK,m.d.uJ,m.d.eJ⟩:Dcd),m.oJ⟩:Mac) 9 m.d.aJ).d.pJ.sQ,.lst .lev (A1 (⟨(⟨m.d.pJ,3,m.d.sJ,z15,m.d.sX,m.d.aJ,z5,Aj u,m.d.wK,m.d.uJ,m.d.eJ⟩:Dcd),m.oJ⟩:Mac) 9 m.d.aJ).d.sJ,.dK,.lst .ev (A1 (⟨(⟨m.d.pJ,3,m.d.sJ,z15,m.d.sX,m.d.aJ,z5,Aj u,m.d.wK,m.d.uJ,m.d.eJ⟩:Dcd),m.oJ⟩:Mac) 9 m.d.aJ).oJ])∧Lf (.tup []) (.tup []) [.cells (Ac 4 5 6 (A1 (⟨(⟨m.d.pJ,3,m.d.sJ,z15,m.d.sX,m.d.aJ,z5,Aj u,m.d.wK,m.d.uJ,m.d.eJ⟩:Dcd),m.oJ⟩:Mac) 9 m.d.aJ)),.dK,.dK,.dK,.tree (A1 (⟨(⟨m.d.pJ,3,m.d.sJ,z15,m.d.sX,m.d.aJ,z5,Aj u,m.d.wK,m.d.uJ,m.d.eJ⟩:Dcd),m.oJ⟩:Mac) 9 m.d.aJ).d.pJ.sQ,.lst .lev (A1 (⟨(⟨m.d.pJ,3,m.d.sJ,z15,m.d.sX,m.d.aJ,z5,Aj u,m.d.wK,m.d.uJ,m.d.eJ⟩:Dcd),m.oJ⟩:Mac) 9 m.d.aJ).d.sJ,.lst .ev (A1 (⟨(⟨m.d.pJ,3,m.d.sJ,z15,m.d.sX,m.d.aJ,z5,Aj u,m.d.wK,m.d.uJ,m.d.eJ⟩:Dcd),m.oJ⟩:Mac) 9 m.d.aJ).oJ] z13) (Lf (.tup []) (.tup []) [.cells (.own 4::zi m.d.pJ.rJ::zi m.d.pJ.dJ::zi m.d.pJ.most::zi 3:: .own 5:: .int .u64 0::zi 0::zi m.d.sX::zi m.d.aJ::zi z5.nJ::zi z5.kind:: .bool z5.rep:: .bool z5.packed::zi z5.mK::z10),.dK,.dK,.dK,.tree m.d.pJ.sQ,.lst .lev m.d.sJ,.lst .ev m.oJ] z13)) (Bc (decide (Aj u=2)) ((Fp 108 [.agg (.seq .shp m.d.pJ.sQ::zi m.d.pJ.rJ::zi m.d.pJ.dJ::zi m.d.pJ.most::zi 4:: .seq .lev m.d.sJ:: .int .u64 0::zi 0::zi m.d.sX::zi m.d.aJ::zi z5.nJ::zi z5.kind:: .bool z5.rep:: .bool z5.packed::zi z5.mK::z11)] [] z24 [])∧(Fp 171 [vI z20] [] z22 [])∧Bc z19 ((Fp 52 z26 [.cells (.own 1::zi m.d.pJ.rJ::zi m.d.pJ.dJ::zi m.d.pJ.most::zi 4:: .own 2:: .int .u64 0::zi 0::zi m.d.sX::zi m.d.aJ::zi z5.nJ::zi z5.kind:: .bool z5.rep:: .bool z5.packed::zi z5.mK::zi z20::z9),.tree m.d.pJ.sQ,.lst .lev m.d.sJ,.lst .ev m.oJ] (.tup []) [.cells (Ac 1 2 4 (A1 (⟨(⟨m.d.pJ,4,m.d.sJ,z15,m.d.sX,m.d.aJ,z5,Aj u,m.d.wK,m.d.uJ,m.d.eJ⟩:Dcd),m.oJ⟩:Mac) 9 m.d.aJ)),.tree (A1 (⟨(⟨m.d.pJ,4,m.d.sJ,z15,m.d.sX,m.d.aJ,z5,Aj u,m.d.wK,m.d.uJ,m.d.eJ⟩:Dcd),m.oJ⟩:Mac) 9 m.d.aJ).d.pJ.sQ,.lst .lev (A1 (⟨(⟨m.d.pJ,4,m.d.sJ,z15,m.d.sX,m.d.aJ,z5,Aj u,m.d.wK,m.d.uJ,m.d.eJ⟩:Dcd),m.oJ⟩:Mac) 9 m.d.aJ).d.sJ,.dK,.lst .ev (A1 (⟨(⟨m.d.pJ,4,m.d.sJ,z15,m.d.sX,m.d.aJ,z5,Aj u,m.d.wK,m.d.uJ,m.d.eJ⟩:Dcd),m.oJ⟩:Mac) 9 m.d.aJ).oJ])∧Lf (.tup []) (.tup []) [.cells (Ac 4 5 6 (A1 (⟨(⟨m.d.pJ,4,m.d.sJ,z15,m.d.sX,m.d.aJ,z5,Aj u,m.d.wK,m.d.uJ,m.d.eJ⟩:Dcd),m.oJ⟩:Mac) 9 m.d.aJ)),.dK,.dK,.dK,.tree (A1 (⟨(⟨m.d.pJ,4,m.d.sJ,z15,m.d.sX,m.d.aJ,z5,Aj u,m.d.wK,m.d.uJ,m.d.eJ⟩:Dcd),m.oJ⟩:Mac) 9 m.d.aJ).d.pJ.sQ,.lst .lev (A1 (⟨(⟨m.d.pJ,4,m.d.sJ,z15,m.d.sX,m.d.aJ,z5,Aj u,m.d.wK,m.d.uJ,m.d.eJ⟩:Dcd),m.oJ⟩:Mac) 9 m.d.aJ).d.sJ,.lst .ev (A1 (⟨(⟨m.d.pJ,4,m.d.sJ,z15,m.d.sX,m.d.aJ,z5,Aj u,m.d.wK,m.d.uJ,m.d.eJ⟩:Dcd),m.oJ⟩:Mac) 9 m.d.aJ).oJ] z13) (Lf (.tup []) (.tup []) [.cells (.own 4::zi m.d.pJ.rJ::zi m.d.pJ.dJ::zi m.d.pJ.most::zi 4:: .own 5:: .int .u64 0::zi 0::zi m.d.sX::zi m.d.aJ::zi z5.nJ::zi z5.kind:: .bool z5.rep:: .bool z5.packed::zi z5.mK::z10),.dK,.dK,.dK,.tree m.d.pJ.sQ,.lst .lev m.d.sJ,.lst .ev m.oJ] z13)) ((Fp 108 [.agg (.seq .shp m.d.pJ.sQ::zi m.d.pJ.rJ::zi m.d.pJ.dJ::zi m.d.pJ.most::zi 5:: .seq .lev m.d.sJ:: .int .u64 0::zi 0::zi m.d.sX::zi m.d.aJ::zi z5.nJ::zi z5.kind:: .bool z5.rep:: .bool z5.packed::zi z5.mK::z11)] [] z24 [])∧(Fp 171 [vI z20] [] z22 [])∧Bc z19 ((Fp 52 z26 [.cells (.own 1::zi m.d.pJ.rJ::zi m.d.pJ.dJ::zi m.d.pJ.most::zi 5:: .own 2:: .int .u64 0::zi 0::zi m.d.sX::zi m.d.aJ::zi z5.nJ::zi z5.kind:: .bool z5.rep:: .bool z5.packed::zi z5.mK::zi z20::z9),.tree m.d.pJ.sQ,.lst .lev m.d.sJ,.lst .ev m.oJ] (.tup []) [.cells (Ac 1 2 4 (A1 (⟨(⟨m.d.pJ,5,m.d.sJ,z15,m.d.sX,m.d.aJ,z5,Aj u,m.d.wK,m.d.uJ,m.d.eJ⟩:Dcd),m.oJ⟩:Mac) 9 m.d.aJ)),.tree (A1 (⟨(⟨m.d.pJ,5,m.d.sJ,z15,m.d.sX,m.d.aJ,z5,Aj u,m.d.wK,m.d.uJ,m.d.eJ⟩:Dcd),m.oJ⟩:Mac) 9 m.d.aJ).d.pJ.sQ,.lst .lev (A1 (⟨(⟨m.d.pJ,5,m.d.sJ,z15,m.d.sX,m.d.aJ,z5,Aj u,m.d.wK,m.d.uJ,m.d.eJ⟩:Dcd),m.oJ⟩:Mac) 9 m.d.aJ).d.sJ,.dK,.lst .ev (A1 (⟨(⟨m.d.pJ,5,m.d.sJ,z15,m.d.sX,m.d.aJ,z5,Aj u,m.d.wK,m.d.uJ,m.d.eJ⟩:Dcd),m.oJ⟩:Mac) 9 m.d.aJ).oJ])∧Lf (.tup []) (.tup []) [.cells (Ac 4 5 6 (A1 (⟨(⟨m.d.pJ,5,m.d.sJ,z15,m.d.sX,m.d.aJ,z5,Aj u,m.d.wK,m.d.uJ,m.d.eJ⟩:Dcd),m.oJ⟩:Mac) 9 m.d.aJ)),.dK,.dK,.dK,.tree (A1 (⟨(⟨m.d.pJ,5,m.d.sJ,z15,m.d.sX,m.d.aJ,z5,Aj u,m.d.wK,m.d.uJ,m.d.eJ⟩:Dcd),m.oJ⟩:Mac) 9 m.d.aJ).d.pJ.sQ,.lst .lev (A1 (⟨(⟨m.d.pJ,5,m.d.sJ,z15,m.d.sX,m.d.aJ,z5,Aj u,m.d.wK,m.d.uJ,m.d.eJ⟩:Dcd),m.oJ⟩:Mac) 9 m.d.aJ).d.sJ,.lst .ev (A1 (⟨(⟨m.d.pJ,5,m.d.sJ,z15,m.d.sX,m.d.aJ,z5,Aj u,m.d.wK,m.d.uJ,m.d.eJ⟩:Dcd),m.oJ⟩:Mac) 9 m.d.aJ).oJ] z13) (Lf (.tup []) (.tup []) [.cells (.own 4::zi m.d.pJ.rJ::zi m.d.pJ.dJ::zi m.d.pJ.most::zi 5:: .own 5:: .int .u64 0::zi 0::zi m.d.sX::zi m.d.aJ::zi z5.nJ::zi z5.kind:: .bool z5.rep:: .bool z5.packed::zi z5.mK::z10),.dK,.dK,.dK,.tree m.d.pJ.sQ,.lst .lev m.d.sJ,.lst .ev m.oJ] z13))))) (Bc (decide (Aj u=0)) ((Fp 108 [.agg (.seq .shp m.d.pJ.sQ::zi m.d.pJ.rJ::zi m.d.pJ.dJ::zi m.d.pJ.most::zi 3:: .seq .lev m.d.sJ:: .int .u64 0::zi 0::zi m.d.sX::zi m.d.aJ::zi z5.nJ::zi z5.kind:: .bool z5.rep:: .bool z5.packed::zi z5.mK::z11)] [] z24 [])∧(Fp 171 [vI z20] [] z22 [])∧Bc z19 ((Fp 52 z26 [.cells (.own 1::zi m.d.pJ.rJ::zi m.d.pJ.dJ::zi m.d.pJ.most::zi 3:: .own 2:: .int .u64 0::zi 0::zi m.d.sX::zi m.d.aJ::zi z5.nJ::zi z5.kind:: .bool z5.rep:: .bool z5.packed::zi z5.mK::zi z20::z9),.tree m.d.pJ.sQ,.lst .lev m.d.sJ,.lst .ev m.oJ] (.tup []) [.cells (Ac 1 2 4 (A1 (⟨(⟨m.d.pJ,3,m.d.sJ,z15,m.d.sX,m.d.aJ,z5,Aj u,m.d.wK,m.d.uJ,m.d.eJ⟩:Dcd),m.oJ⟩:Mac) 9 m.d.aJ)),.tree (A1 (⟨(⟨m.d.pJ,3,m.d.sJ,z15,m.d.sX,m.d.aJ,z5,Aj u,m.d.wK,m.d.uJ,m.d.eJ⟩:Dcd),m.oJ⟩:Mac) 9 m.d.aJ).d.pJ.sQ,.lst .lev (A1 (⟨(⟨m.d.pJ,3,m.d.sJ,z15,m.d.sX,m.d.aJ,z5,Aj u,m.d.wK,m.d.uJ,m.d.eJ⟩:Dcd),m.oJ⟩:Mac) 9 m.d.aJ).d.sJ,.dK,.lst .ev (A1 (⟨(⟨m.d.pJ,3,m.d.sJ,z15,m.d.sX,m.d.aJ,z5,Aj u,m.d.wK,m.d.uJ,m.d.eJ⟩:Dcd),m.oJ⟩:Mac) 9 m.d.aJ).oJ])∧Lf (.tup []) (.tup []) [.cells (Ac 4 5 6 (A1 (⟨(⟨m.d.pJ,3,m.d.sJ,z15,m.d.sX,m.d.aJ,z5,Aj u,m.d.wK,m.d.uJ,m.d.eJ⟩:Dcd),m.oJ⟩:Mac) 9 m.d.aJ)),.dK,.dK,.dK,.tree (A1 (⟨(⟨m.d.pJ,3,m.d.sJ,z15,m.d.sX,m.d.aJ,z5,Aj u,m.d.wK,m.d.uJ,m.d.eJ⟩:Dcd),m.oJ⟩:Mac) 9 m.d.aJ).d.pJ.sQ,.lst .lev (A1 (⟨(⟨m.d.pJ,3,m.d.sJ,z15,m.d.sX,m.d.aJ,z5,Aj u,m.d.wK,m.d.uJ,m.d.eJ⟩:Dcd),m.oJ⟩:Mac) 9 m.d.aJ).d.sJ,.lst .ev (A1 (⟨(⟨m.d.pJ,3,m.d.sJ,z15,m.d.sX,m.d.aJ,z5,Aj u,m.d.wK,m.d.uJ,m.d.eJ⟩:Dcd),m.oJ⟩:Mac) 9 m.d.aJ).oJ] z13) (Lf (.tup []) (.tup []) [.cells (.own 4::zi m.d.pJ.rJ::zi m.d.pJ.dJ::zi m.d.pJ.most::zi 3:: .own 5:: .int .u64 0::zi 0::zi m.d.sX::zi m.d.aJ::zi z5.nJ::zi z5.kind:: .bool z5.rep:: .bool z5.packed::zi z5.mK::z10),.dK,.dK,.dK,.tree m.d.pJ.sQ,.lst .lev m.d.sJ,.lst .ev m.oJ] z13)) (Bc (decide (Aj u=2)) ((Fp 108 [.agg (.seq .shp m.d.pJ.sQ::zi m.d.pJ.rJ::zi m.d.pJ.dJ::zi m.d.pJ.most::zi 4:: .seq .lev m.d.sJ:: .int .u64 0::zi 0::zi m.d.sX::zi m.d.aJ::zi z5.nJ::zi z5.kind:: .bool z5.rep:: .bool z5.packed::zi z5.mK::z11)] [] z24 [])∧(Fp 171 [vI z20] [] z22 [])∧Bc z19 ((Fp 52 z26 [.cells (.own 1::zi m.d.pJ.rJ::zi m.d.pJ.dJ::zi m.d.pJ.most::zi 4:: .own 2:: .int .u64 0::zi 0::zi m.d.sX::zi m.d.aJ::zi z5.nJ::zi z5.kind:: .bool z5.rep:: .bool z5.packed::zi z5.mK::zi z20::z9),.tree m.d.pJ.sQ,.lst .lev m.d.sJ,.lst .ev m.oJ] (.tup []) [.cells (Ac 1 2 4 (A1 (⟨(⟨m.d.pJ,4,m.d.sJ,z15,m.d.sX,m.d.aJ,z5,Aj u,m.d.wK,m.d.uJ,m.d.eJ⟩:Dcd),m.oJ⟩:Mac) 9 m.d.aJ)),.tree (A1 (⟨(⟨m.d.pJ,4,m.d.sJ,z15,m.d.sX,m.d.aJ,z5,Aj u,m.d.wK,m.d.uJ,m.d.eJ⟩:Dcd),m.oJ⟩:Mac) 9 m.d.aJ).d.pJ.sQ,.lst .lev (A1 (⟨(⟨m.d.pJ,4,m.d.sJ,z15,m.d.sX,m.d.aJ,z5,Aj u,m.d.wK,m.d.uJ,m.d.eJ⟩:Dcd),m.oJ⟩:Mac) 9 m.d.aJ).d.sJ,.dK,.lst .ev (A1 (⟨(⟨m.d.pJ,4,m.d.sJ,z15,m.d.sX,m.d.aJ,z5,Aj u,m.d.wK,m.d.uJ,m.d.eJ⟩:Dcd),m.oJ⟩:Mac) 9 m.d.aJ).oJ])∧Lf (.tup []) (.tup []) [.cells (Ac 4 5 6 (A1 (⟨(⟨m.d.pJ,4,m.d.sJ,z15,m.d.sX,m.d.aJ,z5,Aj u,m.d.wK,m.d.uJ,m.d.eJ⟩:Dcd),m.oJ⟩:Mac) 9 m.d.aJ)),.dK,.dK,.dK,.tree (A1 (⟨(⟨m.d.pJ,4,m.d.sJ,z15,m.d.sX,m.d.aJ,z5,Aj u,m.d.wK,m.d.uJ,m.d.eJ⟩:Dcd),m.oJ⟩:Mac) 9 m.d.aJ).d.pJ.sQ,.lst .lev (A1 (⟨(⟨m.d.pJ,4,m.d.sJ,z15,m.d.sX,m.d.aJ,z5,Aj u,m.d.wK,m.d.uJ,m.d.eJ⟩:Dcd),m.oJ⟩:Mac) 9 m.d.aJ).d.sJ,.lst .ev (A1 (⟨(⟨m.d.pJ,4,m.d.sJ,z15,m.d.sX,m.d.aJ,z5,Aj u,m.d.wK,m.d.uJ,m.d.eJ⟩:Dcd),m.oJ⟩:Mac) 9 m.d.aJ).oJ] z13) (Lf (.tup []) (.tup []) [.cells (.own 4::zi m.d.pJ.rJ::zi m.d.pJ.dJ::zi m.d.pJ.most::zi 4:: .own 5:: .int .u64 0::zi 0::zi m.d.sX::zi m.d.aJ::zi z5.nJ::zi z5.kind:: .bool z5.rep:: .bool z5.packed::zi z5.mK::z10),.dK,.dK,.dK,.tree m.d.pJ.sQ,.lst .lev m.d.sJ,.lst .ev m.oJ] z13)) ((Fp 108 [.agg (.seq .shp m.d.pJ.sQ::zi m.d.pJ.rJ::zi m.d.pJ.dJ::zi m.d.pJ.most::zi 5:: .seq .lev m.d.sJ:: .int .u64 0::zi 0::zi m.d.sX::zi m.d.aJ::zi z5.nJ::zi z5.kind:: .bool z5.rep:: .bool z5.packed::zi z5.mK::z11)] [] z24 [])∧(Fp 171 [vI z20] [] z22 [])∧Bc z19 ((Fp 52 z26 [.cells (.own 1::zi m.d.pJ.rJ::zi m.d.pJ.dJ::zi m.d.pJ.most::zi 5:: .own 2:: .int .u64 0::zi 0::zi m.d.sX::zi m.d.aJ::zi z5.nJ::zi z5.kind:: .bool z5.rep:: .bool z5.packed::zi z5.mK::zi z20::z9),.tree m.d.pJ.sQ,.lst .lev m.d.sJ,.lst .ev m.oJ] (.tup []) [.cells (Ac 1 2 4 (A1 (⟨(⟨m.d.pJ,5,m.d.sJ,z15,m.d.sX,m.d.aJ,z5,Aj u,m.d.wK,m.d.uJ,m.d.eJ⟩:Dcd),m.oJ⟩:Mac) 9 m.d.aJ)),.tree (A1 (⟨(⟨m.d.pJ,5,m.d.sJ,z15,m.d.sX,m.d.aJ,z5,Aj u,m.d.wK,m.d.uJ,m.d.eJ⟩:Dcd),m.oJ⟩:Mac) 9 m.d.aJ).d.pJ.sQ,.lst .lev (A1 (⟨(⟨m.d.pJ,5,m.d.sJ,z15,m.d.sX,m.d.aJ,z5,Aj u,m.d.wK,m.d.uJ,m.d.eJ⟩:Dcd),m.oJ⟩:Mac) 9 m.d.aJ).d.sJ,.dK,.lst .ev (A1 (⟨(⟨m.d.pJ,5,m.d.sJ,z15,m.d.sX,m.d.aJ,z5,Aj u,m.d.wK,m.d.uJ,m.d.eJ⟩:Dcd),m.oJ⟩:Mac) 9 m.d.aJ).oJ])∧Lf (.tup []) (.tup []) [.cells (Ac 4 5 6 (A1 (⟨(⟨m.d.pJ,5,m.d.sJ,z15,m.d.sX,m.d.aJ,z5,Aj u,m.d.wK,m.d.uJ,m.d.eJ⟩:Dcd),m.oJ⟩:Mac) 9 m.d.aJ)),.dK,.dK,.dK,.tree (A1 (⟨(⟨m.d.pJ,5,m.d.sJ,z15,m.d.sX,m.d.aJ,z5,Aj u,m.d.wK,m.d.uJ,m.d.eJ⟩:Dcd),m.oJ⟩:Mac) 9 m.d.aJ).d.pJ.sQ,.lst .lev (A1 (⟨(⟨m.d.pJ,5,m.d.sJ,z15,m.d.sX,m.d.aJ,z5,Aj u,m.d.wK,m.d.uJ,m.d.eJ⟩:Dcd),m.oJ⟩:Mac) 9 m.d.aJ).d.sJ,.lst .ev (A1 (⟨(⟨m.d.pJ,5,m.d.sJ,z15,m.d.sX,m.d.aJ,z5,Aj u,m.d.wK,m.d.uJ,m.d.eJ⟩:Dcd),m.oJ⟩:Mac) 9 m.d.aJ).oJ] z13) (Lf (.tup []) (.tup []) [.cells (.own 4::zi m.d.pJ.rJ::zi m.d.pJ.dJ::zi m.d.pJ.most::zi 5:: .own 5:: .int .u64 0::zi 0::zi m.d.sX::zi m.d.aJ::zi z5.nJ::zi z5.kind:: .bool z5.rep:: .bool z5.packed::zi z5.mK::z10),.dK,.dK,.dK,.tree m.d.pJ.sQ,.lst .lev m.d.sJ,.lst .ev m.oJ] z13)))))))))) Q4 ?_
 refine⟨(Ano _ Q2),fun h1=>have q1:=An h1;?_,fun h1=>have q1:=Am h1;?_⟩
 exact zE (Ex m u) (A1 (⟨(⟨m.d.pJ,m.d.mJ,m.d.sJ,(⟨0,0⟩:Scn),m.d.sX,m.d.aJ,m.d.field,m.d.wJ,m.d.wK,m.d.uJ,m.d.eJ⟩:Dcd),m.oJ⟩:Mac) 2 m.d.sX) (fun hm1=>⟨(Ck (⟨(⟨m.d.pJ,m.d.mJ,m.d.sJ,(⟨0,0⟩:Scn),m.d.sX,m.d.aJ,m.d.field,m.d.wJ,m.d.wK,m.d.uJ,m.d.eJ⟩:Dcd),m.oJ⟩:Mac) _ _ Q7),rfl,Q6⟩) W38
 refine dsp (fun h2 p2=>?_) fun h2 p2=>?_
 exact zE (Ex m u) (A1 (⟨(⟨m.d.pJ,m.d.mJ,m.d.sJ,(⟨0,0⟩:Scn),m.d.sX,m.d.aJ,m.d.field,m.d.wJ,m.d.wK,m.d.uJ,m.d.eJ⟩:Dcd),m.oJ⟩:Mac) 2 m.d.sX) (fun hm1=>⟨(Ck (⟨(⟨m.d.pJ,m.d.mJ,m.d.sJ,(⟨0,0⟩:Scn),m.d.sX,m.d.aJ,m.d.field,m.d.wJ,m.d.wK,m.d.uJ,m.d.eJ⟩:Dcd),m.oJ⟩:Mac) _ _ Q7),rfl,Q6⟩) W38
 refine⟨(Bo (l:=m.d.sJ) (i:=Int.toNat (((m.d.sJ.length:Nat):Int)-1)) Q2),fun x1 hx1=>?_⟩
 have hll:=Ka (d:=m.d) (by rw[←hx1];congr 1;omega)
 have hix:Int.toNat ((m.d.sJ.length:Int)-1)=m.d.sJ.length-1:=by omega
 refine⟨(Ad Q2 Q2),(Ad Q2 Q2),Q2,Q2,Q2,Q2,hx1,hx1,(Xk m.d.pJ.sQ _ _ Q2 (Ea hpt.2.1)),(Xk m.d.pJ.sQ _ _ Q2 (Ea hpt.2.1)),rfl,rfl,(Aea _),fun h3=>have q3:=An h3;?_,fun h3=>have q3:=Am h3;?_⟩
 exact zE (Ex m u) (A1 (⟨(⟨m.d.pJ,m.d.mJ,m.d.sJ,(⟨0,0⟩:Scn),m.d.sX,m.d.aJ,m.d.field,m.d.wJ,m.d.wK,m.d.uJ,m.d.eJ⟩:Dcd),m.oJ⟩:Mac) 3 m.d.sX) (fun hm1=>⟨(Ck (⟨(⟨m.d.pJ,m.d.mJ,m.d.sJ,(⟨0,0⟩:Scn),m.d.sX,m.d.aJ,m.d.field,m.d.wJ,m.d.wK,m.d.uJ,m.d.eJ⟩:Dcd),m.oJ⟩:Mac) _ _ Q7),rfl,Q6⟩) W38
 refine⟨fun h4=>?_,fun h4=>?_⟩
 refine⟨(K9 ((fieldAt m.d.pJ.sQ x1.mK (B0 u)).getD fld0) _ Q2),fun h5=>have q5:=An h5;?_,fun h5=>have q5:=Am h5;?_⟩
 exact zE (Ex m u) (A1 (⟨(⟨m.d.pJ,m.d.mJ,m.d.sJ,(⟨0,0⟩:Scn),m.d.sX,m.d.aJ,m.d.field,m.d.wJ,m.d.wK,m.d.uJ,m.d.eJ⟩:Dcd),m.oJ⟩:Mac) 4 m.d.sX) (fun hm1=>⟨(Ck (⟨(⟨m.d.pJ,m.d.mJ,m.d.sJ,(⟨0,0⟩:Scn),m.d.sX,m.d.aJ,m.d.field,m.d.wJ,m.d.wK,m.d.uJ,m.d.eJ⟩:Dcd),m.oJ⟩:Mac) _ _ Q7),rfl,Q6⟩) W38
 refine dsp (fun h6 p6=>?_) fun h6 p6=>?_
 refine⟨(Eg (⟨m.d.pJ,3,m.d.sJ,(⟨0,0⟩:Scn),m.d.sX,m.d.aJ,((fieldAt m.d.pJ.sQ x1.mK (B0 u)).getD fld0),Aj u,m.d.wK,m.d.uJ,m.d.eJ⟩:Dcd) Q7),(Fr _),dsp (fun h7 p7=>?_) fun h7 p7=>?_⟩
 exact zE (Ex m u) (A1 (⟨(⟨m.d.pJ,3,m.d.sJ,(⟨0,0⟩:Scn),m.d.sX,m.d.aJ,((fieldAt m.d.pJ.sQ x1.mK (B0 u)).getD fld0),Aj u,m.d.wK,m.d.uJ,m.d.eJ⟩:Dcd),m.oJ⟩:Mac) 9 m.d.aJ) (fun hm1=>⟨(Ck (⟨(⟨m.d.pJ,3,m.d.sJ,(⟨0,0⟩:Scn),m.d.sX,m.d.aJ,((fieldAt m.d.pJ.sQ x1.mK (B0 u)).getD fld0),Aj u,m.d.wK,m.d.uJ,m.d.eJ⟩:Dcd),m.oJ⟩:Mac) _ _ Q7),rfl,Q6⟩) W38
 exact zE (Ex m u) (⟨(⟨m.d.pJ,3,m.d.sJ,(⟨0,0⟩:Scn),m.d.sX,m.d.aJ,((fieldAt m.d.pJ.sQ x1.mK (B0 u)).getD fld0),Aj u,m.d.wK,m.d.uJ,m.d.eJ⟩:Dcd),m.oJ⟩:Mac) (fun hm1=>⟨rfl,Q6⟩) W38
 refine dsp (fun h7 p7=>?_) fun h7 p7=>?_
 refine⟨(Eg (⟨m.d.pJ,4,m.d.sJ,(⟨0,0⟩:Scn),m.d.sX,m.d.aJ,((fieldAt m.d.pJ.sQ x1.mK (B0 u)).getD fld0),Aj u,m.d.wK,m.d.uJ,m.d.eJ⟩:Dcd) Q7),(Fr _),dsp (fun h8 p8=>?_) fun h8 p8=>?_⟩
 exact zE (Ex m u) (A1 (⟨(⟨m.d.pJ,4,m.d.sJ,(⟨0,0⟩:Scn),m.d.sX,m.d.aJ,((fieldAt m.d.pJ.sQ x1.mK (B0 u)).getD fld0),Aj u,m.d.wK,m.d.uJ,m.d.eJ⟩:Dcd),m.oJ⟩:Mac) 9 m.d.aJ) (fun hm1=>⟨(Ck (⟨(⟨m.d.pJ,4,m.d.sJ,(⟨0,0⟩:Scn),m.d.sX,m.d.aJ,((fieldAt m.d.pJ.sQ x1.mK (B0 u)).getD fld0),Aj u,m.d.wK,m.d.uJ,m.d.eJ⟩:Dcd),m.oJ⟩:Mac) _ _ Q7),rfl,Q6⟩) W38
 exact zE (Ex m u) (⟨(⟨m.d.pJ,4,m.d.sJ,(⟨0,0⟩:Scn),m.d.sX,m.d.aJ,((fieldAt m.d.pJ.sQ x1.mK (B0 u)).getD fld0),Aj u,m.d.wK,m.d.uJ,m.d.eJ⟩:Dcd),m.oJ⟩:Mac) (fun hm1=>⟨rfl,Q6⟩) W38
 refine⟨(Eg (⟨m.d.pJ,5,m.d.sJ,(⟨0,0⟩:Scn),m.d.sX,m.d.aJ,((fieldAt m.d.pJ.sQ x1.mK (B0 u)).getD fld0),Aj u,m.d.wK,m.d.uJ,m.d.eJ⟩:Dcd) Q7),(Fr _),dsp (fun h8 p8=>?_) fun h8 p8=>?_⟩
 exact zE (Ex m u) (A1 (⟨(⟨m.d.pJ,5,m.d.sJ,(⟨0,0⟩:Scn),m.d.sX,m.d.aJ,((fieldAt m.d.pJ.sQ x1.mK (B0 u)).getD fld0),Aj u,m.d.wK,m.d.uJ,m.d.eJ⟩:Dcd),m.oJ⟩:Mac) 9 m.d.aJ) (fun hm1=>⟨(Ck (⟨(⟨m.d.pJ,5,m.d.sJ,(⟨0,0⟩:Scn),m.d.sX,m.d.aJ,((fieldAt m.d.pJ.sQ x1.mK (B0 u)).getD fld0),Aj u,m.d.wK,m.d.uJ,m.d.eJ⟩:Dcd),m.oJ⟩:Mac) _ _ Q7),rfl,Q6⟩) W38
 exact zE (Ex m u) (⟨(⟨m.d.pJ,5,m.d.sJ,(⟨0,0⟩:Scn),m.d.sX,m.d.aJ,((fieldAt m.d.pJ.sQ x1.mK (B0 u)).getD fld0),Aj u,m.d.wK,m.d.uJ,m.d.eJ⟩:Dcd),m.oJ⟩:Mac) (fun hm1=>⟨rfl,Q6⟩) W38
 refine dsp (fun h5 p5=>?_) fun h5 p5=>?_
 refine⟨(Eg (⟨m.d.pJ,3,m.d.sJ,(⟨0,0⟩:Scn),m.d.sX,m.d.aJ,((fieldAt m.d.pJ.sQ x1.mK (B0 u)).getD fld0),Aj u,m.d.wK,m.d.uJ,m.d.eJ⟩:Dcd) Q7),(Fr _),dsp (fun h6 p6=>?_) fun h6 p6=>?_⟩
 exact zE (Ex m u) (A1 (⟨(⟨m.d.pJ,3,m.d.sJ,(⟨0,0⟩:Scn),m.d.sX,m.d.aJ,((fieldAt m.d.pJ.sQ x1.mK (B0 u)).getD fld0),Aj u,m.d.wK,m.d.uJ,m.d.eJ⟩:Dcd),m.oJ⟩:Mac) 9 m.d.aJ) (fun hm1=>⟨(Ck (⟨(⟨m.d.pJ,3,m.d.sJ,(⟨0,0⟩:Scn),m.d.sX,m.d.aJ,((fieldAt m.d.pJ.sQ x1.mK (B0 u)).getD fld0),Aj u,m.d.wK,m.d.uJ,m.d.eJ⟩:Dcd),m.oJ⟩:Mac) _ _ Q7),rfl,Q6⟩) W38
 exact zE (Ex m u) (⟨(⟨m.d.pJ,3,m.d.sJ,(⟨0,0⟩:Scn),m.d.sX,m.d.aJ,((fieldAt m.d.pJ.sQ x1.mK (B0 u)).getD fld0),Aj u,m.d.wK,m.d.uJ,m.d.eJ⟩:Dcd),m.oJ⟩:Mac) (fun hm1=>⟨rfl,Q6⟩) W38
 refine dsp (fun h6 p6=>?_) fun h6 p6=>?_
 refine⟨(Eg (⟨m.d.pJ,4,m.d.sJ,(⟨0,0⟩:Scn),m.d.sX,m.d.aJ,((fieldAt m.d.pJ.sQ x1.mK (B0 u)).getD fld0),Aj u,m.d.wK,m.d.uJ,m.d.eJ⟩:Dcd) Q7),(Fr _),dsp (fun h7 p7=>?_) fun h7 p7=>?_⟩
 exact zE (Ex m u) (A1 (⟨(⟨m.d.pJ,4,m.d.sJ,(⟨0,0⟩:Scn),m.d.sX,m.d.aJ,((fieldAt m.d.pJ.sQ x1.mK (B0 u)).getD fld0),Aj u,m.d.wK,m.d.uJ,m.d.eJ⟩:Dcd),m.oJ⟩:Mac) 9 m.d.aJ) (fun hm1=>⟨(Ck (⟨(⟨m.d.pJ,4,m.d.sJ,(⟨0,0⟩:Scn),m.d.sX,m.d.aJ,((fieldAt m.d.pJ.sQ x1.mK (B0 u)).getD fld0),Aj u,m.d.wK,m.d.uJ,m.d.eJ⟩:Dcd),m.oJ⟩:Mac) _ _ Q7),rfl,Q6⟩) W38
 exact zE (Ex m u) (⟨(⟨m.d.pJ,4,m.d.sJ,(⟨0,0⟩:Scn),m.d.sX,m.d.aJ,((fieldAt m.d.pJ.sQ x1.mK (B0 u)).getD fld0),Aj u,m.d.wK,m.d.uJ,m.d.eJ⟩:Dcd),m.oJ⟩:Mac) (fun hm1=>⟨rfl,Q6⟩) W38
 refine⟨(Eg (⟨m.d.pJ,5,m.d.sJ,(⟨0,0⟩:Scn),m.d.sX,m.d.aJ,((fieldAt m.d.pJ.sQ x1.mK (B0 u)).getD fld0),Aj u,m.d.wK,m.d.uJ,m.d.eJ⟩:Dcd) Q7),(Fr _),dsp (fun h7 p7=>?_) fun h7 p7=>?_⟩
 exact zE (Ex m u) (A1 (⟨(⟨m.d.pJ,5,m.d.sJ,(⟨0,0⟩:Scn),m.d.sX,m.d.aJ,((fieldAt m.d.pJ.sQ x1.mK (B0 u)).getD fld0),Aj u,m.d.wK,m.d.uJ,m.d.eJ⟩:Dcd),m.oJ⟩:Mac) 9 m.d.aJ) (fun hm1=>⟨(Ck (⟨(⟨m.d.pJ,5,m.d.sJ,(⟨0,0⟩:Scn),m.d.sX,m.d.aJ,((fieldAt m.d.pJ.sQ x1.mK (B0 u)).getD fld0),Aj u,m.d.wK,m.d.uJ,m.d.eJ⟩:Dcd),m.oJ⟩:Mac) _ _ Q7),rfl,Q6⟩) W38
 exact zE (Ex m u) (⟨(⟨m.d.pJ,5,m.d.sJ,(⟨0,0⟩:Scn),m.d.sX,m.d.aJ,((fieldAt m.d.pJ.sQ x1.mK (B0 u)).getD fld0),Aj u,m.d.wK,m.d.uJ,m.d.eJ⟩:Dcd),m.oJ⟩:Mac) (fun hm1=>⟨rfl,Q6⟩) W38
theorem Amo (m:Mac) (u:Int) (hp1:Bk (m).d=true) (hp2:List.length (m).oJ≤100000000) (hp3:(0:Int)≤u∧u≤18446744073709551615) (hp4:((m).d.field=fld0∨J2 (m).d.pJ.sQ (m).d.field=true)):Fun Tryz.prog 187 [vP 0,.c (.int .u64 u)] [.cells (Ac 1 2 3 m),.tree m.d.pJ.sQ,.lst .lev m.d.sJ,.lst .ev m.oJ] (.tup []) [.cells (Ac 4 5 6 (Cw m u)),.dK,.dK,.dK,.tree (Cw m u).d.pJ.sQ,.lst .lev (Cw m u).d.sJ,.lst .ev (Cw m u).oJ]:=by
 have hN:A7=274877906944:=rfl
 have hlv:=Cb hp1
 have hpt:=Cm hlv.1
 have htb:=Hy hp1
 have hwm:=Agi m
 have hwb:=En (Ci m.d.field.kind)
 refine Ap Tryz.func187 Q4 Q4 (w:=let zi:Int→C:= .int .i64;let z6:List C:=[.own 1,zi m.d.pJ.rJ,zi m.d.pJ.dJ,zi m.d.pJ.most,zi m.d.mJ,.own 2,.int .u64 0,zi 0,zi m.d.sX,zi m.d.aJ,zi m.d.field.nJ,zi m.d.field.kind,.bool m.d.field.rep,.bool m.d.field.packed,zi m.d.field.mK,zi m.d.wJ,zi u,zi m.d.uJ.wK,zi m.d.uJ.low,zi m.d.uJ.high,zi m.d.eJ.kind,zi m.d.eJ.field,.int .u64 m.d.eJ.bits,zi m.d.eJ.len,.str m.d.eJ.text,zi m.d.eJ.code,zi m.d.eJ.aJ,.own 4];let z7:List C:=[zi m.d.eJ.kind,zi m.d.eJ.field,.int .u64 m.d.eJ.bits,zi m.d.eJ.len,.str m.d.eJ.text,zi m.d.eJ.code,zi m.d.eJ.aJ,.own 3];let z5:List C:= .own 2:: .int .u64 0::zi 0::zi m.d.sX::zi m.d.aJ::zi m.d.field.nJ::zi m.d.field.kind:: .bool m.d.field.rep:: .bool m.d.field.packed::zi m.d.field.mK::zi m.d.wJ::zi u::zi m.d.uJ.wK::zi m.d.uJ.low::zi m.d.uJ.high::z7;let z8:List C:=[zi m.d.field.nJ,.int .u64 0,zi u,.str [],zi 0,zi 0];let z15:List Blk:=[.cells (Ac 4 5 6 (Cw m u)),.dK,.dK,.dK,.tree (Cw m u).d.pJ.sQ,.lst .lev (Cw m u).d.sJ,.lst .ev (Cw m u).oJ];let z16:=((m.d.sJ.length:Nat):Int);let z18:List Blk:=[.cells (.own 1::zi m.d.pJ.rJ::zi m.d.pJ.dJ::zi m.d.pJ.most::zi m.d.mJ::z5),.tree m.d.pJ.sQ,.lst .lev m.d.sJ,.lst .ev m.oJ];let z20:List Blk:=[.cells (.own 1::zi m.d.pJ.rJ::zi m.d.pJ.dJ::zi m.d.pJ.most::zi 8::z5),.tree m.d.pJ.sQ,.lst .lev m.d.sJ,.lst .ev m.oJ];let z21:List Blk:=[.cells (.own 1::zi m.d.pJ.rJ::zi m.d.pJ.dJ::zi m.d.pJ.most::zi m.d.mJ:: .own 2:: .int .u64 0::zi 0::zi m.d.sX::zi m.d.aJ::zi m.d.field.nJ::zi m.d.field.kind:: .bool m.d.field.rep:: .bool m.d.field.packed::zi m.d.field.mK::zi m.d.wJ::zi m.d.wK::zi m.d.uJ.wK::zi m.d.uJ.low::zi m.d.uJ.high::z7),.tree m.d.pJ.sQ,.lst .lev m.d.sJ,.lst .ev m.oJ];let z26:=(⟨6,m.d.field.nJ,0,u,[],0,0⟩:Ev);let z27:=Ci m.d.field.kind;let z31:=(⟨3,m.d.field.nJ,0,u,[],0,0⟩:Ev);let z19:List Blk:=[.cells (.own 1::zi m.d.pJ.rJ::zi m.d.pJ.dJ::zi m.d.pJ.most::zi 6:: .own 2:: .int .u64 0::zi 0::zi m.d.sX::zi m.d.aJ::zi m.d.field.nJ::zi m.d.field.kind:: .bool m.d.field.rep:: .bool m.d.field.packed::zi m.d.field.mK::zi m.d.wJ::zi u::zi 0::zi 0::zi 0::z7),.tree m.d.pJ.sQ,.lst .lev m.d.sJ,.lst .ev (m.oJ++[z31])];let z23:List Blk:=[.cells z6,.tree m.d.pJ.sQ,.lst .lev m.d.sJ,.dK,.lst .ev (m.oJ++[z31])];let z33:List Blk:=[.cells z6,.tree m.d.pJ.sQ,.lst .lev m.d.sJ,.dK,.lst .ev (m.oJ++[z26])];let z34:=(⟨m.d.field.mK,u⟩:Lev);let z35:=(⟨0,0⟩:Scn);let z10:=Af (⟨(⟨m.d.pJ,6,m.d.sJ,z35,m.d.sX,m.d.aJ,m.d.field,m.d.wJ,u,(⟨0,0,0⟩:Utf),m.d.eJ⟩:Dcd),m.oJ++[z31]⟩:Mac);let z11:=A1 (⟨(⟨m.d.pJ,m.d.mJ,m.d.sJ,z35,m.d.sX,m.d.aJ,m.d.field,m.d.wJ,m.d.wK,m.d.uJ,m.d.eJ⟩:Dcd),m.oJ⟩:Mac) 8 m.d.sX;let z12:=A1 (⟨(⟨m.d.pJ,m.d.mJ,m.d.sJ,z35,m.d.sX,m.d.aJ,m.d.field,m.d.wJ,u,m.d.uJ,m.d.eJ⟩:Dcd),m.oJ⟩:Mac) 6 m.d.sX;let z13:=(⟨m.d.pJ,8,m.d.sJ,z35,m.d.sX,m.d.aJ,m.d.field,m.d.wJ,u,m.d.uJ,m.d.eJ⟩:Dcd);let z14:=Af (⟨(⟨m.d.pJ,7,m.d.sJ,z35,m.d.sX,m.d.aJ,m.d.field,m.d.wJ,u,m.d.uJ,m.d.eJ⟩:Dcd),m.oJ⟩:Mac);let z17:List Blk:=[.cells (Ac 4 5 6 z10),.dK,.dK,.dK,.tree z10.d.pJ.sQ,.lst .lev z10.d.sJ,.lst .ev z10.oJ];let z22:=A1 (⟨z13,m.oJ⟩:Mac) 9 m.d.aJ;let z24:List Blk:=[.cells (Ac 1 2 4 z11),.tree z11.d.pJ.sQ,.lst .lev z11.d.sJ,.dK,.lst .ev z11.oJ];let z25:List Blk:=[.cells (Ac 4 5 6 z14),.dK,.dK,.dK,.tree z14.d.pJ.sQ,.lst .lev z14.d.sJ,.lst .ev z14.oJ];let z28:List Blk:=[.cells (Ac 4 5 6 z11),.dK,.dK,.dK,.tree z11.d.pJ.sQ,.lst .lev z11.d.sJ,.lst .ev z11.oJ];let z29:List Blk:=[.cells (Ac 1 2 4 z12),.tree z12.d.pJ.sQ,.lst .lev z12.d.sJ,.dK,.lst .ev z12.oJ];let z30:List Blk:=[.cells (Ac 1 2 4 z22),.tree z22.d.pJ.sQ,.lst .lev z22.d.sJ,.dK,.lst .ev z22.oJ];let z32:=Af (⟨z13,m.oJ⟩:Mac);let z9:List Blk:=[.cells (Ac 4 5 6 z32),.dK,.dK,.dK,.tree z32.d.pJ.sQ,.lst .lev z32.d.sJ,.lst .ev z32.oJ];let z36:=(0:Int)≤z16-1;let z37:S:= .v (vI u);let z38:=z16-1<z16;let z39:=m.d.sJ[Int.toNat (z16-1)]?;let z40:=A3 z27;(.br (.sZ [.call [0,1,2,3] (.tup []) z24,.at 0,.cut 0 0,.cut 0 5] (.lJ () [0,1,2,3,5,6,4])) (.sZ [.call [] (.v (vI (Eb m.d))) [],.as 25 (.v (.c (.int .u64 (Eb m.d))))] (.br (.sZ [.call [0,1,2,3] (.tup []) z24,.at 0,.cut 0 0,.cut 0 5] (.lJ () [0,1,2,3,5,6,4])) (.sZ [.as 42 z37] (.br (.sZ [.call [0,1,2,3] (.tup []) z25] (.lJ () [0,1,2,3,5,6,7])) (.br (.sZ [.ord (os 13 []) []] (.br (.sZ [.call [0,1,2,3] (.tup []) z29,.at 0,.cut 0 0,.cut 0 5] (.lJ () [0,1,2,3,6,7,5])) (.sZ [.as 109 z37,.call [0,1,2,3] (.tup []) z33] (.intro (Sx z39) fun x1=>let z1:=Af (⟨(⟨m.d.pJ,2,(List.set m.d.sJ (Int.toNat (z16-1)) (⟨x1.mK,x1.left-u⟩:Lev))++[z34],z35,m.d.sX,m.d.aJ,m.d.field,m.d.wJ,0,m.d.uJ,m.d.eJ⟩:Dcd),m.oJ++[z26]⟩:Mac);.sZ [.ord (os 21 [20]) [],.as 123 (.v (vI (z16-1))),.el .lev x1,.as 128 z37,.as 129 (.v (vI (x1.left-u))),.el .lev x1,.ord (os 17 [11,12,16]) [2],.as 141 z37,.ty .lev,.ty .lev,.call [0,1,7,5] (.tup []) [.cells (Ac 4 5 6 z1),.dK,.dK,.dK,.tree z1.d.pJ.sQ,.lst .lev z1.d.sJ,.lst .ev z1.oJ]] (.lJ () [0,1,2,3,8,9,10]))))) (.br (.sZ [.as 169 z37,.call [0,1,2,3] (.tup []) z23,.call [0,1,2,5] (.tup []) z17] (.lJ () [0,1,2,3,6,7,8])) (.br (.sZ [.as 169 z37,.call [0,1,2,3] (.tup []) z23,.call [0,1,2,5] (.tup []) z17] (.lJ () [0,1,2,3,6,7,8])) (.sZ [.call [] (.v (vI z27)) [],.call [] (.v (vI z40)) []] (.br (.br (.sZ [.as 63 (.v (.c (.int .u64 z40)))] (.br (.sZ [.call [0,1,2,3] (.tup []) z30,.at 0,.cut 0 0,.cut 0 5] (.lJ () [0,1,2,3,6,7,5])) (.sZ [.call [0,1,2,3] (.tup []) z9] (.lJ () [0,1,2,3,5,6,7])))) (.sZ [.call [0,1,2,3] (.tup []) z9] (.lJ () [0,1,2,3,5,6,7]))) (.sZ [.call [0,1,2,3] (.tup []) z9] (.lJ () [0,1,2,3,5,6,7]))))))))))),Bc (decide (z16=0)) ((Fp 52 [vP 0,vI 8,vI m.d.sX] z21 (.tup []) z24)∧Lf (.tup []) (.tup []) z28 z15) ((Fp 108 [.agg [.seq .shp m.d.pJ.sQ,zi m.d.pJ.rJ,zi m.d.pJ.dJ,zi m.d.pJ.most,zi m.d.mJ,.seq .lev m.d.sJ,.int .u64 0,zi 0,zi m.d.sX,zi m.d.aJ,zi m.d.field.nJ,zi m.d.field.kind,.bool m.d.field.rep,.bool m.d.field.packed,zi m.d.field.mK,zi m.d.wJ,zi m.d.wK,zi m.d.uJ.wK,zi m.d.uJ.low,zi m.d.uJ.high,zi m.d.eJ.kind,zi m.d.eJ.field,.int .u64 m.d.eJ.bits,zi m.d.eJ.len,.str m.d.eJ.text,zi m.d.eJ.code,zi m.d.eJ.aJ]] [] (.v (vI (Eb m.d))) [])∧(wU (Eb m.d))∧Bc (decide (Eb m.d<u)) ((Fp 52 [vP 0,vI 8,vI m.d.sX] z21 (.tup []) z24)∧Lf (.tup []) (.tup []) z28 z15) ((wI (u))∧Bc (decide (m.d.field.nJ=0)&&(decide (m.d.field.kind=0)&&(decide (m.d.field.rep=false)&&(decide (m.d.field.packed=false)&&decide (m.d.field.mK=0))))) ((Fp 117 [vP 0] [.cells (.own 1::zi m.d.pJ.rJ::zi m.d.pJ.dJ::zi m.d.pJ.most::zi 7::z5),.tree m.d.pJ.sQ,.lst .lev m.d.sJ,.lst .ev m.oJ] (.tup []) z25)∧Lf (.tup []) (.tup []) z25 z15) (Bc (decide (m.d.field.kind=8)) (Bc (decide (m.d.pJ.dJ≤z16)) ((Fp 52 [vP 0,vI 6,vI m.d.sX] z18 (.tup []) z29)∧Lf (.tup []) (.tup []) [.cells (Ac 4 5 6 z12),.dK,.dK,.dK,.tree z12.d.pJ.sQ,.lst .lev z12.d.sJ,.lst .ev z12.oJ] z15) ((wI (u))∧(Fp 88 [vP 0,.agg (zi 6::z8)] z18 (.tup []) z33)∧El z39 fun x1=>(let z3:=List.set m.d.sJ (Int.toNat (z16-1)) (⟨x1.mK,x1.left-u⟩:Lev);let z2:=Af (⟨(⟨m.d.pJ,2,z3++[z34],z35,m.d.sX,m.d.aJ,m.d.field,m.d.wJ,0,m.d.uJ,m.d.eJ⟩:Dcd),m.oJ++[z26]⟩:Mac);let z4:=m.d.sJ[Int.toNat (z16-1)]? =some x1;(wI (z16-1))∧(wI (z16-1))∧z38∧z36∧z38∧z36∧z4∧z4∧(wI (u))∧(wI (u))∧(wI (x1.left-u))∧(wI (x1.left-u))∧z38∧z36∧z38∧z36∧z4∧(wI (u))∧(wI (u))∧(z3.length+List.length [z34]≤A7)∧(Fp 117 [vP 0] [.cells (.own 1::zi m.d.pJ.rJ::zi m.d.pJ.dJ::zi m.d.pJ.most::zi 2:: .own 2:: .int .u64 0::zi 0::zi m.d.sX::zi m.d.aJ::zi m.d.field.nJ::zi m.d.field.kind:: .bool m.d.field.rep:: .bool m.d.field.packed::zi m.d.field.mK::zi m.d.wJ::zi 0::zi m.d.uJ.wK::zi m.d.uJ.low::zi m.d.uJ.high::z7),.tree m.d.pJ.sQ,.lst .lev (z3++[z34]),.lst .ev (m.oJ++[z26])] (.tup []) [.cells (Ac 4 5 6 z2),.dK,.dK,.dK,.tree z2.d.pJ.sQ,.lst .lev z2.d.sJ,.lst .ev z2.oJ])∧Lf (.tup []) (.tup []) [.cells (Ac 4 5 6 z2),.dK,.dK,.dK,.tree z2.d.pJ.sQ,.lst .lev z2.d.sJ,.lst .ev z2.oJ] z15))) (Bc (decide (m.d.field.kind=6)) ((wI (u))∧(Fp 88 [vP 0,.agg (zi 3::z8)] z18 (.tup []) z23)∧(Fp 117 [vP 0] z19 (.tup []) z17)∧Lf (.tup []) (.tup []) z17 z15) (Bc (decide (m.d.field.kind=7)) ((wI (u))∧(Fp 88 [vP 0,.agg (zi 3::z8)] z18 (.tup []) z23)∧(Fp 117 [vP 0] z19 (.tup []) z17)∧Lf (.tup []) (.tup []) z17 z15) ((Fp 181 [vI m.d.field.kind] [] (.v (vI z27)) [])∧(Fp 171 [vI z27] [] (.v (vI z40)) [])∧Bc (decide (0<A3 z27)) (Bc (decide (0<u)) ((wU z40)∧Bc (decide (u<A3 z27)) ((Fp 52 [vP 0,vI 9,vI m.d.aJ] z20 (.tup []) z30)∧Lf (.tup []) (.tup []) [.cells (Ac 4 5 6 z22),.dK,.dK,.dK,.tree z22.d.pJ.sQ,.lst .lev z22.d.sJ,.lst .ev z22.oJ] z15) ((Fp 117 [vP 0] z20 (.tup []) z9)∧Lf (.tup []) (.tup []) z9 z15)) ((Fp 117 [vP 0] z20 (.tup []) z9)∧Lf (.tup []) (.tup []) z9 z15)) ((Fp 117 [vP 0] z20 (.tup []) z9)∧Lf (.tup []) (.tup []) z9 z15))))))))) Q4 ?_
 refine dsp (fun h1 p1=>?_) fun h1 p1=>?_
 exact zE (Cw m u) (A1 (⟨(⟨m.d.pJ,m.d.mJ,m.d.sJ,(⟨0,0⟩:Scn),m.d.sX,m.d.aJ,m.d.field,m.d.wJ,m.d.wK,m.d.uJ,m.d.eJ⟩:Dcd),m.oJ⟩:Mac) 8 m.d.sX) (fun hm1=>⟨(Ck (⟨(⟨m.d.pJ,m.d.mJ,m.d.sJ,(⟨0,0⟩:Scn),m.d.sX,m.d.aJ,m.d.field,m.d.wJ,m.d.wK,m.d.uJ,m.d.eJ⟩:Dcd),m.oJ⟩:Mac) _ _ Q7),rfl,Q6⟩) W39
 refine⟨(Eg (⟨m.d.pJ,m.d.mJ,m.d.sJ,(⟨0,0⟩:Scn),m.d.sX,m.d.aJ,m.d.field,m.d.wJ,m.d.wK,m.d.uJ,m.d.eJ⟩:Dcd) Q7),(B3 Q2 Q2),dsp (fun h2 p2=>?_) fun h2 p2=>?_⟩
 exact zE (Cw m u) (A1 (⟨(⟨m.d.pJ,m.d.mJ,m.d.sJ,(⟨0,0⟩:Scn),m.d.sX,m.d.aJ,m.d.field,m.d.wJ,m.d.wK,m.d.uJ,m.d.eJ⟩:Dcd),m.oJ⟩:Mac) 8 m.d.sX) (fun hm1=>⟨(Ck (⟨(⟨m.d.pJ,m.d.mJ,m.d.sJ,(⟨0,0⟩:Scn),m.d.sX,m.d.aJ,m.d.field,m.d.wJ,m.d.wK,m.d.uJ,m.d.eJ⟩:Dcd),m.oJ⟩:Mac) _ _ Q7),rfl,Q6⟩) W39
 refine⟨(Ad Q2 Q2),fun h3=>have p3:=(Cx dT (Cx dT (Cx dT (Cx dT dT)))).1 h3;?_,fun h3=>have p3:=(Cy dT (Cy dT (Cy dT (Cy dT dF)))).1 h3;?_⟩
 exact zE (Cw m u) (Af (⟨(⟨m.d.pJ,7,m.d.sJ,(⟨0,0⟩:Scn),m.d.sX,m.d.aJ,m.d.field,m.d.wJ,u,m.d.uJ,m.d.eJ⟩:Dcd),m.oJ⟩:Mac)) (fun hm1=>⟨(Es (⟨(⟨m.d.pJ,7,m.d.sJ,(⟨0,0⟩:Scn),m.d.sX,m.d.aJ,m.d.field,m.d.wJ,u,m.d.uJ,m.d.eJ⟩:Dcd),m.oJ⟩:Mac) (Q16) Q7),rfl,Q6⟩) W39
 refine dsp (fun h4 p4=>?_) fun h4 p4=>?_
 refine dsp (fun h5 p5=>?_) fun h5 p5=>?_
 exact zE (Cw m u) (A1 (⟨(⟨m.d.pJ,m.d.mJ,m.d.sJ,(⟨0,0⟩:Scn),m.d.sX,m.d.aJ,m.d.field,m.d.wJ,u,m.d.uJ,m.d.eJ⟩:Dcd),m.oJ⟩:Mac) 6 m.d.sX) (fun hm1=>⟨(Ck (⟨(⟨m.d.pJ,m.d.mJ,m.d.sJ,(⟨0,0⟩:Scn),m.d.sX,m.d.aJ,m.d.field,m.d.wJ,u,m.d.uJ,m.d.eJ⟩:Dcd),m.oJ⟩:Mac) _ _ Q7),rfl,Q6⟩) W39
 refine⟨(Ad Q2 Q2),(Fw (⟨(⟨m.d.pJ,m.d.mJ,m.d.sJ,(⟨0,0⟩:Scn),m.d.sX,m.d.aJ,m.d.field,m.d.wJ,u,m.d.uJ,m.d.eJ⟩:Dcd),m.oJ⟩:Mac) (⟨6,m.d.field.nJ,0,u,[],0,0⟩:Ev) Q7),(Bo (l:=m.d.sJ) (i:=Int.toNat (((m.d.sJ.length:Nat):Int)-1)) Q2),fun x1 hx1=>?_⟩
 have hll:=Ka (d:=m.d) (by rw[←hx1];congr 1;omega)
 have hix:Int.toNat ((m.d.sJ.length:Int)-1)=m.d.sJ.length-1:=by omega
 exact zE (Cw m u) (Af (⟨(⟨m.d.pJ,2,(List.set m.d.sJ (Int.toNat (((m.d.sJ.length:Nat):Int)-1)) (⟨x1.mK,x1.left-u⟩:Lev))++[(⟨m.d.field.mK,u⟩:Lev)],(⟨0,0⟩:Scn),m.d.sX,m.d.aJ,m.d.field,m.d.wJ,0,m.d.uJ,m.d.eJ⟩:Dcd),m.oJ++[(⟨6,m.d.field.nJ,0,u,[],0,0⟩:Ev)]⟩:Mac)) (fun hm1=>⟨(Ad Q2 Q2),(Ad Q2 Q2),Q2,Q2,Q2,Q2,hx1,hx1,(Ad Q2 Q2),(Ad Q2 Q2),(Ad Q2 Q2),(Ad Q2 Q2),Q2,Q2,Q2,Q2,hx1,(Ad Q2 Q2),(Ad Q2 Q2),Q77,(Es (⟨(⟨m.d.pJ,2,(List.set m.d.sJ (Int.toNat (((m.d.sJ.length:Nat):Int)-1)) (⟨x1.mK,x1.left-u⟩:Lev))++[(⟨m.d.field.mK,u⟩:Lev)],(⟨0,0⟩:Scn),m.d.sX,m.d.aJ,m.d.field,m.d.wJ,0,m.d.uJ,m.d.eJ⟩:Dcd),m.oJ++[(⟨6,m.d.field.nJ,0,u,[],0,0⟩:Ev)]⟩:Mac) (Q16) Q18),rfl,Q6⟩) W39
 refine dsp (fun h5 p5=>?_) fun h5 p5=>?_
 exact zE (Cw m u) (Af (⟨(⟨m.d.pJ,6,m.d.sJ,(⟨0,0⟩:Scn),m.d.sX,m.d.aJ,m.d.field,m.d.wJ,u,(⟨0,0,0⟩:Utf),m.d.eJ⟩:Dcd),m.oJ++[(⟨3,m.d.field.nJ,0,u,[],0,0⟩:Ev)]⟩:Mac)) (fun hm1=>⟨(Ad Q2 Q2),(Fw (⟨(⟨m.d.pJ,m.d.mJ,m.d.sJ,(⟨0,0⟩:Scn),m.d.sX,m.d.aJ,m.d.field,m.d.wJ,u,m.d.uJ,m.d.eJ⟩:Dcd),m.oJ⟩:Mac) (⟨3,m.d.field.nJ,0,u,[],0,0⟩:Ev) Q7),(Es (⟨(⟨m.d.pJ,6,m.d.sJ,(⟨0,0⟩:Scn),m.d.sX,m.d.aJ,m.d.field,m.d.wJ,u,(⟨0,0,0⟩:Utf),m.d.eJ⟩:Dcd),m.oJ++[(⟨3,m.d.field.nJ,0,u,[],0,0⟩:Ev)]⟩:Mac) (Q16) Q18),rfl,Q6⟩) W39
 refine dsp (fun h6 p6=>?_) fun h6 p6=>?_
 exact zE (Cw m u) (Af (⟨(⟨m.d.pJ,6,m.d.sJ,(⟨0,0⟩:Scn),m.d.sX,m.d.aJ,m.d.field,m.d.wJ,u,(⟨0,0,0⟩:Utf),m.d.eJ⟩:Dcd),m.oJ++[(⟨3,m.d.field.nJ,0,u,[],0,0⟩:Ev)]⟩:Mac)) (fun hm1=>⟨(Ad Q2 Q2),(Fw (⟨(⟨m.d.pJ,m.d.mJ,m.d.sJ,(⟨0,0⟩:Scn),m.d.sX,m.d.aJ,m.d.field,m.d.wJ,u,m.d.uJ,m.d.eJ⟩:Dcd),m.oJ⟩:Mac) (⟨3,m.d.field.nJ,0,u,[],0,0⟩:Ev) Q7),(Es (⟨(⟨m.d.pJ,6,m.d.sJ,(⟨0,0⟩:Scn),m.d.sX,m.d.aJ,m.d.field,m.d.wJ,u,(⟨0,0,0⟩:Utf),m.d.eJ⟩:Dcd),m.oJ++[(⟨3,m.d.field.nJ,0,u,[],0,0⟩:Ev)]⟩:Mac) (Q16) Q18),rfl,Q6⟩) W39
 refine⟨(Aac _),(Fr _),dsp (fun h7 p7=>?_) fun h7 p7=>?_⟩
 refine dsp (fun h8 p8=>?_) fun h8 p8=>?_
 refine⟨(B3 Q2 Q2),dsp (fun h9 p9=>?_) fun h9 p9=>?_⟩
 exact zE (Cw m u) (A1 (⟨(⟨m.d.pJ,8,m.d.sJ,(⟨0,0⟩:Scn),m.d.sX,m.d.aJ,m.d.field,m.d.wJ,u,m.d.uJ,m.d.eJ⟩:Dcd),m.oJ⟩:Mac) 9 m.d.aJ) (fun hm1=>⟨(Ck (⟨(⟨m.d.pJ,8,m.d.sJ,(⟨0,0⟩:Scn),m.d.sX,m.d.aJ,m.d.field,m.d.wJ,u,m.d.uJ,m.d.eJ⟩:Dcd),m.oJ⟩:Mac) _ _ Q7),rfl,Q6⟩) W39
 exact zE (Cw m u) (Af (⟨(⟨m.d.pJ,8,m.d.sJ,(⟨0,0⟩:Scn),m.d.sX,m.d.aJ,m.d.field,m.d.wJ,u,m.d.uJ,m.d.eJ⟩:Dcd),m.oJ⟩:Mac)) (fun hm1=>⟨(Es (⟨(⟨m.d.pJ,8,m.d.sJ,(⟨0,0⟩:Scn),m.d.sX,m.d.aJ,m.d.field,m.d.wJ,u,m.d.uJ,m.d.eJ⟩:Dcd),m.oJ⟩:Mac) (Q16) Q7),rfl,Q6⟩) W39
 exact zE (Cw m u) (Af (⟨(⟨m.d.pJ,8,m.d.sJ,(⟨0,0⟩:Scn),m.d.sX,m.d.aJ,m.d.field,m.d.wJ,u,m.d.uJ,m.d.eJ⟩:Dcd),m.oJ⟩:Mac)) (fun hm1=>⟨(Es (⟨(⟨m.d.pJ,8,m.d.sJ,(⟨0,0⟩:Scn),m.d.sX,m.d.aJ,m.d.field,m.d.wJ,u,m.d.uJ,m.d.eJ⟩:Dcd),m.oJ⟩:Mac) (Q16) Q7),rfl,Q6⟩) W39
 exact zE (Cw m u) (Af (⟨(⟨m.d.pJ,8,m.d.sJ,(⟨0,0⟩:Scn),m.d.sX,m.d.aJ,m.d.field,m.d.wJ,u,m.d.uJ,m.d.eJ⟩:Dcd),m.oJ⟩:Mac)) (fun hm1=>⟨(Es (⟨(⟨m.d.pJ,8,m.d.sJ,(⟨0,0⟩:Scn),m.d.sX,m.d.aJ,m.d.field,m.d.wJ,u,m.d.uJ,m.d.eJ⟩:Dcd),m.oJ⟩:Mac) (Q16) Q7),rfl,Q6⟩) W39
theorem Ada (m:Mac) (u:Int) (hp1:List.length (m).oJ≤100000000) (hp2:(0:Int)≤u∧u≤18446744073709551615):Fun Tryz.prog 183 [vP 0,.c (.int .u64 u)] [.cells (Ac 1 2 3 m),.tree m.d.pJ.sQ,.lst .lev m.d.sJ,.lst .ev m.oJ] (.tup []) [.cells (Ac 1 2 4 (Bt m u)),.tree (Bt m u).d.pJ.sQ,.lst .lev (Bt m u).d.sJ,.dK,.lst .ev (Bt m u).oJ]:=by
 have hN:A7=274877906944:=rfl
 refine Ap Tryz.func183 Q4 Q4 (w:=let zi:Int→C:= .int .i64;let z1:List C:=[.own 1,zi m.d.pJ.rJ,zi m.d.pJ.dJ,zi m.d.pJ.most,zi 2,.own 2,.int .u64 m.d.sK.bits,zi m.d.sK.hJ,zi m.d.sX,zi m.d.aJ,zi m.d.field.nJ,zi m.d.field.kind,.bool m.d.field.rep,.bool m.d.field.packed,zi m.d.field.mK,zi m.d.wJ,zi m.d.wK,zi m.d.uJ.wK,zi m.d.uJ.low,zi m.d.uJ.high,zi m.d.eJ.kind,zi m.d.eJ.field,.int .u64 m.d.eJ.bits,zi m.d.eJ.len,.str m.d.eJ.text,zi m.d.eJ.code,zi m.d.eJ.aJ,.own 4];let z2:List Blk:=[.cells (Ac 1 2 4 (Bt m u)),.tree (Bt m u).d.pJ.sQ,.lst .lev (Bt m u).d.sJ,.dK,.lst .ev (Bt m u).oJ];let z5:= !(decide (m.d.field.nJ=0)&&(decide (m.d.field.kind=0)&&(decide (m.d.field.rep=false)&&(decide (m.d.field.packed=false)&&decide (m.d.field.mK=0)))));let z6:=H7 m.d.field u;let z3:List Blk:=[.cells (Ac 1 2 4 m),.tree (m).d.pJ.sQ,.lst .lev (m).d.sJ,.dK,.lst .ev ((m).oJ++[z6])];let z4:List Blk:=[.cells z1,.tree m.d.pJ.sQ,.lst .lev m.d.sJ,.dK,.lst .ev (m.oJ++[z6])];let z7:S:= .v (.agg (cEv z6));(.br (.br (.sZ [.call [] z7 [],.call [0,1,2,3] (.tup []) z4] (.lJ () [0,1,2,3,4])) (.sZ [.at 0,.cut 0 27] (.lJ () [0,1,2,3,4]))) (.br (.sZ [.call [] z7 [],.call [0,1,2,3] (.tup []) z3] (.lJ () [0,1,2,3,4])) (.sZ [.at 0,.cut 0 27] (.lJ () [0,1,2,3,4]))),Bc (!decide (m.d.mJ=8)) (Bc z5 ((Fp 215 [.agg (Gc m.d.field),.c (.int .u64 u)] [] z7 [])∧(Fp 88 [vP 0,.agg (cEv z6)] [.cells [.own 1,zi m.d.pJ.rJ,zi m.d.pJ.dJ,zi m.d.pJ.most,zi 2,.own 2,.int .u64 m.d.sK.bits,zi m.d.sK.hJ,zi m.d.sX,zi m.d.aJ,zi m.d.field.nJ,zi m.d.field.kind,.bool m.d.field.rep,.bool m.d.field.packed,zi m.d.field.mK,zi m.d.wJ,zi m.d.wK,zi m.d.uJ.wK,zi m.d.uJ.low,zi m.d.uJ.high,zi m.d.eJ.kind,zi m.d.eJ.field,.int .u64 m.d.eJ.bits,zi m.d.eJ.len,.str m.d.eJ.text,zi m.d.eJ.code,zi m.d.eJ.aJ,.own 3],.tree m.d.pJ.sQ,.lst .lev m.d.sJ,.lst .ev m.oJ] (.tup []) z4)∧Lf (.tup []) (.tup []) z4 z2) (Lf (.tup []) (.tup []) [.cells z1,.tree m.d.pJ.sQ,.lst .lev m.d.sJ,.dK,.lst .ev m.oJ] z2)) (Bc z5 ((Fp 215 [.agg (Gc m.d.field),.c (.int .u64 u)] [] z7 [])∧(Fp 88 [vP 0,.agg (cEv z6)] [.cells (Ac 1 2 3 m),.tree m.d.pJ.sQ,.lst .lev m.d.sJ,.lst .ev m.oJ] (.tup []) z3)∧Lf (.tup []) (.tup []) z3 z2) (Lf (.tup []) (.tup []) [.cells (Ac 1 2 4 m),.tree m.d.pJ.sQ,.lst .lev m.d.sJ,.dK,.lst .ev m.oJ] z2)))) Q4 ?_
 refine⟨fun h1=>have q1:=An h1;have p1:=of_decide_eq_false q1;?_,fun h1=>have q1:=Am h1;have p1:=of_decide_eq_true q1;?_⟩
 refine⟨fun h2=>have q2:=An h2;have p2:=(Cy dT (Cy dT (Cy dT (Cy dT dF)))).1 q2;?_,fun h2=>have q2:=Am h2;have p2:=(Cx dT (Cx dT (Cx dT (Cx dT dT)))).1 q2;?_⟩
 exact zE (Bt m u) (⟨(⟨m.d.pJ,2,m.d.sJ,m.d.sK,m.d.sX,m.d.aJ,m.d.field,m.d.wJ,m.d.wK,m.d.uJ,m.d.eJ⟩:Dcd),m.oJ++[(H7 m.d.field u)]⟩:Mac) (fun hm1=>⟨(Zd m.d.field _ Q2),(Fw (⟨(⟨m.d.pJ,2,m.d.sJ,m.d.sK,m.d.sX,m.d.aJ,m.d.field,m.d.wJ,m.d.wK,m.d.uJ,m.d.eJ⟩:Dcd),m.oJ⟩:Mac) (H7 m.d.field u) Q7),rfl,Q6⟩) W40
 exact zE (Bt m u) (⟨(⟨m.d.pJ,2,m.d.sJ,m.d.sK,m.d.sX,m.d.aJ,m.d.field,m.d.wJ,m.d.wK,m.d.uJ,m.d.eJ⟩:Dcd),m.oJ⟩:Mac) (fun hm1=>⟨rfl,Q6⟩) W40
 refine⟨fun h2=>have q2:=An h2;have p2:=(Cy dT (Cy dT (Cy dT (Cy dT dF)))).1 q2;?_,fun h2=>have q2:=Am h2;have p2:=(Cx dT (Cx dT (Cx dT (Cx dT dT)))).1 q2;?_⟩
 exact zE (Bt m u) (⟨(m).d,(m).oJ++[(H7 m.d.field u)]⟩:Mac) (fun hm1=>⟨(Zd m.d.field _ Q2),(Fw m (H7 m.d.field u) Q2),rfl,Q6⟩) W40
 exact zE (Bt m u) m (fun hm1=>⟨rfl,Q6⟩) W40
end Go.Proofs.YtphecbmdhbphgaaGreat.Ax
