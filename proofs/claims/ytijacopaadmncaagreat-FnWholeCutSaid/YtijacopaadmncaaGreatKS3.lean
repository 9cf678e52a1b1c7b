/- The grammar: texts. The grammar: values with a length. The grammar: messages. Models: Ef inputs. Whole inputs: what is said of them. What is too long to draw from. Draws of numbers, bytes, scripts. -/
import Derived.Test.YtijacopaadmncaaGreatKS2
import Derived.Test.YtijacopaadmncaaGreatKS1
set_option linter.unusedSimpArgs false
set_option linter.unusedVariables false
namespace Go.Proofs.YtijacopaadmncaaGreat.Ax
open Go.RowKit
theorem Asx (r:Mr) (f:Fld) (n:Int) (hp1:List.length (r).s≤1048576) (hp2:(r).at_≤((List.length (r).s:Nat):Int)) (hp3:(r).fail.kind=0) (hp4:((List.length (r).out:Nat):Int)+4*(((List.length (r).s:Nat):Int)-(r).at_)≤99999996) (hp5:(0:Int)≤(r).at_) (hp6:(0:Int)≤n∧(r).at_+n≤9223372036854775807):Fun Tryz.prog 188 [vP 0,.agg (Dd f),vI n] [.cells (B7 1 r),.lst .ev r.out] (.v (vB (decide ((Be r f n).fail.kind=0)))) [.cells (B7 2 (Be r f n)),.dead,.lst .ev (Be r f n).out]:=by
 have hN:Ba=274877906944:=rfl
 have htl:=Rk hp6.1 hp5 hp2
 have hub:=Agg utf0 (As r n)
 have hu0:utf0.want=0∧utf0.low=0∧utf0.high=0:=⟨rfl,rfl,rfl⟩
 have huw:=K5 (R8 (u:=utf0) (s:=As r n) (by decide))
 have huz:(Ft utf0 (As r n)).want=0→(Ft utf0 (As r n)).low=0∧(Ft utf0 (As r n)).high=0:=fun h0=>by rw[K4 (R8 (u:=utf0) (s:=As r n) (by decide)) h0];exact⟨rfl,rfl⟩
 refine Av Tryz.func188 Q8 Q8 (w:=let zi:Int→C:= .int .i64;let z4:=(r.s.length:Int);let z7:List Blk:=[.cells (B7 2 (Be r f n)),.dead,.lst .ev (Be r f n).out];let z9:S:= .v (vB (decide ((Be r f n).fail.kind=0)));let z10:=(⟨4,0,0,0,As r n,0,0⟩:Ev);let z11:=r.at_+n;let z1:List C:=[.seq .shp r.plan.shapes,zi r.plan.root,zi r.plan.deep,zi r.plan.most,.str r.s,zi z11,.own 2,zi r.fail.kind,zi r.fail.field,.int .u64 r.fail.bits,zi r.fail.len,.str r.fail.text,zi r.fail.code,zi r.fail.at_];let z12:S:= .v (vB false);let z13:=As r n;let z14:=utf0;let z8:=C1 z14 z13;let z22:=decide ((z13.length:Int)<n);let z27:=decide (0≤C1 z14 z13);let z28:=(⟨4,0,0,0,List.take (z8.toNat) z13,0,0⟩:Ev);let z29:=shutEv;let z34:=if z4<n then z4 else n;let z20:=if r.at_+z34<z4 then r.at_+z34 else z4;let z35:S:= .v (vI z11);let z36:=(A6 f n);let z3:=(⟨r.plan,r.s,r.at_,r.out++[z36],r.fail⟩:Mr);let z6:=r.out++[z36];let z2:=(⟨r.plan,r.s,r.at_,z6++[z10],r.fail⟩:Mr);let z15:=(wI z11)∧(List.length (z6++[z10])+List.length [z29]≤Ba)∧Lf (.v (vB true)) z9 [.cells z1,.dead,.lst .ev ((z6++[z10])++[z29])] z7;let z21:=(wI z11)∧(z6.length+List.length [z29]≤Ba)∧Lf (.v (vB true)) z9 [.cells z1,.dead,.lst .ev (z6++[z29])] z7;let z24:List Blk:=[.cells (B7 1 r),.lst .ev (z6++[z10])];let z26:List Blk:=[.cells (B7 1 r),.lst .ev z6];let z30:=Bb z2 10 z4;let z16:List Blk:=[.cells (B7 1 z30),.lst .ev z30.out];let z31:=Bb z2 5 z11;let z17:List Blk:=[.cells (B7 1 z31),.lst .ev z31.out];let z32:=Bb z3 10 z4;let z18:List Blk:=[.cells (B7 1 z32),.lst .ev z32.out];let z33:=Bb z3 5 z11;let z19:List Blk:=[.cells (B7 1 z33),.lst .ev z33.out];let z37:=r.at_+z8;let z5:=Bb (⟨r.plan,r.s,r.at_,z6++[z28],r.fail⟩:Mr) 5 z37;let z23:=Bb z3 5 z37;let z38:= !(decide (0=0)&&(decide (0=0)&&decide (0=0)));let z39:=(decide (0≤(-1)))=false;let z40:=Ft z14 z13;let z25:= !(decide (z40.want=0)&&(decide (z40.low=0)&&decide (z40.high=0)));let z41:List V:=[vP 0,vI 10,vI z4];let z42:List V:=[vP 0,vI 5,vI z11];let z43:=z6.length+List.length [z10]≤Ba;let z44:List Blk:=[.cells (B7 2 z30),.dead,.lst .ev z30.out];let z45:List Blk:=[.cells (B7 2 z31),.dead,.lst .ev z31.out];let z46:List Blk:=[.cells (B7 2 z32),.dead,.lst .ev z32.out];let z47:List Blk:=[.cells (B7 2 z33),.dead,.lst .ev z33.out];(.seg [.ord (os 14 [9,10,13]) [1],.ty .ev,.ty .ev,.ord (os 22 [17,19]) [],.as 47 (.v (vI (r.at_+z34))),.as 49 (.v (vT z13))] (.br (.seg [.call [] (.tup [.agg (Hy z40),vI z8]) []] (.br (.br (.seg [.ty .ev,.ty .ev,.br true,.as 85 (.v (vI z37)),.call [0,7] z12 [.cells (B7 1 z5),.lst .ev z5.out]] (.leaf () [0,1,7])) (.seg [.br true,.as 85 (.v (vI z37)),.call [0,4] z12 [.cells (B7 1 z23),.lst .ev z23.out]] (.leaf () [0,1,4]))) (.br (.seg [.ty .ev,.ty .ev,.br false] (.br (.seg [.call [0,7] z12 z16] (.leaf () [0,1,7])) (.br (.seg [.as 106 z35,.call [0,7] z12 z17] (.leaf () [0,1,7])) (.seg [.as 111 z35,.ty .ev,.ty .ev] (.leaf () [0,1,9]))))) (.seg [.br false] (.br (.seg [.call [0,4] z12 z18] (.leaf () [0,1,4])) (.br (.seg [.as 106 z35,.call [0,4] z12 z19] (.leaf () [0,1,4])) (.seg [.as 111 z35,.ty .ev,.ty .ev] (.leaf () [0,1,7])))))))) (.seg [.br false] (.br (.seg [.ty .ev,.ty .ev,.br false] (.br (.seg [.call [0,7] z12 z16] (.leaf () [0,1,7])) (.br (.seg [.as 106 z35,.call [0,7] z12 z17] (.leaf () [0,1,7])) (.seg [.as 111 z35,.ty .ev,.ty .ev] (.leaf () [0,1,9]))))) (.seg [.br false] (.br (.seg [.call [0,4] z12 z18] (.leaf () [0,1,4])) (.br (.seg [.as 106 z35,.call [0,4] z12 z19] (.leaf () [0,1,4])) (.seg [.as 111 z35,.ty .ev,.ty .ev] (.leaf () [0,1,7])))))))),(r.out.length+List.length [z36]≤Ba)∧(wI (r.at_+z34))∧(z20≤z4)∧(r.at_≤z20)∧((0:Int)≤r.at_)∧((.v (vT (List.drop (r.at_.toNat) (List.take (z20.toNat) r.s))):S)= .v (vT z13))∧Bc (decide (f.kind=6)) ((Fp 196 [.agg [zi 0,zi 0,zi 0],vT z13] [] (.tup [.agg (Hy z40),vI z8]) [])∧Bc z27 ((C1 z14 z13≤(z13.length:Int))∧((0:Int)≤C1 z14 z13)∧Bc (!decide (List.take (z8.toNat) z13=[])) ((z6.length+List.length [z28]≤Ba)∧(z27=true)∧(wI z37)∧(Fp 111 [vP 0,vI 5,vI z37] [.cells (B7 1 r),.lst .ev (z6++[z28])] z12 [.cells (B7 1 z5),.lst .ev z5.out])∧Lf z12 z9 [.cells (B7 2 z5),.dead,.lst .ev z5.out] z7) ((z27=true)∧(wI z37)∧(Fp 111 [vP 0,vI 5,vI z37] z26 z12 [.cells (B7 1 z23),.lst .ev z23.out])∧Lf z12 z9 [.cells (B7 2 z23),.dead,.lst .ev z23.out] z7)) (Bc (!decide (As r n=[])) (z43∧(z27=false)∧Bc z22 ((Fp 111 z41 z24 z12 z16)∧Lf z12 z9 z44 z7) (Bc z25 ((wI z11)∧(Fp 111 z42 z24 z12 z17)∧Lf z12 z9 z45 z7) z15)) ((z27=false)∧Bc z22 ((Fp 111 z41 z26 z12 z18)∧Lf z12 z9 z46 z7) (Bc z25 ((wI z11)∧(Fp 111 z42 z26 z12 z19)∧Lf z12 z9 z47 z7) z21)))) (z39∧Bc (!decide (As r n=[])) (z43∧z39∧Bc z22 ((Fp 111 z41 z24 z12 z16)∧Lf z12 z9 z44 z7) (Bc z38 ((wI z11)∧(Fp 111 z42 z24 z12 z17)∧Lf z12 z9 z45 z7) z15)) (z39∧Bc z22 ((Fp 111 z41 z26 z12 z18)∧Lf z12 z9 z46 z7) (Bc z38 ((wI z11)∧(Fp 111 z42 z26 z12 z19)∧Lf z12 z9 z47 z7) z21))))) Q8 ?_
 refine⟨Q9,(Ac Q5 Q5),Q5,Q5,Q5,(Apc (Ada (s:=r.s) (a:=r.at_) (n:=n) Q5 Q5 Q5 (by first|omega|(simp only[Aj];omega)))),dsp (fun h1 p1=>?_) fun h1 p1=>?_⟩
 refine⟨(Re utf0 _ Q5),dsp (fun h2 p2=>?_) fun h2 p2=>?_⟩
 refine⟨Q5,Q5,fun h3=>have q3:=Ar h3;have p3:=of_decide_eq_false q3;?_,fun h3=>have q3:=Ao h3;have p3:=of_decide_eq_true q3;?_⟩
 refine zE (Be r f n) (Bb (⟨r.plan,r.s,r.at_,(r.out++[(A6 f n)])++[(⟨4,0,0,0,List.take (Int.toNat (C1 utf0 (As r n))) (As r n),0,0⟩:Ev)],r.fail⟩:Mr) 5 (r.at_+(C1 utf0 (As r n)))) (fun hm1=>⟨(by simp only[List.length_append,List.length_take,List.length_cons,List.length_nil];omega),h2,(Ac Q5 Q5),(Gt (⟨r.plan,r.s,r.at_,(r.out++[(A6 f n)])++[(⟨4,0,0,0,List.take (Int.toNat (C1 utf0 (As r n))) (As r n),0,0⟩:Ev)],r.fail⟩:Mr) _ _),(sB ?_),Q17⟩) ?_
 rotate_left 2
 refine zE (Be r f n) (Bb (⟨r.plan,r.s,r.at_,r.out++[(A6 f n)],r.fail⟩:Mr) 5 (r.at_+(C1 utf0 (As r n)))) (fun hm1=>⟨h2,(Ac Q5 Q5),(Gt (⟨r.plan,r.s,r.at_,r.out++[(A6 f n)],r.fail⟩:Mr) _ _),(sB ?_),Q17⟩) ?_
 rotate_left 2
 refine⟨fun h3=>have q3:=Ar h3;have p3:=of_decide_eq_false q3;?_,fun h3=>have q3:=Ao h3;have p3:=of_decide_eq_true q3;?_⟩
 refine⟨Q34,h2,dsp (fun h4 p4=>?_) fun h4 p4=>?_⟩
 refine zE (Be r f n) (Bb (⟨r.plan,r.s,r.at_,(r.out++[(A6 f n)])++[(⟨4,0,0,0,As r n,0,0⟩:Ev)],r.fail⟩:Mr) 10 (r.s.length:Int)) (fun hm1=>⟨(Gt (⟨r.plan,r.s,r.at_,(r.out++[(A6 f n)])++[(⟨4,0,0,0,As r n,0,0⟩:Ev)],r.fail⟩:Mr) _ _),(sB ?_),Q17⟩) ?_
 rotate_left 2
 refine⟨fun h5=>have q5:=Ar h5;have p5:=(M2 dT (M2 dT dF)).1 q5;?_,fun h5=>have q5:=Ao h5;have p5:=(M1 dT (M1 dT dT)).1 q5;?_⟩
 refine zE (Be r f n) (Bb (⟨r.plan,r.s,r.at_,(r.out++[(A6 f n)])++[(⟨4,0,0,0,As r n,0,0⟩:Ev)],r.fail⟩:Mr) 5 (r.at_+n)) (fun hm1=>⟨(Ac Q5 Q5),(Gt (⟨r.plan,r.s,r.at_,(r.out++[(A6 f n)])++[(⟨4,0,0,0,As r n,0,0⟩:Ev)],r.fail⟩:Mr) _ _),(sB ?_),Q17⟩) ?_
 rotate_left 2
 refine zE (Be r f n) (⟨r.plan,r.s,r.at_+n,((r.out++[(A6 f n)])++[(⟨4,0,0,0,As r n,0,0⟩:Ev)])++[shutEv],r.fail⟩:Mr) (fun hm1=>⟨(Ac Q5 Q5),Q34,(sB ?_),Q17⟩) ?_
 rotate_left 2
 refine⟨h2,dsp (fun h4 p4=>?_) fun h4 p4=>?_⟩
 refine zE (Be r f n) (Bb (⟨r.plan,r.s,r.at_,r.out++[(A6 f n)],r.fail⟩:Mr) 10 (r.s.length:Int)) (fun hm1=>⟨(Gt (⟨r.plan,r.s,r.at_,r.out++[(A6 f n)],r.fail⟩:Mr) _ _),(sB ?_),Q17⟩) ?_
 rotate_left 2
 refine⟨fun h5=>have q5:=Ar h5;have p5:=(M2 dT (M2 dT dF)).1 q5;?_,fun h5=>have q5:=Ao h5;have p5:=(M1 dT (M1 dT dT)).1 q5;?_⟩
 refine zE (Be r f n) (Bb (⟨r.plan,r.s,r.at_,r.out++[(A6 f n)],r.fail⟩:Mr) 5 (r.at_+n)) (fun hm1=>⟨(Ac Q5 Q5),(Gt (⟨r.plan,r.s,r.at_,r.out++[(A6 f n)],r.fail⟩:Mr) _ _),(sB ?_),Q17⟩) ?_
 rotate_left 2
 refine zE (Be r f n) (⟨r.plan,r.s,r.at_+n,(r.out++[(A6 f n)])++[shutEv],r.fail⟩:Mr) (fun hm1=>⟨(Ac Q5 Q5),Q34,(sB ?_),Q17⟩) ?_
 rotate_left 2
 refine⟨Q26,fun h2=>have q2:=Ar h2;have p2:=of_decide_eq_false q2;?_,fun h2=>have q2:=Ao h2;have p2:=of_decide_eq_true q2;?_⟩
 refine⟨Q34,Q26,dsp (fun h3 p3=>?_) fun h3 p3=>?_⟩
 refine zE (Be r f n) (Bb (⟨r.plan,r.s,r.at_,(r.out++[(A6 f n)])++[(⟨4,0,0,0,As r n,0,0⟩:Ev)],r.fail⟩:Mr) 10 (r.s.length:Int)) (fun hm1=>⟨(Gt (⟨r.plan,r.s,r.at_,(r.out++[(A6 f n)])++[(⟨4,0,0,0,As r n,0,0⟩:Ev)],r.fail⟩:Mr) _ _),(sB ?_),Q17⟩) ?_
 rotate_left 2
 refine⟨fun h4=>have q4:=Ar h4;have p4:=(M2 dT (M2 dT dF)).1 q4;?_,fun h4=>have q4:=Ao h4;have p4:=(M1 dT (M1 dT dT)).1 q4;?_⟩
 refine zE (Be r f n) (Bb (⟨r.plan,r.s,r.at_,(r.out++[(A6 f n)])++[(⟨4,0,0,0,As r n,0,0⟩:Ev)],r.fail⟩:Mr) 5 (r.at_+n)) (fun hm1=>⟨(Ac Q5 Q5),(Gt (⟨r.plan,r.s,r.at_,(r.out++[(A6 f n)])++[(⟨4,0,0,0,As r n,0,0⟩:Ev)],r.fail⟩:Mr) _ _),(sB ?_),Q17⟩) ?_
 rotate_left 2
 refine zE (Be r f n) (⟨r.plan,r.s,r.at_+n,((r.out++[(A6 f n)])++[(⟨4,0,0,0,As r n,0,0⟩:Ev)])++[shutEv],r.fail⟩:Mr) (fun hm1=>⟨(Ac Q5 Q5),Q34,(sB ?_),Q17⟩) ?_
 rotate_left 2
 refine⟨Q26,dsp (fun h3 p3=>?_) fun h3 p3=>?_⟩
 refine zE (Be r f n) (Bb (⟨r.plan,r.s,r.at_,r.out++[(A6 f n)],r.fail⟩:Mr) 10 (r.s.length:Int)) (fun hm1=>⟨(Gt (⟨r.plan,r.s,r.at_,r.out++[(A6 f n)],r.fail⟩:Mr) _ _),(sB ?_),Q17⟩) ?_
 rotate_left 2
 refine⟨fun h4=>have q4:=Ar h4;have p4:=(M2 dT (M2 dT dF)).1 q4;?_,fun h4=>have q4:=Ao h4;have p4:=(M1 dT (M1 dT dT)).1 q4;?_⟩
 refine zE (Be r f n) (Bb (⟨r.plan,r.s,r.at_,r.out++[(A6 f n)],r.fail⟩:Mr) 5 (r.at_+n)) (fun hm1=>⟨(Ac Q5 Q5),(Gt (⟨r.plan,r.s,r.at_,r.out++[(A6 f n)],r.fail⟩:Mr) _ _),(sB ?_),Q17⟩) ?_
 rotate_left 2
 refine zE (Be r f n) (⟨r.plan,r.s,r.at_+n,(r.out++[(A6 f n)])++[shutEv],r.fail⟩:Mr) (fun hm1=>⟨(Ac Q5 Q5),Q34,(sB ?_),Q17⟩) ?_
 rotate_left 2
 all_goals first|(simp[hm1,Bb,Bx,hp3];done)|(simp_all[Be,Ce,Dy,E7,Vi,Aj,Gh,Bb,A6,D5,shutEv];done)|(grind (ematch:=20) (gen:=20) [Be,Ce,Dy,E7,Vi,Aj,Gh,Bb,A6,D5,shutEv])
theorem Apj (r:Mr) (f:Fld) (n:Int) (hp1:List.length (r).s≤1048576) (hp2:(r).at_≤((List.length (r).s:Nat):Int)) (hp3:(r).fail.kind=0) (hp4:((List.length (r).out:Nat):Int)+4*(((List.length (r).s:Nat):Int)-(r).at_)≤99999996) (hp5:(0:Int)≤(r).at_) (hp6:(0:Int)≤n∧(r).at_+n≤9223372036854775807):Fun Tryz.prog 193 [vP 0,.agg (Dd f),vI n] [.cells (B7 1 r),.lst .ev r.out] (.tup []) [.cells (B7 2 (Be r f n)),.dead,.lst .ev (Be r f n).out]:=by
 have hN:Ba=274877906944:=rfl
 have htl:=Rk hp6.1 hp5 hp2
 have hub:=Agg utf0 (As r n)
 have hu0:utf0.want=0∧utf0.low=0∧utf0.high=0:=⟨rfl,rfl,rfl⟩
 have huw:=K5 (R8 (u:=utf0) (s:=As r n) (by decide))
 have huz:(Ft utf0 (As r n)).want=0→(Ft utf0 (As r n)).low=0∧(Ft utf0 (As r n)).high=0:=fun h0=>by rw[K4 (R8 (u:=utf0) (s:=As r n) (by decide)) h0];exact⟨rfl,rfl⟩
 refine Av Tryz.func193 Q8 Q8 (w:=let zi:Int→C:= .int .i64;let z6:List C:=[zi 5,zi 0,.int .u64 0,zi 0,.str [],zi 0,zi 0];let z8:=Aj r (A6 f n);let z9:=Aj z8 (⟨4,0,0,0,As r n,0,0⟩:Ev);let z13:List Blk:=[.cells (B7 2 (Be r f n)),.dead,.lst .ev (Be r f n).out];let z15:=(z8.s.length:Int);let z17:=z8.at_+n;let z4:List C:=[.seq .shp z8.plan.shapes,zi z8.plan.root,zi z8.plan.deep,zi z8.plan.most,.str z8.s,zi z17,.own 1,zi z8.fail.kind,zi z8.fail.field,.int .u64 z8.fail.bits,zi z8.fail.len,.str z8.fail.text,zi z8.fail.code,zi z8.fail.at_];let z19:=As r n;let z7:List C:=[zi 4,zi 0,.int .u64 0,zi 0,.str z19,zi 0,zi 0];let z21:=decide ((z19.length:Int)<n);let z22:=Bx 10 z15;let z3:List C:=[.seq .shp z8.plan.shapes,zi z8.plan.root,zi z8.plan.deep,zi z8.plan.most,.str z8.s,zi z8.at_,.own 2,zi z22.kind,zi z22.field,.int .u64 z22.bits,zi z22.len,.str z22.text,zi z22.code,zi z22.at_];let z23:List Blk:=[.cells (B7 2 z9),.dead,.lst .ev z9.out];let z24:=utf0;let z14:=C1 z24 z19;let z25:=Bx 5 z17;let z26:=Aj (⟨z9.plan,z9.s,z9.at_+n,z9.out,z9.fail⟩:Mr) shutEv;let z11:List Blk:=[.cells (B7 2 z26),.dead,.lst .ev z26.out];let z27:=Aj (⟨z8.plan,z8.s,z8.at_+n,z8.out,z8.fail⟩:Mr) shutEv;let z12:List Blk:=[.cells (B7 2 z27),.dead,.lst .ev z27.out];let z29:=z9.at_+n;let z2:List C:=[.seq .shp z9.plan.shapes,zi z9.plan.root,zi z9.plan.deep,zi z9.plan.most,.str z9.s,zi z29,.own 1,zi z9.fail.kind,zi z9.fail.field,.int .u64 z9.fail.bits,zi z9.fail.len,.str z9.fail.text,zi z9.fail.code,zi z9.fail.at_];let z20:=Bx 5 z29;let z30:=(z9.s.length:Int);let z16:=Bx 10 z30;let z1:List C:=[.seq .shp z9.plan.shapes,zi z9.plan.root,zi z9.plan.deep,zi z9.plan.most,.str z9.s,zi z9.at_,.own 2,zi z16.kind,zi z16.field,.int .u64 z16.bits,zi z16.len,.str z16.text,zi z16.code,zi z16.at_];let z31:S:= .v (.agg (cEv z16));let z32:S:= .v (.agg (cEv z22));let z33:S:= .tup [.agg (Hy (Ft z24 z19)),vI z14];let z34:=(!decide (z9.fail.kind=0))=false;let z35:=(!decide (z8.fail.kind=0))=false;let z36:List Blk:=[.cells (B7 2 z8),.dead,.lst .ev z8.out];let z37:=z8.at_+z14;let z18:=Bx 5 z37;let z5:List C:=[zi z18.kind,zi z18.field,.int .u64 z18.bits,zi z18.len,.str z18.text,zi z18.code,zi z18.at_];let z10:=Aj (⟨z8.plan,z8.s,z8.at_,z8.out,z18⟩:Mr) (⟨4,0,0,0,List.take (z14.toNat) z19,0,0⟩:Ev);let z28:List Blk:=[.cells (B7 2 z10),.dead,.lst .ev z10.out];let z38:=decide (0<(Ft z24 z19).want);let z39:List V:=[vP 0,.agg z6];let z40:S:= .v (vI z17);(.seg [.call [0,1] (.tup []) z36,.ord (os 22 [19]) [],.as 34 z40,.call [] (.v (vI (min z15 z17))) [],.as 36 (.v (vT z19))] (.br (.seg [.call [] z33 []] (.br (.seg [.as 56 (.v (vI z37)),.call [] (.v (.agg (cEv z18))) []] (.br (.seg [.call [0,3] (.tup []) z28,.br true] (.leaf () [0,1,6])) (.seg [.br true] (.leaf () [0,1,3])))) (.br (.seg [.call [0,3] (.tup []) z23,.br false] (.br (.seg [.call [] z31 []] (.leaf () [0,1,6])) (.br (.seg [.as 112 (.v (vI z29)),.call [] (.v (.agg (cEv z20))) []] (.leaf () [0,1,6])) (.seg [.as 75 (.v (vI z29)),.call [0,6] (.tup []) z11] (.leaf () [0,1,7]))))) (.seg [.br false] (.br (.seg [.call [] z32 []] (.leaf () [0,1,3])) (.br (.seg [.as 112 z40,.call [] (.v (.agg (cEv z25))) []] (.leaf () [0,1,3])) (.seg [.as 75 z40,.call [0,3] (.tup []) z12] (.leaf () [0,1,6])))))))) (.br (.seg [.call [0,3] (.tup []) z23,.br false] (.br (.seg [.call [] z31 []] (.leaf () [0,1,5])) (.seg [.br false,.as 75 (.v (vI z29)),.call [0,5] (.tup []) z11] (.leaf () [0,1,6])))) (.seg [.br false] (.br (.seg [.call [] z32 []] (.leaf () [0,1,3])) (.seg [.br false,.as 75 z40,.call [0,3] (.tup []) z12] (.leaf () [0,1,5])))))),(Fp 192 [vP 0,.agg [zi 3,zi f.number,.int .u64 0,zi n,.str [],zi 0,zi 0]] [.cells (B7 1 r),.lst .ev r.out] (.tup []) z36)∧(wI z17)∧(wI z17)∧(Fp 74 [vI z15,vI z17] [] (.v (vI (min z15 z17))) [])∧(min z15 z17≤z15)∧(z8.at_≤min z15 z17)∧((0:Int)≤z8.at_)∧((.v (vT (List.drop (z8.at_.toNat) (List.take (Int.toNat (min z15 z17)) z8.s))):S)= .v (vT z19))∧Bc (decide (f.kind=6)) ((Fp 228 [.agg [zi 0,zi 0,zi 0],vT z19] [] z33 [])∧Bc (decide (0≤C1 z24 z19)) ((wI z37)∧(Fp 113 [vI 5,vI z37] [] (.v (.agg (cEv z18))) [])∧(C1 z24 z19≤(z19.length:Int))∧((0:Int)≤C1 z24 z19)∧Bc (!decide (List.take (z14.toNat) z19=[])) ((Fp 192 [vP 0,.agg [zi 4,zi 0,.int .u64 0,zi 0,.str (List.take (z14.toNat) z19),zi 0,zi 0]] [.cells (.seq .shp z8.plan.shapes::zi z8.plan.root::zi z8.plan.deep::zi z8.plan.most:: .str z8.s::zi z8.at_:: .own 1::z5),.lst .ev z8.out] (.tup []) z28)∧((!decide (z10.fail.kind=0))=true)∧Lf (.tup []) (.tup []) z28 z13) (((!decide (z18.kind=0))=true)∧Lf (.tup []) (.tup []) [.cells (.seq .shp z8.plan.shapes::zi z8.plan.root::zi z8.plan.deep::zi z8.plan.most:: .str z8.s::zi z8.at_:: .own 2::z5),.dead,.lst .ev z8.out] z13)) (Bc (!decide (As r n=[])) ((Fp 192 [vP 0,.agg z7] [.cells (B7 1 z8),.lst .ev z8.out] (.tup []) z23)∧z34∧Bc z21 ((Fp 113 [vI 10,vI z30] [] z31 [])∧Lf (.tup []) (.tup []) [.cells z1,.dead,.lst .ev z9.out] z13) (Bc z38 ((wI z29)∧(Fp 113 [vI 5,vI z29] [] (.v (.agg (cEv z20))) [])∧Lf (.tup []) (.tup []) [.cells [.seq .shp z9.plan.shapes,zi z9.plan.root,zi z9.plan.deep,zi z9.plan.most,.str z9.s,zi z9.at_,.own 2,zi z20.kind,zi z20.field,.int .u64 z20.bits,zi z20.len,.str z20.text,zi z20.code,zi z20.at_],.dead,.lst .ev z9.out] z13) ((wI z29)∧(Fp 192 z39 [.cells z2,.lst .ev z9.out] (.tup []) z11)∧Lf (.tup []) (.tup []) z11 z13))) (z35∧Bc z21 ((Fp 113 [vI 10,vI z15] [] z32 [])∧Lf (.tup []) (.tup []) [.cells z3,.dead,.lst .ev z8.out] z13) (Bc z38 ((wI z17)∧(Fp 113 [vI 5,vI z17] [] (.v (.agg (cEv z25))) [])∧Lf (.tup []) (.tup []) [.cells [.seq .shp z8.plan.shapes,zi z8.plan.root,zi z8.plan.deep,zi z8.plan.most,.str z8.s,zi z8.at_,.own 2,zi z25.kind,zi z25.field,.int .u64 z25.bits,zi z25.len,.str z25.text,zi z25.code,zi z25.at_],.dead,.lst .ev z8.out] z13) ((wI z17)∧(Fp 192 z39 [.cells z4,.lst .ev z8.out] (.tup []) z12)∧Lf (.tup []) (.tup []) z12 z13))))) (Bc (!decide (As r n=[])) ((Fp 192 [vP 0,.agg z7] [.cells (B7 1 z8),.lst .ev z8.out] (.tup []) z23)∧z34∧Bc z21 ((Fp 113 [vI 10,vI z30] [] z31 [])∧Lf (.tup []) (.tup []) [.cells z1,.dead,.lst .ev z9.out] z13) (((decide (0<0))=false)∧(wI z29)∧(Fp 192 z39 [.cells z2,.lst .ev z9.out] (.tup []) z11)∧Lf (.tup []) (.tup []) z11 z13)) (z35∧Bc z21 ((Fp 113 [vI 10,vI z15] [] z32 [])∧Lf (.tup []) (.tup []) [.cells z3,.dead,.lst .ev z8.out] z13) (((decide (0<0))=false)∧(wI z17)∧(Fp 192 z39 [.cells z4,.lst .ev z8.out] (.tup []) z12)∧Lf (.tup []) (.tup []) z12 z13))))) Q8 ?_
 refine⟨(Qb r (A6 f n) Q5),(Ac Q41 Q41),(Ac Q41 Q41),(Ast _ _),Q38,Q38,Q41,(Apc (Ada (s:=r.s) (a:=r.at_) (n:=n) Q5 Q5 Q5 (by first|omega|(simp only[Aj];omega)))),dsp (fun h1 p1=>?_) fun h1 p1=>?_⟩
 refine⟨(X6 utf0 _ Q5),dsp (fun h2 p2=>?_) fun h2 p2=>?_⟩
 refine⟨(Ac Q41 Q41),(Dz _ _),Q5,Q5,fun h3=>have q3:=Ar h3;have p3:=of_decide_eq_false q3;?_,fun h3=>have q3:=Ao h3;have p3:=of_decide_eq_true q3;?_⟩
 refine zE (Be r f n) (Aj (⟨(Aj r (A6 f n)).plan,(Aj r (A6 f n)).s,(Aj r (A6 f n)).at_,(Aj r (A6 f n)).out,(Bx 5 ((Aj r (A6 f n)).at_+(C1 utf0 (As r n))))⟩:Mr) (⟨4,0,0,0,List.take (Int.toNat (C1 utf0 (As r n))) (As r n),0,0⟩:Ev)) (fun hm1=>⟨(Qb (⟨(Aj r (A6 f n)).plan,(Aj r (A6 f n)).s,(Aj r (A6 f n)).at_,(Aj r (A6 f n)).out,(Bx 5 ((Aj r (A6 f n)).at_+(C1 utf0 (As r n))))⟩:Mr) (⟨4,0,0,0,List.take (Int.toNat (C1 utf0 (As r n))) (As r n),0,0⟩:Ev) Q38),(W1 (decide_eq_false (by simp[Aj,Bx]))),rfl,Q17⟩) ?_
 rotate_left
 refine zE (Be r f n) (⟨(Aj r (A6 f n)).plan,(Aj r (A6 f n)).s,(Aj r (A6 f n)).at_,(Aj r (A6 f n)).out,(Bx 5 ((Aj r (A6 f n)).at_+(C1 utf0 (As r n))))⟩:Mr) (fun hm1=>⟨(W1 (decide_eq_false (by simp[Aj,Bx]))),rfl,Q17⟩) ?_
 rotate_left
 refine⟨fun h3=>have q3:=Ar h3;have p3:=of_decide_eq_false q3;?_,fun h3=>have q3:=Ao h3;have p3:=of_decide_eq_true q3;?_⟩
 refine⟨(Qb (Aj r (A6 f n)) (⟨4,0,0,0,As r n,0,0⟩:Ev) Q38),(W3 (decide_eq_true hp3)),dsp (fun h4 p4=>?_) fun h4 p4=>?_⟩
 refine zE (Be r f n) (⟨(Aj (Aj r (A6 f n)) (⟨4,0,0,0,As r n,0,0⟩:Ev)).plan,(Aj (Aj r (A6 f n)) (⟨4,0,0,0,As r n,0,0⟩:Ev)).s,(Aj (Aj r (A6 f n)) (⟨4,0,0,0,As r n,0,0⟩:Ev)).at_,(Aj (Aj r (A6 f n)) (⟨4,0,0,0,As r n,0,0⟩:Ev)).out,(Bx 10 ((List.length (Aj (Aj r (A6 f n)) (⟨4,0,0,0,As r n,0,0⟩:Ev)).s:Nat):Int))⟩:Mr) (fun hm1=>⟨(Dz _ _),rfl,Q17⟩) ?_
 rotate_left
 refine dsp (fun h5 p5=>?_) fun h5 p5=>?_
 refine zE (Be r f n) (⟨(Aj (Aj r (A6 f n)) (⟨4,0,0,0,As r n,0,0⟩:Ev)).plan,(Aj (Aj r (A6 f n)) (⟨4,0,0,0,As r n,0,0⟩:Ev)).s,(Aj (Aj r (A6 f n)) (⟨4,0,0,0,As r n,0,0⟩:Ev)).at_,(Aj (Aj r (A6 f n)) (⟨4,0,0,0,As r n,0,0⟩:Ev)).out,(Bx 5 ((Aj (Aj r (A6 f n)) (⟨4,0,0,0,As r n,0,0⟩:Ev)).at_+n))⟩:Mr) (fun hm1=>⟨(Ac Q41 Q41),(Dz _ _),rfl,Q17⟩) ?_
 rotate_left
 refine zE (Be r f n) (Aj (⟨(Aj (Aj r (A6 f n)) (⟨4,0,0,0,As r n,0,0⟩:Ev)).plan,(Aj (Aj r (A6 f n)) (⟨4,0,0,0,As r n,0,0⟩:Ev)).s,(Aj (Aj r (A6 f n)) (⟨4,0,0,0,As r n,0,0⟩:Ev)).at_+n,(Aj (Aj r (A6 f n)) (⟨4,0,0,0,As r n,0,0⟩:Ev)).out,(Aj (Aj r (A6 f n)) (⟨4,0,0,0,As r n,0,0⟩:Ev)).fail⟩:Mr) shutEv) (fun hm1=>⟨(Ac Q41 Q41),(Qb (⟨(Aj (Aj r (A6 f n)) (⟨4,0,0,0,As r n,0,0⟩:Ev)).plan,(Aj (Aj r (A6 f n)) (⟨4,0,0,0,As r n,0,0⟩:Ev)).s,(Aj (Aj r (A6 f n)) (⟨4,0,0,0,As r n,0,0⟩:Ev)).at_+n,(Aj (Aj r (A6 f n)) (⟨4,0,0,0,As r n,0,0⟩:Ev)).out,(Aj (Aj r (A6 f n)) (⟨4,0,0,0,As r n,0,0⟩:Ev)).fail⟩:Mr) shutEv Q38),rfl,Q17⟩) ?_
 rotate_left
 refine⟨(W3 (decide_eq_true hp3)),dsp (fun h4 p4=>?_) fun h4 p4=>?_⟩
 refine zE (Be r f n) (⟨(Aj r (A6 f n)).plan,(Aj r (A6 f n)).s,(Aj r (A6 f n)).at_,(Aj r (A6 f n)).out,(Bx 10 ((List.length (Aj r (A6 f n)).s:Nat):Int))⟩:Mr) (fun hm1=>⟨(Dz _ _),rfl,Q17⟩) ?_
 rotate_left
 refine dsp (fun h5 p5=>?_) fun h5 p5=>?_
 refine zE (Be r f n) (⟨(Aj r (A6 f n)).plan,(Aj r (A6 f n)).s,(Aj r (A6 f n)).at_,(Aj r (A6 f n)).out,(Bx 5 ((Aj r (A6 f n)).at_+n))⟩:Mr) (fun hm1=>⟨(Ac Q41 Q41),(Dz _ _),rfl,Q17⟩) ?_
 rotate_left
 refine zE (Be r f n) (Aj (⟨(Aj r (A6 f n)).plan,(Aj r (A6 f n)).s,(Aj r (A6 f n)).at_+n,(Aj r (A6 f n)).out,(Aj r (A6 f n)).fail⟩:Mr) shutEv) (fun hm1=>⟨(Ac Q41 Q41),(Qb (⟨(Aj r (A6 f n)).plan,(Aj r (A6 f n)).s,(Aj r (A6 f n)).at_+n,(Aj r (A6 f n)).out,(Aj r (A6 f n)).fail⟩:Mr) shutEv Q38),rfl,Q17⟩) ?_
 rotate_left
 refine⟨fun h2=>have q2:=Ar h2;have p2:=of_decide_eq_false q2;?_,fun h2=>have q2:=Ao h2;have p2:=of_decide_eq_true q2;?_⟩
 refine⟨(Qb (Aj r (A6 f n)) (⟨4,0,0,0,As r n,0,0⟩:Ev) Q38),(W3 (decide_eq_true hp3)),dsp (fun h3 p3=>?_) fun h3 p3=>?_⟩
 refine zE (Be r f n) (⟨(Aj (Aj r (A6 f n)) (⟨4,0,0,0,As r n,0,0⟩:Ev)).plan,(Aj (Aj r (A6 f n)) (⟨4,0,0,0,As r n,0,0⟩:Ev)).s,(Aj (Aj r (A6 f n)) (⟨4,0,0,0,As r n,0,0⟩:Ev)).at_,(Aj (Aj r (A6 f n)) (⟨4,0,0,0,As r n,0,0⟩:Ev)).out,(Bx 10 ((List.length (Aj (Aj r (A6 f n)) (⟨4,0,0,0,As r n,0,0⟩:Ev)).s:Nat):Int))⟩:Mr) (fun hm1=>⟨(Dz _ _),rfl,Q17⟩) ?_
 rotate_left
 refine zE (Be r f n) (Aj (⟨(Aj (Aj r (A6 f n)) (⟨4,0,0,0,As r n,0,0⟩:Ev)).plan,(Aj (Aj r (A6 f n)) (⟨4,0,0,0,As r n,0,0⟩:Ev)).s,(Aj (Aj r (A6 f n)) (⟨4,0,0,0,As r n,0,0⟩:Ev)).at_+n,(Aj (Aj r (A6 f n)) (⟨4,0,0,0,As r n,0,0⟩:Ev)).out,(Aj (Aj r (A6 f n)) (⟨4,0,0,0,As r n,0,0⟩:Ev)).fail⟩:Mr) shutEv) (fun hm1=>⟨Q26,(Ac Q41 Q41),(Qb (⟨(Aj (Aj r (A6 f n)) (⟨4,0,0,0,As r n,0,0⟩:Ev)).plan,(Aj (Aj r (A6 f n)) (⟨4,0,0,0,As r n,0,0⟩:Ev)).s,(Aj (Aj r (A6 f n)) (⟨4,0,0,0,As r n,0,0⟩:Ev)).at_+n,(Aj (Aj r (A6 f n)) (⟨4,0,0,0,As r n,0,0⟩:Ev)).out,(Aj (Aj r (A6 f n)) (⟨4,0,0,0,As r n,0,0⟩:Ev)).fail⟩:Mr) shutEv Q38),rfl,Q17⟩) ?_
 rotate_left
 refine⟨(W3 (decide_eq_true hp3)),dsp (fun h3 p3=>?_) fun h3 p3=>?_⟩
 refine zE (Be r f n) (⟨(Aj r (A6 f n)).plan,(Aj r (A6 f n)).s,(Aj r (A6 f n)).at_,(Aj r (A6 f n)).out,(Bx 10 ((List.length (Aj r (A6 f n)).s:Nat):Int))⟩:Mr) (fun hm1=>⟨(Dz _ _),rfl,Q17⟩) ?_
 rotate_left
 refine zE (Be r f n) (Aj (⟨(Aj r (A6 f n)).plan,(Aj r (A6 f n)).s,(Aj r (A6 f n)).at_+n,(Aj r (A6 f n)).out,(Aj r (A6 f n)).fail⟩:Mr) shutEv) (fun hm1=>⟨Q26,(Ac Q41 Q41),(Qb (⟨(Aj r (A6 f n)).plan,(Aj r (A6 f n)).s,(Aj r (A6 f n)).at_+n,(Aj r (A6 f n)).out,(Aj r (A6 f n)).fail⟩:Mr) shutEv Q38),rfl,Q17⟩) ?_
 rotate_left
 all_goals first|(simp[hm1,Bb,Bx,hp3];done)|(simp_all[Be,Ce,Dy,E7,Vi,Aj,Gh,Bb,A6,D5,shutEv];done)|(grind (ematch:=20) (gen:=20) [Be,Ce,Dy,E7,Vi,Aj,Gh,Bb,A6,D5,shutEv])
def Aj6 (K:Nat):Prop:= ∀(r:Mr) (shape:Int) (end_:Int) (deep:Int) (hp1:List.length (r).s≤1048576) (hp2:(r).at_≤((List.length (r).s:Nat):Int)) (hp3:(r).fail.kind=0) (hp4:((List.length (r).out:Nat):Int)+4*(((List.length (r).s:Nat):Int)-(r).at_)≤100000000) (hp5:(0:Int)≤(r).at_) (hp6: -1000000000≤end_∧end_≤9223372036854775807) (hp7:B3 (r).plan=true) (hp8:(1:Int)≤deep∧deep≤(r).plan.deep) (hp9:Int.toNat ((r).plan.deep-deep)<K),Fun Tryz.prog 70 [vP 0,vI shape,vI end_,vI deep] [.cells (B7 1 r),.lst .ev r.out] (.v (vB (decide ((Dk (Int.toNat ((r).plan.deep-deep)) shape end_ r).fail.kind=0)))) [.cells (B7 2 (Dk (Int.toNat ((r).plan.deep-deep)) shape end_ r)),.dead,.lst .ev (Dk (Int.toNat ((r).plan.deep-deep)) shape end_ r).out]
theorem Apk (K:Nat) (hM:Aj6 K) (r:Mr) (f:Fld) (known:Bool) (end_:Int) (deep:Int) (hp1:List.length (r).s≤1048576) (hp2:(r).at_≤((List.length (r).s:Nat):Int)) (hp3:(r).fail.kind=0) (hp4:((List.length (r).out:Nat):Int)+4*(((List.length (r).s:Nat):Int)-(r).at_)≤100000000) (hp5:(0:Int)≤(r).at_) (hp6: -1000000000≤end_∧end_≤9223372036854775807) (hp7:B3 (r).plan=true) (hp8:(1:Int)≤deep∧deep≤(r).plan.deep) (hp9:known=true→1≤(f).number) (hp10:known=true→1≤(f).kind∧(f).kind≤8) (hp11:Int.toNat ((r).plan.deep-deep)≤K):Fun Tryz.prog 124 [vP 0,.agg (Dd f),vB known,vI end_,vI deep] [.cells (B7 1 r),.lst .ev r.out] (.v (vB (decide ((A7 (Ei (Int.toNat ((r).plan.deep-deep))) r f (known) end_).fail.kind=0)))) [.cells (B7 2 (A7 (Ei (Int.toNat ((r).plan.deep-deep))) r f (known) end_)),.dead,.lst .ev (A7 (Ei (Int.toNat ((r).plan.deep-deep))) r f (known) end_).out]:=by
 have hN:Ba=274877906944:=rfl
 have hpt:=C6 hp7
 obtain ⟨hv,hv2,hv3⟩:=Cz (e:=end_) hp2
 have hvk:=Cg (r:=r) (e:=end_) hp3
 have hu:=Jo r end_
 have hvs:=congrArg List.length hv.1.s
 have hvo:=congrArg List.length hv3
 have hvp:=hv.1.plan
 have hvd:(Ad r end_).plan.deep=r.plan.deep:=by rw[hvp]
 have hnm:Bs f.kind=true↔1≤f.kind∧f.kind≤5:=by simp[Bs,Aw]
 refine Av Tryz.func124 Q8 Q8 (w:=let zi:Int→C:= .int .i64;let z2:=A7 (Ei (Int.toNat ((r).plan.deep-deep))) r f (known) end_;let z3:=Ad r end_;let z5:List Blk:=[.cells (B7 2 z2),.dead,.lst .ev z2.out];let z6:=(z3.s.length:Int);let z7:S:= .v (vB (decide (z2.fail.kind=0)));let z9:List Blk:=[.cells (B7 1 z3),.lst .ev z3.out];let z10:=(⟨6,f.number,0,Am r end_,[],0,0⟩:Ev);let z12:S:= .v (vB false);let z14:=Bb z3 8 r.at_;let z15:=Bb z3 6 r.at_;let z18:=Am r end_;let z4:=z3.at_+z18;let z8:=Be z3 f z18;let z11:List Blk:=[.cells (B7 2 (G4 z3 f z4)),.dead,.lst .ev (G4 z3 f z4).out];let z13:S:= .v (vB (decide ((G4 z3 f z4).fail.kind=0)));let z17:List Blk:=[.cells (B7 2 z8),.dead,.lst .ev z8.out];let z19:=Bb z3 10 z6;let z20:S:= .v (vB (decide (z8.fail.kind=0)));let z21:=(⟨z3.plan,z3.s,z3.at_,z3.out++[z10],z3.fail⟩:Mr);let z1:=Dk (Int.toNat ((z21).plan.deep-(deep+1))) f.msg z4 z21;let z16:List Blk:=[.cells (B7 2 z1),.dead,.lst .ev z1.out];let z22:=decide (z1.fail.kind=0);let z23:S:= .tup [.c (.int .u64 z18),vB (Bf r end_)];let z24:=end_-z3.at_;(.seg [.call [0,1] z23 z9] (.br (.seg [.at 0,.cut 0 6] (.leaf () [0,1,3])) (.seg [.as 35 (.v (vI z24)),.as 36 (.v (.c (.int .u64 z24)))] (.br (.seg [.call [0,1] z12 [.cells (B7 1 z14),.lst .ev z14.out],.at 0,.cut 0 6] (.leaf () [0,1,3])) (.seg [.as 42 (.v (vI z18))] (.br (.seg [.ord (os 12 []) [],.as 56 (.v (vI (z6-z3.at_)))] (.br (.seg [.call [0,1] z12 [.cells (B7 1 z19),.lst .ev z19.out],.at 0,.cut 0 6] (.leaf () [0,1,3])) (.seg [.as 70 (.v (vI z4)),.at 0,.cut 0 6] (.leaf () [0,1,3])))) (.br (.br (.seg [.call [0,1] z12 [.cells (B7 1 z15),.lst .ev z15.out],.at 0,.cut 0 6] (.leaf () [0,1,3])) (.seg [.ord (os 14 [9,10,13]) [1],.ty .ev,.ty .ev,.tree (fr (.one 11 (.first 12 (.done))) 0 11) 11 [],.as 108 (.v (vI z4)),.as 110 (.v (vI (deep+1))),.call [0,4] (.v (vB z22)) z16] (.br (.leaf () [0,1,5]) (.seg [.ty .ev,.ty .ev] (.leaf () [0,1,7]))))) (.seg [.call [] (.v (vB (Bs f.kind))) []] (.br (.seg [.tree (fr (.one 8 (.first 9 (.done))) 0 8) 8 [],.as 134 (.v (vI z4)),.call [0,1] z13 z11] (.leaf () [0,1,3])) (.seg [.call [0,1] z20 z17] (.leaf () [0,1,3])))))))))),(Fp 110 [vP 0,vI end_] [.cells (B7 1 r),.lst .ev r.out] z23 z9)∧Bc (!(Bf r end_)) (Lf z12 z7 [.cells (B7 2 z3),.dead,.lst .ev z3.out] z5) ((wI z24)∧(wU z24)∧Bc (decide (end_-z3.at_<Am r end_)) ((Fp 111 [vP 0,vI 8,vI r.at_] z9 z12 [.cells (B7 1 z14),.lst .ev z14.out])∧Lf z12 z7 [.cells (B7 2 z14),.dead,.lst .ev z14.out] z5) ((wI z18)∧Bc (!known) ((wI (z6-z3.at_))∧(wI (z6-z3.at_))∧Bc (decide (z6-z3.at_<Am r end_)) ((Fp 111 [vP 0,vI 10,vI z6] z9 z12 [.cells (B7 1 z19),.lst .ev z19.out])∧Lf z12 z7 [.cells (B7 2 z19),.dead,.lst .ev z19.out] z5) ((wI z4)∧Lf (.v (vB true)) z7 [.cells [.seq .shp z3.plan.shapes,zi z3.plan.root,zi z3.plan.deep,zi z3.plan.most,.str z3.s,zi z4,.own 2,zi z3.fail.kind,zi z3.fail.field,.int .u64 z3.fail.bits,zi z3.fail.len,.str z3.fail.text,zi z3.fail.code,zi z3.fail.at_],.dead,.lst .ev z3.out] z5)) (Bc (decide (f.kind=8)) (Bc (decide (deep=z3.plan.deep)) ((Fp 111 [vP 0,vI 6,vI r.at_] z9 z12 [.cells (B7 1 z15),.lst .ev z15.out])∧Lf z12 z7 [.cells (B7 2 z15),.dead,.lst .ev z15.out] z5) ((z3.out.length+List.length [z10]≤Ba)∧(wI z4)∧(wI z4)∧(wI (deep+1))∧(wI (deep+1))∧(Fp 70 [vP 0,vI f.msg,vI z4,vI (deep+1)] [.cells (B7 1 z3),.lst .ev (z3.out++[z10])] (.v (vB z22)) z16)∧Bc (!z22) (Lf z12 z7 z16 z5) ((z1.out.length+List.length [(⟨7,0,0,0,[],0,0⟩:Ev)]≤Ba)∧Lf (.v (vB true)) z7 [.cells (B7 2 z1),.dead,.lst .ev (z1.out++[(⟨7,0,0,0,[],0,0⟩:Ev)])] z5))) ((Fp 186 [vI f.kind] [] (.v (vB (Bs f.kind))) [])∧Bc (Bs f.kind) ((wI z4)∧(wI z4)∧(Fp 187 [vP 0,.agg (Dd f),vI z4] z9 z13 z11)∧Lf z13 z7 z11 z5) ((Fp 188 [vP 0,.agg (Dd f),vI z18] z9 z20 z17)∧Lf z20 z7 z17 z5))))))) Q8 ?_
 refine⟨(Nc r _ Q5),fun h1=>have q1:=Ar h1;?_,fun h1=>have q1:=Ao h1;?_⟩
 have hok:=q1
 refine zE (A7 (Ei (Int.toNat ((r).plan.deep-deep))) r f (known) end_) (Ad r end_) (fun hm1=>⟨(sB ?_),Q17⟩) ?_
 rotate_left 2
 have hok:=q1
 have hk:(Ad r end_).fail.kind=0:=by rw[hvk] at hok;simpa using hok
 have ha:=hv.1.at_ hk
 have hb:=hv.2 hk
 have h2:=hv2 hok
 refine⟨(Ac Q5 Q5),(Bm Q5 Q5),dsp (fun h2 p2=>?_) fun h2 p2=>?_⟩
 refine zE (A7 (Ei (Int.toNat ((r).plan.deep-deep))) r f (known) end_) (Bb (Ad r end_) 8 r.at_) (fun hm1=>⟨(Gt (Ad r end_) _ _),(sB ?_),Q17⟩) ?_
 rotate_left 2
 refine⟨(Ac Q5 Q5),fun h3=>have q3:=Ar h3;?_,fun h3=>have q3:=Ao h3;?_⟩
 refine⟨(Ac Q5 Q5),(Ac Q5 Q5),dsp (fun h4 p4=>?_) fun h4 p4=>?_⟩
 refine zE (A7 (Ei (Int.toNat ((r).plan.deep-deep))) r f (known) end_) (Bb (Ad r end_) 10 ((List.length (Ad r end_).s:Nat):Int)) (fun hm1=>⟨(Gt (Ad r end_) _ _),(sB ?_),Q17⟩) ?_
 rotate_left 2
 refine zE (A7 (Ei (Int.toNat ((r).plan.deep-deep))) r f (known) end_) (⟨(Ad r end_).plan,(Ad r end_).s,(Ad r end_).at_+(Am r end_),(Ad r end_).out,(Ad r end_).fail⟩:Mr) (fun hm1=>⟨(Ac Q5 Q5),(sB ?_),Q17⟩) ?_
 rotate_left 2
 refine dsp (fun h4 p4=>?_) fun h4 p4=>?_
 refine dsp (fun h5 p5=>?_) fun h5 p5=>?_
 have hsub: ∀(v:Mr) (n s:Int),Ei (Int.toNat (r.plan.deep-deep)) v f n s=Bb v 6 s:=fun v n s=>by rw[show Int.toNat (r.plan.deep-deep)=0 by omega];rfl
 refine zE (A7 (Ei (Int.toNat ((r).plan.deep-deep))) r f (known) end_) (Bb (Ad r end_) 6 r.at_) (fun hm1=>⟨(Gt (Ad r end_) _ _),(sB ?_),Q17⟩) ?_
 rotate_left 2
 have hsub: ∀(v:Mr) (n s:Int),Ei (Int.toNat (r.plan.deep-deep)) v f n s=if (Dk (Int.toNat (r.plan.deep-(deep+1))) f.msg (v.at_+n) (Aj v (Dc f n))).fail.kind=0 then Aj (Dk (Int.toNat (r.plan.deep-(deep+1))) f.msg (v.at_+n) (Aj v (Dc f n))) X7 else (Dk (Int.toNat (r.plan.deep-(deep+1))) f.msg (v.at_+n) (Aj v (Dc f n))):=fun v n s=>by rw[show Int.toNat (r.plan.deep-deep)=Int.toNat (r.plan.deep-(deep+1))+1 by omega];rfl
 refine⟨Q16,(Ac Q5 Q5),(Ac Q5 Q5),(Ac Q5 Q5),(Ac Q5 Q5),(hM (⟨(Ad r end_).plan,(Ad r end_).s,(Ad r end_).at_,(Ad r end_).out++[(⟨6,f.number,0,Am r end_,[],0,0⟩:Ev)],(Ad r end_).fail⟩:Mr) _ _ _ Q16 Q16 Q70 Q16 Q16 Q5 (by simpa [Aj,hvp] using hp7) (by simp only[Aj,hvp];omega) (by simp only[Aj,hvp];omega)),fun h6=>have q6:=Ar h6;have p6:=of_decide_eq_false q6;?_,fun h6=>have q6:=Ao h6;have p6:=of_decide_eq_true q6;?_⟩
 refine zE (A7 (Ei (Int.toNat ((r).plan.deep-deep))) r f (known) end_) (Dk (Int.toNat (((⟨(Ad r end_).plan,(Ad r end_).s,(Ad r end_).at_,(Ad r end_).out++[(⟨6,f.number,0,Am r end_,[],0,0⟩:Ev)],(Ad r end_).fail⟩:Mr)).plan.deep-(deep+1))) f.msg ((Ad r end_).at_+(Am r end_)) (⟨(Ad r end_).plan,(Ad r end_).s,(Ad r end_).at_,(Ad r end_).out++[(⟨6,f.number,0,Am r end_,[],0,0⟩:Ev)],(Ad r end_).fail⟩:Mr)) (fun hm1=>⟨(sB ?_),Q17⟩) ?_
 rotate_left 2
 refine zE (A7 (Ei (Int.toNat ((r).plan.deep-deep))) r f (known) end_) (⟨(Dk (Int.toNat (((⟨(Ad r end_).plan,(Ad r end_).s,(Ad r end_).at_,(Ad r end_).out++[(⟨6,f.number,0,Am r end_,[],0,0⟩:Ev)],(Ad r end_).fail⟩:Mr)).plan.deep-(deep+1))) f.msg ((Ad r end_).at_+(Am r end_)) (⟨(Ad r end_).plan,(Ad r end_).s,(Ad r end_).at_,(Ad r end_).out++[(⟨6,f.number,0,Am r end_,[],0,0⟩:Ev)],(Ad r end_).fail⟩:Mr)).plan,(Dk (Int.toNat (((⟨(Ad r end_).plan,(Ad r end_).s,(Ad r end_).at_,(Ad r end_).out++[(⟨6,f.number,0,Am r end_,[],0,0⟩:Ev)],(Ad r end_).fail⟩:Mr)).plan.deep-(deep+1))) f.msg ((Ad r end_).at_+(Am r end_)) (⟨(Ad r end_).plan,(Ad r end_).s,(Ad r end_).at_,(Ad r end_).out++[(⟨6,f.number,0,Am r end_,[],0,0⟩:Ev)],(Ad r end_).fail⟩:Mr)).s,(Dk (Int.toNat (((⟨(Ad r end_).plan,(Ad r end_).s,(Ad r end_).at_,(Ad r end_).out++[(⟨6,f.number,0,Am r end_,[],0,0⟩:Ev)],(Ad r end_).fail⟩:Mr)).plan.deep-(deep+1))) f.msg ((Ad r end_).at_+(Am r end_)) (⟨(Ad r end_).plan,(Ad r end_).s,(Ad r end_).at_,(Ad r end_).out++[(⟨6,f.number,0,Am r end_,[],0,0⟩:Ev)],(Ad r end_).fail⟩:Mr)).at_,(Dk (Int.toNat (((⟨(Ad r end_).plan,(Ad r end_).s,(Ad r end_).at_,(Ad r end_).out++[(⟨6,f.number,0,Am r end_,[],0,0⟩:Ev)],(Ad r end_).fail⟩:Mr)).plan.deep-(deep+1))) f.msg ((Ad r end_).at_+(Am r end_)) (⟨(Ad r end_).plan,(Ad r end_).s,(Ad r end_).at_,(Ad r end_).out++[(⟨6,f.number,0,Am r end_,[],0,0⟩:Ev)],(Ad r end_).fail⟩:Mr)).out++[(⟨7,0,0,0,[],0,0⟩:Ev)],(Dk (Int.toNat (((⟨(Ad r end_).plan,(Ad r end_).s,(Ad r end_).at_,(Ad r end_).out++[(⟨6,f.number,0,Am r end_,[],0,0⟩:Ev)],(Ad r end_).fail⟩:Mr)).plan.deep-(deep+1))) f.msg ((Ad r end_).at_+(Am r end_)) (⟨(Ad r end_).plan,(Ad r end_).s,(Ad r end_).at_,(Ad r end_).out++[(⟨6,f.number,0,Am r end_,[],0,0⟩:Ev)],(Ad r end_).fail⟩:Mr)).fail⟩:Mr) (fun hm1=>⟨(Ho Q16 Q16),(sB ?_),Q17⟩) ?_
 rotate_left 2
 refine⟨(Rb _),fun h5=>have p5:=Bp h5;?_,fun h5=>have p5:=Bw h5;?_⟩
 refine zE (A7 (Ei (Int.toNat ((r).plan.deep-deep))) r f (known) end_) (G4 (Ad r end_) f ((Ad r end_).at_+(Am r end_))) (fun hm1=>⟨(Ac Q5 Q5),(Ac Q5 Q5),(Aud (Ad r end_) f _ Q5 Q5 Q70 Q5 Q5 Q5 (by grind)),(sB ?_),Q17⟩) ?_
 rotate_left 2
 refine zE (A7 (Ei (Int.toNat ((r).plan.deep-deep))) r f (known) end_) (Be (Ad r end_) f (Am r end_)) (fun hm1=>⟨(Asx (Ad r end_) f _ Q5 Q5 Q70 Q5 Q5 Q5),(sB ?_),Q17⟩) ?_
 rotate_left 2
 all_goals first|(grind (ematch:=20) (gen:=20) [A7,Aj,Gh,Bb,Dc,X7,Bx])
def Aj7 (K:Nat):Prop:= ∀(r:Mr) (shape:Int) (end_:Int) (deep:Int) (hp1:List.length (r).s≤1048576) (hp2:(r).at_≤((List.length (r).s:Nat):Int)) (hp3:(r).fail.kind=0) (hp4:((List.length (r).out:Nat):Int)+4*(((List.length (r).s:Nat):Int)-(r).at_)≤100000000) (hp5:(0:Int)≤(r).at_) (hp6: -1000000000≤end_∧end_≤9223372036854775807) (hp7:B3 (r).plan=true) (hp8:(1:Int)≤deep∧deep≤(r).plan.deep) (hp9:Int.toNat ((r).plan.deep-deep)<K),Fun Tryz.prog 72 [vP 0,vI shape,vI end_,vI deep] [.cells (B7 1 r),.lst .ev r.out] (.tup []) [.cells (B7 2 (Dk (Int.toNat ((r).plan.deep-deep)) shape end_ r)),.dead,.lst .ev (Dk (Int.toNat ((r).plan.deep-deep)) shape end_ r).out]
structure Ue where
 r:Mr
def Uf (r:Mr) (f:Fld) (end_:Int):Fam:=⟨Ue,fun q1=>[(0,.v (vP 0)),(5,.v (vP 3)),(11,.v (vI ((Ad r end_).at_+(Am r end_))))],fun q1=>[.cells (B7 2 q1.r),.dead,.lst .ev q1.r.out,.cells (Dd f)],fun q1=>LInv (fun x=>Bq x f (A3 f.kind) ((Ad r end_).at_+Am r end_)) ((Ad r end_).at_+Am r end_) (Ad r end_) q1.r,fun q1=>Kj q1.r⟩
theorem Apm (K:Nat) (hM:Aj7 K) (r:Mr) (f:Fld) (end_:Int) (deep:Int) (hp1:List.length (r).s≤1048576) (hp2:(r).at_≤((List.length (r).s:Nat):Int)) (hp3:(r).fail.kind=0) (hp4:((List.length (r).out:Nat):Int)+4*(((List.length (r).s:Nat):Int)-(r).at_)≤100000000) (hp5:(0:Int)≤(r).at_) (hp6: -1000000000≤end_∧end_≤9223372036854775807) (hp7:B3 (r).plan=true) (hp8:(1:Int)≤deep∧deep≤(r).plan.deep) (hp9:(0:Int)≤(f).number) (hp10:(f).number=0∨1≤(f).kind∧(f).kind≤8) (hp11:Int.toNat ((r).plan.deep-deep)≤K):Fun Tryz.prog 132 [vP 0,.agg (Dd f),vI end_,vI deep] [.cells (B7 1 r),.lst .ev r.out] (.tup []) [.cells (B7 2 (A7 (Ei (Int.toNat ((r).plan.deep-deep))) r f (decide ((f).number≠0)) end_)),.dead,.lst .ev (A7 (Ei (Int.toNat ((r).plan.deep-deep))) r f (decide ((f).number≠0)) end_).out]:=by
 have hN:Ba=274877906944:=rfl
 have hpt:=C6 hp7
 obtain ⟨hv,hv2,hv3⟩:=Cz (e:=end_) hp2
 have hvk:=Cg (r:=r) (e:=end_) hp3
 have hu:=Jo r end_
 have hvs:=congrArg List.length hv.1.s
 have hvo:=congrArg List.length hv3
 have hvp:=hv.1.plan
 have hvd:(Ad r end_).plan.deep=r.plan.deep:=by rw[hvp]
 have hnm:Bs f.kind=true↔1≤f.kind∧f.kind≤5:=by simp[Bs,Aw]
 refine Av Tryz.func132 Q8 Q8 (w:=let zi:Int→C:= .int .i64;let z6:=Ad r end_;let z7:=Aj z6 (⟨6,f.number,0,Am r end_,[],0,0⟩:Ev);let z9:=(z6.s.length:Int);let z10:=Am r end_;let z8:List Blk:=[.cells (B7 2 (Be z6 f z10)),.dead,.lst .ev (Be z6 f z10).out];let z12:List Blk:=[.cells (B7 1 z6),.lst .ev z6.out];let z13:=Bx 8 r.at_;let z14:=Bx 6 r.at_;let z15:=z6.at_+z10;let z16:=Bx 10 z9;let z17:=A7 (Ei (Int.toNat ((r).plan.deep-deep))) r f (decide ((f).number≠0)) end_;let z5:List Blk:=[.cells (B7 2 z17),.dead,.lst .ev z17.out];let z19:=Uf r f end_;let z20:=A3 f.kind;let z21:=z7.at_+z10;let z4:=Dk (Int.toNat ((z7).plan.deep-(deep+1))) f.msg z21 z7;let z18:List Blk:=[.cells (B7 2 z4),.dead,.lst .ev z4.out];let z22:=Aj z4 (⟨7,0,0,0,[],0,0⟩:Ev);let z11:List Blk:=[.cells (B7 2 z22),.dead,.lst .ev z22.out];let z23:=end_-z6.at_;let z24:List Blk:=[.cells (B7 2 z7),.dead,.lst .ev z7.out];(.seg [.call [0,1] (.v (.c (.int .u64 z10))) z12] (.br (.seg [.at 0,.cut 0 6] (.leaf () [0,1,3])) (.seg [.as 31 (.v (vI z23)),.as 32 (.v (.c (.int .u64 z23)))] (.br (.seg [.call [] (.v (.agg (cEv z13))) [],.at 0,.cut 0 6] (.leaf () [0,1,3])) (.seg [.as 40 (.v (vI z10))] (.br (.seg [.ord (os 12 []) [],.as 81 (.v (vI (z9-z6.at_)))] (.br (.seg [.call [] (.v (.agg (cEv z16))) [],.at 0,.cut 0 6] (.leaf () [0,1,3])) (.seg [.as 99 (.v (vI z15)),.at 0,.cut 0 6] (.leaf () [0,1,3])))) (.br (.br (.seg [.call [] (.v (.agg (cEv z14))) [],.at 0,.cut 0 6] (.leaf () [0,1,3])) (.seg [.call [0,1] (.tup []) z24,.ord (os 12 [11]) [],.as 132 (.v (vI z21)),.as 134 (.v (vI (deep+1))),.call [0,3] (.tup []) z18] (.br (.seg [.call [0,4] (.tup []) z11] (.leaf () [0,1,5])) (.leaf () [0,1,4])))) (.br (.seg [.call [0,1] (.tup []) z8] (.leaf () [0,1,3])) (.br (.seg [.call [0,1] (.tup []) z8] (.leaf () [0,1,3])) (.seg [.as 46 (.v (vI z15)),.at 0,.cut 0 6,.keep [0,5,11],.sel [0,1,3,2]] (.loop z19 fun q1=>let z1:=Bq q1.r f z20 z15;.br (.br (.seg [.ord [(0,true),(1,true),(2,true),(3,true),(5,true),(4,false),(6,false)] [],.call [] (.v (vI z20)) [],.call [0,2] (.tup []) [.cells (B7 2 z1),.dead,.lst .ev z1.out],.at 0,.keep [0,5,11],.sel [0,1,4,3]] (.next)) (.leaf () [0,1,2])) (.leaf () [0,1,2]))))))))))),(Fp 127 [vP 0,vI end_] [.cells (B7 1 r),.lst .ev r.out] (.v (.c (.int .u64 z10))) z12)∧Bc (!decide (z6.fail.kind=0)) (Lf (.tup []) (.tup []) [.cells (B7 2 z6),.dead,.lst .ev z6.out] z5) ((wI z23)∧(wU z23)∧Bc (decide (end_-z6.at_<Am r end_)) ((Fp 113 [vI 8,vI r.at_] [] (.v (.agg (cEv z13))) [])∧Lf (.tup []) (.tup []) [.cells [.seq .shp z6.plan.shapes,zi z6.plan.root,zi z6.plan.deep,zi z6.plan.most,.str z6.s,zi z6.at_,.own 2,zi z13.kind,zi z13.field,.int .u64 z13.bits,zi z13.len,.str z13.text,zi z13.code,zi z13.at_],.dead,.lst .ev z6.out] z5) ((wI z10)∧Bc (decide (f.number=0)) ((wI (z9-z6.at_))∧(wI (z9-z6.at_))∧Bc (decide (z9-z6.at_<Am r end_)) ((Fp 113 [vI 10,vI z9] [] (.v (.agg (cEv z16))) [])∧Lf (.tup []) (.tup []) [.cells [.seq .shp z6.plan.shapes,zi z6.plan.root,zi z6.plan.deep,zi z6.plan.most,.str z6.s,zi z6.at_,.own 2,zi z16.kind,zi z16.field,.int .u64 z16.bits,zi z16.len,.str z16.text,zi z16.code,zi z16.at_],.dead,.lst .ev z6.out] z5) ((wI z15)∧Lf (.tup []) (.tup []) [.cells [.seq .shp z6.plan.shapes,zi z6.plan.root,zi z6.plan.deep,zi z6.plan.most,.str z6.s,zi z15,.own 2,zi z6.fail.kind,zi z6.fail.field,.int .u64 z6.fail.bits,zi z6.fail.len,.str z6.fail.text,zi z6.fail.code,zi z6.fail.at_],.dead,.lst .ev z6.out] z5)) (Bc (decide (f.kind=8)) (Bc (decide (z6.plan.deep≤deep)) ((Fp 113 [vI 6,vI r.at_] [] (.v (.agg (cEv z14))) [])∧Lf (.tup []) (.tup []) [.cells [.seq .shp z6.plan.shapes,zi z6.plan.root,zi z6.plan.deep,zi z6.plan.most,.str z6.s,zi z6.at_,.own 2,zi z14.kind,zi z14.field,.int .u64 z14.bits,zi z14.len,.str z14.text,zi z14.code,zi z14.at_],.dead,.lst .ev z6.out] z5) ((Fp 192 [vP 0,.agg [zi 6,zi f.number,.int .u64 0,zi z10,.str [],zi 0,zi 0]] z12 (.tup []) z24)∧(wI z21)∧(wI z21)∧(wI (deep+1))∧(wI (deep+1))∧(Fp 72 [vP 0,vI f.msg,vI z21,vI (deep+1)] [.cells (B7 1 z7),.lst .ev z7.out] (.tup []) z18)∧Bc (decide (z4.fail.kind=0)) ((Fp 192 [vP 0,.agg [zi 7,zi 0,.int .u64 0,zi 0,.str [],zi 0,zi 0]] [.cells (B7 1 z4),.lst .ev z4.out] (.tup []) z11)∧Lf (.tup []) (.tup []) z11 z5) (Lf (.tup []) (.tup []) z18 z5))) (Bc (decide (f.kind=6)) ((Fp 193 [vP 0,.agg (Dd f),vI z10] z12 (.tup []) z8)∧Lf (.tup []) (.tup []) z8 z5) (Bc (decide (f.kind=7)) ((Fp 193 [vP 0,.agg (Dd f),vI z10] z12 (.tup []) z8)∧Lf (.tup []) (.tup []) z8 z5) ((wI z15)∧z19.Has [(0,.v (vP 0)),(5,.v (vP 3)),(11,.v (vI z15))] [.cells (B7 2 z6),.dead,.lst .ev z6.out,.cells (Dd f)]∧∀q1,z19.inv q1→(let z2:=Lf (.tup []) (.tup []) [.cells (B7 2 q1.r),.dead,.lst .ev q1.r.out] z5;let z3:=Bq q1.r f z20 z15;Bc (decide (q1.r.at_<z6.at_+z10)) (Bc (decide (q1.r.fail.kind=0)) ((Fp 178 [vI f.kind] [] (.v (vI z20)) [])∧(Fp 133 [vP 0,.agg (Dd f),vI z20,vI z15] [.cells (B7 1 q1.r),.lst .ev q1.r.out] (.tup []) [.cells (B7 2 z3),.dead,.lst .ev z3.out])∧z19.Nxt q1 [(0,.v (vP 0)),(5,.v (vP 3)),(11,.v (vI z15))] [.cells (B7 2 z3),.dead,.lst .ev z3.out,.cells (Dd f)]) z2) z2))))))))) Q8 ?_
 refine⟨(Vm r _ Q5),fun h1=>have q1:=Ar h1;have p1:=of_decide_eq_false q1;?_,fun h1=>have q1:=Ao h1;have p1:=of_decide_eq_true q1;?_⟩
 have hok:Bf r end_=false:=by rw[hvk];simpa using q1
 refine zE (A7 (Ei (Int.toNat ((r).plan.deep-deep))) r f (decide ((f).number≠0)) end_) (Ad r end_) (fun hm1=>⟨rfl,Q17⟩) ?_
 rotate_left
 have hok:Bf r end_=true:=by rw[hvk];simpa using q1
 have hk:(Ad r end_).fail.kind=0:=by rw[hvk] at hok;simpa using hok
 have ha:=hv.1.at_ hk
 have hb:=hv.2 hk
 have h2:=hv2 hok
 refine⟨(Ac Q5 Q5),(Bm Q5 Q5),dsp (fun h2 p2=>?_) fun h2 p2=>?_⟩
 refine zE (A7 (Ei (Int.toNat ((r).plan.deep-deep))) r f (decide ((f).number≠0)) end_) (⟨(Ad r end_).plan,(Ad r end_).s,(Ad r end_).at_,(Ad r end_).out,(Bx 8 r.at_)⟩:Mr) (fun hm1=>⟨(Dz _ _),rfl,Q17⟩) ?_
 rotate_left
 refine⟨(Ac Q5 Q5),dsp (fun h3 p3=>?_) fun h3 p3=>?_⟩
 refine⟨(Ac Q5 Q5),(Ac Q5 Q5),dsp (fun h4 p4=>?_) fun h4 p4=>?_⟩
 refine zE (A7 (Ei (Int.toNat ((r).plan.deep-deep))) r f (decide ((f).number≠0)) end_) (⟨(Ad r end_).plan,(Ad r end_).s,(Ad r end_).at_,(Ad r end_).out,(Bx 10 ((List.length (Ad r end_).s:Nat):Int))⟩:Mr) (fun hm1=>⟨(Dz _ _),rfl,Q17⟩) ?_
 rotate_left
 refine zE (A7 (Ei (Int.toNat ((r).plan.deep-deep))) r f (decide ((f).number≠0)) end_) (⟨(Ad r end_).plan,(Ad r end_).s,(Ad r end_).at_+(Am r end_),(Ad r end_).out,(Ad r end_).fail⟩:Mr) (fun hm1=>⟨(Ac Q5 Q5),rfl,Q17⟩) ?_
 rotate_left
 refine dsp (fun h4 p4=>?_) fun h4 p4=>?_
 refine dsp (fun h5 p5=>?_) fun h5 p5=>?_
 have hsub: ∀(v:Mr) (n s:Int),Ei (Int.toNat (r.plan.deep-deep)) v f n s=Bb v 6 s:=fun v n s=>by rw[show Int.toNat (r.plan.deep-deep)=0 by omega];rfl
 refine zE (A7 (Ei (Int.toNat ((r).plan.deep-deep))) r f (decide ((f).number≠0)) end_) (⟨(Ad r end_).plan,(Ad r end_).s,(Ad r end_).at_,(Ad r end_).out,(Bx 6 r.at_)⟩:Mr) (fun hm1=>⟨(Dz _ _),rfl,Q17⟩) ?_
 rotate_left
 have hsub: ∀(v:Mr) (n s:Int),Ei (Int.toNat (r.plan.deep-deep)) v f n s=if (Dk (Int.toNat (r.plan.deep-(deep+1))) f.msg (v.at_+n) (Aj v (Dc f n))).fail.kind=0 then Aj (Dk (Int.toNat (r.plan.deep-(deep+1))) f.msg (v.at_+n) (Aj v (Dc f n))) X7 else (Dk (Int.toNat (r.plan.deep-(deep+1))) f.msg (v.at_+n) (Aj v (Dc f n))):=fun v n s=>by rw[show Int.toNat (r.plan.deep-deep)=Int.toNat (r.plan.deep-(deep+1))+1 by omega];rfl
 refine⟨(Qb (Ad r end_) (⟨6,f.number,0,Am r end_,[],0,0⟩:Ev) Q5),(Ac Q41 Q41),(Ac Q41 Q41),(Ac Q5 Q5),(Ac Q5 Q5),(hM (Aj (Ad r end_) (⟨6,f.number,0,Am r end_,[],0,0⟩:Ev)) _ _ _ Q16 Q16 Q70 Q16 Q16 Q16 (by simpa [Aj,hvp] using hp7) (by simp only[Aj,hvp];omega) (by simp only[Aj,hvp];omega)),dsp (fun h6 p6=>?_) fun h6 p6=>?_⟩
 refine zE (A7 (Ei (Int.toNat ((r).plan.deep-deep))) r f (decide ((f).number≠0)) end_) (Aj (Dk (Int.toNat (((Aj (Ad r end_) (⟨6,f.number,0,Am r end_,[],0,0⟩:Ev))).plan.deep-(deep+1))) f.msg ((Aj (Ad r end_) (⟨6,f.number,0,Am r end_,[],0,0⟩:Ev)).at_+(Am r end_)) (Aj (Ad r end_) (⟨6,f.number,0,Am r end_,[],0,0⟩:Ev))) (⟨7,0,0,0,[],0,0⟩:Ev)) (fun hm1=>⟨(Qb (Dk (Int.toNat (((Aj (Ad r end_) (⟨6,f.number,0,Am r end_,[],0,0⟩:Ev))).plan.deep-(deep+1))) f.msg ((Aj (Ad r end_) (⟨6,f.number,0,Am r end_,[],0,0⟩:Ev)).at_+(Am r end_)) (Aj (Ad r end_) (⟨6,f.number,0,Am r end_,[],0,0⟩:Ev))) (⟨7,0,0,0,[],0,0⟩:Ev) (Aan Q16 Q16)),rfl,Q17⟩) ?_
 rotate_left
 refine zE (A7 (Ei (Int.toNat ((r).plan.deep-deep))) r f (decide ((f).number≠0)) end_) (Dk (Int.toNat (((Aj (Ad r end_) (⟨6,f.number,0,Am r end_,[],0,0⟩:Ev))).plan.deep-(deep+1))) f.msg ((Aj (Ad r end_) (⟨6,f.number,0,Am r end_,[],0,0⟩:Ev)).at_+(Am r end_)) (Aj (Ad r end_) (⟨6,f.number,0,Am r end_,[],0,0⟩:Ev))) (fun hm1=>⟨rfl,Q17⟩) ?_
 rotate_left
 refine dsp (fun h5 p5=>?_) fun h5 p5=>?_
 refine zE (A7 (Ei (Int.toNat ((r).plan.deep-deep))) r f (decide ((f).number≠0)) end_) (Be (Ad r end_) f (Am r end_)) (fun hm1=>⟨(Apj (Ad r end_) f _ Q5 Q5 Q70 Q5 Q5 Q5),rfl,Q17⟩) ?_
 rotate_left
 refine dsp (fun h6 p6=>?_) fun h6 p6=>?_
 refine zE (A7 (Ei (Int.toNat ((r).plan.deep-deep))) r f (decide ((f).number≠0)) end_) (Be (Ad r end_) f (Am r end_)) (fun hm1=>⟨(Apj (Ad r end_) f _ Q5 Q5 Q70 Q5 Q5 Q5),rfl,Q17⟩) ?_
 rotate_left
 refine⟨(Ac Q5 Q5),Bv (j:=(⟨(Ad r end_)⟩:Ue)) rfl rfl (by dsimp only[Uf];exact LInv.refl Q5),fun (q1:Ue) hq_q1=>?_⟩
 have hi_q1:LInv (fun x=>Bq x f (A3 f.kind) ((Ad r end_).at_+Am r end_)) ((Ad r end_).at_+Am r end_) (Ad r end_) q1.r:=hq_q1
 have hwf:=Ah3 (k:=f.kind) (by omega)
 have hlg:= @LInv.go _ (J7 f (A3 f.kind) ((Ad r end_).at_+Am r end_)) _ _ _ hi_q1
 refine dsp (fun h7 p7=>?_) fun h7 p7=>?_
 refine dsp (fun h8 p8=>?_) fun h8 p8=>?_
 have hrm:=hi_q1.room p8
 have hat:=hi_q1.at_ p8
 exact⟨(Ji _),(Aq4 q1.r f _ _ Q5 Q5 Q70 Q5 Q5 Q5 Q5),Ay (j:=(⟨(Bq q1.r f (A3 f.kind) ((Ad r end_).at_+(Am r end_)))⟩:Ue)) rfl rfl (by dsimp only[Uf];exact(hlg Q5 Q5).1) (by dsimp only[Uf];exact(hlg Q5 Q5).2)⟩
 have hend:G4 (Ad r end_) f ((Ad r end_).at_+Am r end_)=q1.r:=hi_q1.bad p8
 refine zE (A7 (Ei (Int.toNat ((r).plan.deep-deep))) r f (decide ((f).number≠0)) end_) q1.r (fun hm1=>⟨rfl,Q17⟩) ?_
 rotate_left
 have hend:G4 (Ad r end_) f ((Ad r end_).at_+Am r end_)=q1.r:=hi_q1.end_ p7
 refine zE (A7 (Ei (Int.toNat ((r).plan.deep-deep))) r f (decide ((f).number≠0)) end_) q1.r (fun hm1=>⟨rfl,Q17⟩) ?_
 rotate_left
 all_goals first|(grind (ematch:=20) (gen:=20) [A7,Aj,Gh,Bb,Dc,X7,Bx])
structure Lr where
 r:Mr
def Ug (r:Mr) (shape:Int) (end_:Int) (deep:Int):Fam:=⟨Lr,fun q1=>[(0,.v (vP 0)),(1,.v (vI shape)),(2,.v (vI end_)),(3,.v (vI deep))],fun q1=>[.cells (B7 2 q1.r),.dead,.lst .ev q1.r.out],fun q1=>LInv (Ch (Ei (Int.toNat (r.plan.deep-deep))) shape end_) end_ r q1.r∧(q1.r).fail.kind=0,fun q1=>Kj q1.r⟩
theorem Asy (K:Nat) (hM:Aj6 K) (r:Mr) (shape:Int) (end_:Int) (deep:Int) (hp1:List.length (r).s≤1048576) (hp2:(r).at_≤((List.length (r).s:Nat):Int)) (hp3:(r).fail.kind=0) (hp4:((List.length (r).out:Nat):Int)+4*(((List.length (r).s:Nat):Int)-(r).at_)≤100000000) (hp5:(0:Int)≤(r).at_) (hp6: -1000000000≤end_∧end_≤9223372036854775807) (hp7:B3 (r).plan=true) (hp8:(1:Int)≤deep∧deep≤(r).plan.deep) (hp9:Int.toNat ((r).plan.deep-deep)≤K):Fun Tryz.prog 70 [vP 0,vI shape,vI end_,vI deep] [.cells (B7 1 r),.lst .ev r.out] (.v (vB (decide ((Dk (Int.toNat ((r).plan.deep-deep)) shape end_ r).fail.kind=0)))) [.cells (B7 2 (Dk (Int.toNat ((r).plan.deep-deep)) shape end_ r)),.dead,.lst .ev (Dk (Int.toNat ((r).plan.deep-deep)) shape end_ r).out]:=by
 have hN:Ba=274877906944:=rfl
 have hpt:=C6 hp7
 refine Av Tryz.func70 Q8 Q8 (w:=let z15:=Dk (Int.toNat ((r).plan.deep-deep)) shape end_ r;let z16:List Blk:=[.cells (B7 2 z15),.dead,.lst .ev z15.out];let z17:S:= .v (vB (decide (z15.fail.kind=0)));let z18:S:= .v (vB false);let z19:=Ug r shape end_ deep;(.seg [.at 0,.cut 0 6,.keep [0,1,2,3],.sel [0,1,2]] (.loop z19 fun q1=>let z4:=Ad q1.r end_;let z5:=Am q1.r end_;let z2:=fieldAt z4.plan.shapes shape (B9 z5);let z1:=A7 (Ei (Int.toNat ((z4).plan.deep-deep))) z4 (z2.getD fld0) (z2.isSome) end_;let z3:=B1 z5;.br (.seg [.call [0,2] (.tup [.c (.int .u64 z5),vB (Bf q1.r end_)]) [.cells (B7 1 z4),.lst .ev z4.out]] (.br (.leaf () [0,1,2]) (.seg [.call [] (.tup [vI (B9 z5),vI z3,vB (Kp z5)]) [],.call [] (.tup [.agg (Dd (z2.getD fld0)),vB z2.isSome]) []] (.br (.seg [.call [0,2] z18 [.cells (B7 1 (Bb z4 2 q1.r.at_)),.lst .ev (Bb z4 2 q1.r.at_).out]] (.leaf () [0,1,2])) (.seg [.call [] (.v (vB (Ha z3))) []] (.br (.seg [.call [0,2] z18 [.cells (B7 1 (Bb z4 3 q1.r.at_)),.lst .ev (Bb z4 3 q1.r.at_).out]] (.leaf () [0,1,2])) (.br (.seg [.call [] (.v (vB (D0 (z2.getD fld0) z3))) []] (.br (.seg [.call [0,2] z18 [.cells (B7 1 (Bb z4 4 q1.r.at_)),.lst .ev (Bb z4 4 q1.r.at_).out]] (.leaf () [0,1,2])) (.br (.seg [.call [0,2] (.v (vB (decide (z1.fail.kind=0)))) [.cells (B7 2 z1),.dead,.lst .ev z1.out]] (.br (.leaf () [0,1,4]) (.seg [.at 0,.keep [0,1,2,3],.sel [0,1,4]] (.next)))) (.seg [.call [0,2] (.tup [.c (.int .u64 (Di z4 z3 end_)),vB (Dj z4 z3 end_)]) [.cells (B7 1 (Cj z4 z3 end_)),.lst .ev (Cj z4 z3 end_).out]] (.br (.leaf () [0,1,2]) (.seg [.br true,.ord (os 13 [7,8,9,12]) [2],.call [] (.v (.agg (cEv (Ed (z2.getD fld0) (Di z4 z3 end_))))) [],.ty .ev,.ty .ev,.at 0,.keep [0,1,2,3],.sel [0,1,5]] (.next))))))) (.br (.seg [.call [0,2] (.v (vB (decide (z1.fail.kind=0)))) [.cells (B7 2 z1),.dead,.lst .ev z1.out]] (.br (.leaf () [0,1,4]) (.seg [.at 0,.keep [0,1,2,3],.sel [0,1,4]] (.next)))) (.seg [.call [0,2] (.tup [.c (.int .u64 (Di z4 z3 end_)),vB (Dj z4 z3 end_)]) [.cells (B7 1 (Cj z4 z3 end_)),.lst .ev (Cj z4 z3 end_).out]] (.br (.leaf () [0,1,2]) (.seg [.br false,.at 0,.keep [0,1,2,3],.sel [0,1,2]] (.next)))))))))))) (.leaf () [0,1,2])),z19.Has [(0,.v (vP 0)),(1,.v (vI shape)),(2,.v (vI end_)),(3,.v (vI deep))] [.cells (B7 2 r),.dead,.lst .ev r.out]∧∀q1,z19.inv q1→(let z8:=Ad q1.r end_;let z11:=Am q1.r end_;let z7:=fieldAt z8.plan.shapes shape (B9 z11);let z6:=A7 (Ei (Int.toNat ((z8).plan.deep-deep))) z8 (z7.getD fld0) (z7.isSome) end_;let z9:=B1 z11;let z10:=z19.Nxt q1 [(0,.v (vP 0)),(1,.v (vI shape)),(2,.v (vI end_)),(3,.v (vI deep))] [.cells (B7 2 z6),.dead,.lst .ev z6.out];let z12:=Bb z8 2 q1.r.at_;let z13:=Bb z8 3 q1.r.at_;let z14:=Bb z8 4 q1.r.at_;Bc (decide (q1.r.at_<end_)) ((Fp 110 [vP 0,vI end_] [.cells (B7 1 q1.r),.lst .ev q1.r.out] (.tup [.c (.int .u64 z11),vB (Bf q1.r end_)]) [.cells (B7 1 z8),.lst .ev z8.out])∧Bc (!(Bf q1.r end_)) (Lf z18 z17 [.cells (B7 2 z8),.dead,.lst .ev z8.out] z16) ((Fp 120 [.c (.int .u64 z11)] [] (.tup [vI (B9 z11),vI z9,vB (Kp z11)]) [])∧(Fp 121 [.agg [.seq .shp z8.plan.shapes],vI shape,vI (B9 z11)] [] (.tup [.agg (Dd (z7.getD fld0)),vB z7.isSome]) [])∧Bc (!(Kp z11)) ((Fp 111 [vP 0,vI 2,vI q1.r.at_] [.cells (B7 1 z8),.lst .ev z8.out] z18 [.cells (B7 1 z12),.lst .ev z12.out])∧Lf z18 z17 [.cells (B7 2 z12),.dead,.lst .ev z12.out] z16) ((Fp 122 [vI z9] [] (.v (vB (Ha z9))) [])∧Bc (!(Ha z9)) ((Fp 111 [vP 0,vI 3,vI q1.r.at_] [.cells (B7 1 z8),.lst .ev z8.out] z18 [.cells (B7 1 z13),.lst .ev z13.out])∧Lf z18 z17 [.cells (B7 2 z13),.dead,.lst .ev z13.out] z16) (Bc (z7.isSome) ((Fp 123 [.agg (Dd (z7.getD fld0)),vI z9] [] (.v (vB (D0 (z7.getD fld0) z9))) [])∧Bc (!(D0 (z7.getD fld0) z9)) ((Fp 111 [vP 0,vI 4,vI q1.r.at_] [.cells (B7 1 z8),.lst .ev z8.out] z18 [.cells (B7 1 z14),.lst .ev z14.out])∧Lf z18 z17 [.cells (B7 2 z14),.dead,.lst .ev z14.out] z16) (Bc (decide (B1 z11=2)) ((Fp 124 [vP 0,.agg (Dd (z7.getD fld0)),vB z7.isSome,vI end_,vI deep] [.cells (B7 1 z8),.lst .ev z8.out] (.v (vB (decide (z6.fail.kind=0)))) [.cells (B7 2 z6),.dead,.lst .ev z6.out])∧Bc (!(decide (z6.fail.kind=0))) (Lf z18 z17 [.cells (B7 2 z6),.dead,.lst .ev z6.out] z16) z10) ((Fp 125 [vP 0,vI z9,vI end_] [.cells (B7 1 z8),.lst .ev z8.out] (.tup [.c (.int .u64 (Di z8 z9 end_)),vB (Dj z8 z9 end_)]) [.cells (B7 1 (Cj z8 z9 end_)),.lst .ev (Cj z8 z9 end_).out])∧Bc (!(Dj z8 z9 end_)) (Lf z18 z17 [.cells (B7 2 (Cj z8 z9 end_)),.dead,.lst .ev (Cj z8 z9 end_).out] z16) ((z7.isSome=true)∧(Fp 126 [.agg (Dd (z7.getD fld0)),.c (.int .u64 (Di z8 z9 end_))] [] (.v (.agg (cEv (Ed (z7.getD fld0) (Di z8 z9 end_))))) [])∧(List.length (Cj z8 z9 end_).out+List.length [(Ed (z7.getD fld0) (Di z8 z9 end_))]≤Ba)∧z19.Nxt q1 [(0,.v (vP 0)),(1,.v (vI shape)),(2,.v (vI end_)),(3,.v (vI deep))] [.cells (B7 2 (Cj z8 z9 end_)),.dead,.lst .ev ((Cj z8 z9 end_).out++[(Ed (z7.getD fld0) (Di z8 z9 end_))])])))) (Bc (decide (B1 z11=2)) ((Fp 124 [vP 0,.agg (Dd (z7.getD fld0)),vB z7.isSome,vI end_,vI deep] [.cells (B7 1 z8),.lst .ev z8.out] (.v (vB (decide (z6.fail.kind=0)))) [.cells (B7 2 z6),.dead,.lst .ev z6.out])∧Bc (!(decide (z6.fail.kind=0))) (Lf z18 z17 [.cells (B7 2 z6),.dead,.lst .ev z6.out] z16) z10) ((Fp 125 [vP 0,vI z9,vI end_] [.cells (B7 1 z8),.lst .ev z8.out] (.tup [.c (.int .u64 (Di z8 z9 end_)),vB (Dj z8 z9 end_)]) [.cells (B7 1 (Cj z8 z9 end_)),.lst .ev (Cj z8 z9 end_).out])∧Bc (!(Dj z8 z9 end_)) (Lf z18 z17 [.cells (B7 2 (Cj z8 z9 end_)),.dead,.lst .ev (Cj z8 z9 end_).out] z16) ((z7.isSome=false)∧z19.Nxt q1 [(0,.v (vP 0)),(1,.v (vI shape)),(2,.v (vI end_)),(3,.v (vI deep))] [.cells (B7 2 (Cj z8 z9 end_)),.dead,.lst .ev (Cj z8 z9 end_).out]))))))) (Lf (.v (vB true)) z17 [.cells (B7 2 q1.r),.dead,.lst .ev q1.r.out] z16)))) Q8 ?_
 refine⟨Bv (j:=(⟨r⟩:Lr)) rfl rfl (by dsimp only[Ug];exact⟨LInv.refl hp2,hp3⟩),fun (q1:Lr) hq_q1=>?_⟩
 have hi_q1:LInv (Ch (Ei (Int.toNat (r.plan.deep-deep))) shape end_) end_ r q1.r∧(q1.r).fail.kind=0:=hq_q1
 have hfl:=hi_q1.2
 have hat:=hi_q1.1.at_ hfl
 have hrm:=hi_q1.1.room hfl
 obtain ⟨hv,hv2,hv3⟩:=Cz (r:=q1.r) (e:=end_) hat.2
 have hvk:=Cg (r:=q1.r) (e:=end_) hfl
 have hu:=Jo q1.r end_
 have hvs:=congrArg List.length hv.1.s
 have hvo:=congrArg List.length hv3
 have hvp:=hv.1.plan
 have hpl:=hvp.trans hrm.2.1
 have hsk:Cp (Ad q1.r end_).plan.shapes=true:=by rw[hpl];exact hpt.2.1
 have htw:=Add (Am q1.r end_)
 have hkn:=Ya (s:=shape) (n:=B9 (Am q1.r end_)) hsk
 have hff:=Tm (s:=shape) (n:=B9 (Am q1.r end_)) hsk
 refine dsp (fun h1 p1=>?_) fun h1 p1=>?_
 refine⟨(Nc q1.r _ Q5),fun h2=>have q2:=Ar h2;?_,fun h2=>have q2:=Ao h2;?_⟩
 have hok:=q2
 refine zE (Dk (Int.toNat ((r).plan.deep-deep)) shape end_ r) (Ad q1.r end_) (fun hm1=>⟨(sB ?_),Q17⟩) ?_
 rotate_left 2
 have hok:=q2
 have hk:(Ad q1.r end_).fail.kind=0:=by rw[hvk] at hok;simpa using hok
 have ha:=hv.1.at_ hk
 have hb:=hv.2 hk
 have h2:=hv2 hok
 have hvl:=Ej (r:=Ad q1.r end_) (w:=B1 (Am q1.r end_)) (e:=end_) hk
 have hvu:=W0 (Ad q1.r end_) (B1 (Am q1.r end_)) end_
 have hvq:=congrArg List.length (Rj (r:=Ad q1.r end_) (w:=B1 (Am q1.r end_)) (e:=end_) (by omega)).2
 refine⟨(Aqw _ Q5),(Lq (Ad q1.r end_).plan.shapes _ _ Q85 (by rw[hpl];exact Cy hpt.2.1)),fun h3=>have q3:=Ar h3;?_,fun h3=>have q3:=Ao h3;?_⟩
 refine zE (Dk (Int.toNat ((r).plan.deep-deep)) shape end_ r) (Bb (Ad q1.r end_) 2 q1.r.at_) (fun hm1=>⟨(Gt (Ad q1.r end_) _ _),(sB ?_),Q17⟩) ?_
 rotate_left 2
 refine⟨(Ank _),fun h4=>have q4:=Ar h4;?_,fun h4=>have q4:=Ao h4;?_⟩
 refine zE (Dk (Int.toNat ((r).plan.deep-deep)) shape end_ r) (Bb (Ad q1.r end_) 3 q1.r.at_) (fun hm1=>⟨(Gt (Ad q1.r end_) _ _),(sB ?_),Q17⟩) ?_
 rotate_left 2
 refine⟨fun h5=>?_,fun h5=>?_⟩
 refine⟨(Aj2 ((fieldAt (Ad q1.r end_).plan.shapes shape (B9 (Am q1.r end_))).getD fld0) _ Q5),fun h6=>have q6:=Ar h6;?_,fun h6=>have q6:=Ao h6;?_⟩
 refine zE (Dk (Int.toNat ((r).plan.deep-deep)) shape end_ r) (Bb (Ad q1.r end_) 4 q1.r.at_) (fun hm1=>⟨(Gt (Ad q1.r end_) _ _),(sB ?_),Q17⟩) ?_
 rotate_left 2
 refine dsp (fun h7 p7=>?_) fun h7 p7=>?_
 refine⟨(Apk K hM (Ad q1.r end_) ((fieldAt (Ad q1.r end_).plan.shapes shape (B9 (Am q1.r end_))).getD fld0) _ _ _ Q5 Q5 (hk) Q5 Q5 Q5 (by rw[hpl];exact hp7) Q85 (by grind) (by grind) Q85),fun h8=>have q8:=Ar h8;have p8:=of_decide_eq_false q8;?_,fun h8=>have q8:=Ao h8;have p8:=of_decide_eq_true q8;?_⟩
 refine zE (Dk (Int.toNat ((r).plan.deep-deep)) shape end_ r) (A7 (Ei (Int.toNat (((Ad q1.r end_)).plan.deep-deep))) (Ad q1.r end_) ((fieldAt (Ad q1.r end_).plan.shapes shape (B9 (Am q1.r end_))).getD fld0) ((fieldAt (Ad q1.r end_).plan.shapes shape (B9 (Am q1.r end_))).isSome) end_) (fun hm1=>⟨(sB ?_),Q17⟩) ?_
 rotate_left 2
 exact Ay (j:=(⟨(A7 (Ei (Int.toNat (((Ad q1.r end_)).plan.deep-deep))) (Ad q1.r end_) ((fieldAt (Ad q1.r end_).plan.shapes shape (B9 (Am q1.r end_))).getD fld0) ((fieldAt (Ad q1.r end_).plan.shapes shape (B9 (Am q1.r end_))).isSome) end_)⟩:Lr)) rfl rfl Q51 Q73
 refine⟨(Aq3 (Ad q1.r end_) _ _ Q5 Q5 Q5),fun h8=>have q8:=Ar h8;?_,fun h8=>have q8:=Ao h8;?_⟩
 refine zE (Dk (Int.toNat ((r).plan.deep-deep)) shape end_ r) (Cj (Ad q1.r end_) (B1 (Am q1.r end_)) end_) (fun hm1=>⟨(sB ?_),Q17⟩) ?_
 rotate_left 2
 exact⟨h5,(Aah ((fieldAt (Ad q1.r end_).plan.shapes shape (B9 (Am q1.r end_))).getD fld0) _ Q5),Q9,Ay (j:=(⟨(⟨(Cj (Ad q1.r end_) (B1 (Am q1.r end_)) end_).plan,(Cj (Ad q1.r end_) (B1 (Am q1.r end_)) end_).s,(Cj (Ad q1.r end_) (B1 (Am q1.r end_)) end_).at_,(Cj (Ad q1.r end_) (B1 (Am q1.r end_)) end_).out++[(Ed ((fieldAt (Ad q1.r end_).plan.shapes shape (B9 (Am q1.r end_))).getD fld0) (Di (Ad q1.r end_) (B1 (Am q1.r end_)) end_))],(Cj (Ad q1.r end_) (B1 (Am q1.r end_)) end_).fail⟩:Mr)⟩:Lr)) rfl Q12 Q51 Q73⟩
 refine dsp (fun h6 p6=>?_) fun h6 p6=>?_
 refine⟨(Apk K hM (Ad q1.r end_) ((fieldAt (Ad q1.r end_).plan.shapes shape (B9 (Am q1.r end_))).getD fld0) _ _ _ Q5 Q5 (hk) Q5 Q5 Q5 (by rw[hpl];exact hp7) Q85 (by grind) (by grind) Q85),fun h7=>have q7:=Ar h7;have p7:=of_decide_eq_false q7;?_,fun h7=>have q7:=Ao h7;have p7:=of_decide_eq_true q7;?_⟩
 refine zE (Dk (Int.toNat ((r).plan.deep-deep)) shape end_ r) (A7 (Ei (Int.toNat (((Ad q1.r end_)).plan.deep-deep))) (Ad q1.r end_) ((fieldAt (Ad q1.r end_).plan.shapes shape (B9 (Am q1.r end_))).getD fld0) ((fieldAt (Ad q1.r end_).plan.shapes shape (B9 (Am q1.r end_))).isSome) end_) (fun hm1=>⟨(sB ?_),Q17⟩) ?_
 rotate_left 2
 exact Ay (j:=(⟨(A7 (Ei (Int.toNat (((Ad q1.r end_)).plan.deep-deep))) (Ad q1.r end_) ((fieldAt (Ad q1.r end_).plan.shapes shape (B9 (Am q1.r end_))).getD fld0) ((fieldAt (Ad q1.r end_).plan.shapes shape (B9 (Am q1.r end_))).isSome) end_)⟩:Lr)) rfl rfl Q51 Q73
 refine⟨(Aq3 (Ad q1.r end_) _ _ Q5 Q5 Q5),fun h7=>have q7:=Ar h7;?_,fun h7=>have q7:=Ao h7;?_⟩
 refine zE (Dk (Int.toNat ((r).plan.deep-deep)) shape end_ r) (Cj (Ad q1.r end_) (B1 (Am q1.r end_)) end_) (fun hm1=>⟨(sB ?_),Q17⟩) ?_
 rotate_left 2
 exact⟨h5,Ay (j:=(⟨(Cj (Ad q1.r end_) (B1 (Am q1.r end_)) end_)⟩:Lr)) rfl rfl Q51 Q73⟩
 refine zE (Dk (Int.toNat ((r).plan.deep-deep)) shape end_ r) q1.r (fun hm1=>⟨(sB ?_),Q17⟩) ?_
 rotate_left 2
 all_goals first|(exact(Df _ _ _ _).trans (hi_q1.1.end_ (by omega)))|(exact(Df _ _ _ _).trans (hi_q1.1.bad (by assumption)))|(rw[hm1];simp[Bb,Bx, *];done)|(exact(Df _ _ _ _).trans (hi_q1.1.leave (Fi _ _ _) (by omega) hfl (by grind (ematch:=20) (gen:=20) [Ch,Bq,Aj,Bb]) (by first|(exact Ca _ _ _)|(simp_all;done)|(grind))))|(rw[hm1];grind)
theorem Apn: ∀K,Aj6 K
 |0=>fun r shape end_ deep hp1 hp2 hp3 hp4 hp5 hp6 hp7 hp8 hp9=>absurd hp9 (Nat.not_lt_zero _)
 |K+1=>fun r shape end_ deep hp1 hp2 hp3 hp4 hp5 hp6 hp7 hp8 hp9=>Asy K (Apn K) r shape end_ deep hp1 hp2 hp3 hp4 hp5 hp6 hp7 hp8 (Nat.le_of_lt_succ hp9)
theorem Asz (r:Mr) (shape:Int) (end_:Int) (deep:Int) (hp1:List.length (r).s≤1048576) (hp2:(r).at_≤((List.length (r).s:Nat):Int)) (hp3:(r).fail.kind=0) (hp4:((List.length (r).out:Nat):Int)+4*(((List.length (r).s:Nat):Int)-(r).at_)≤100000000) (hp5:(0:Int)≤(r).at_) (hp6: -1000000000≤end_∧end_≤9223372036854775807) (hp7:B3 (r).plan=true) (hp8:(1:Int)≤deep∧deep≤(r).plan.deep):Fun Tryz.prog 70 [vP 0,vI shape,vI end_,vI deep] [.cells (B7 1 r),.lst .ev r.out] (.v (vB (decide ((Dk (Int.toNat ((r).plan.deep-deep)) shape end_ r).fail.kind=0)))) [.cells (B7 2 (Dk (Int.toNat ((r).plan.deep-deep)) shape end_ r)),.dead,.lst .ev (Dk (Int.toNat ((r).plan.deep-deep)) shape end_ r).out]:=Apn _ r shape end_ deep hp1 hp2 hp3 hp4 hp5 hp6 hp7 hp8 (Nat.lt_succ_self _)
structure Gu where
 r:Mr
def Uh (r:Mr) (shape:Int) (end_:Int) (deep:Int):Fam:=⟨Gu,fun q1=>[(0,.v (vP 0)),(1,.v (vI shape)),(2,.v (vI end_)),(3,.v (vI deep))],fun q1=>[.cells (B7 2 q1.r),.dead,.lst .ev q1.r.out],fun q1=>LInv (Ch (Ei (Int.toNat (r.plan.deep-deep))) shape end_) end_ r q1.r,fun q1=>Kj q1.r⟩
theorem As0 (K:Nat) (hM:Aj7 K) (r:Mr) (shape:Int) (end_:Int) (deep:Int) (hp1:List.length (r).s≤1048576) (hp2:(r).at_≤((List.length (r).s:Nat):Int)) (hp3:(r).fail.kind=0) (hp4:((List.length (r).out:Nat):Int)+4*(((List.length (r).s:Nat):Int)-(r).at_)≤100000000) (hp5:(0:Int)≤(r).at_) (hp6: -1000000000≤end_∧end_≤9223372036854775807) (hp7:B3 (r).plan=true) (hp8:(1:Int)≤deep∧deep≤(r).plan.deep) (hp9:Int.toNat ((r).plan.deep-deep)≤K):Fun Tryz.prog 72 [vP 0,vI shape,vI end_,vI deep] [.cells (B7 1 r),.lst .ev r.out] (.tup []) [.cells (B7 2 (Dk (Int.toNat ((r).plan.deep-deep)) shape end_ r)),.dead,.lst .ev (Dk (Int.toNat ((r).plan.deep-deep)) shape end_ r).out]:=by
 have hN:Ba=274877906944:=rfl
 have hpt:=C6 hp7
 refine Av Tryz.func72 Q8 Q8 (w:=let zi:Int→C:= .int .i64;let z13:=Uh r shape end_ deep;let z14:=Dk (Int.toNat ((r).plan.deep-deep)) shape end_ r;let z15:=vI shape;let z16:List Blk:=[.cells (B7 2 z14),.dead,.lst .ev z14.out];(.seg [.at 0,.cut 0 6,.keep [0,1,2,3],.sel [0,1,2]] (.loop z13 fun q1=>let z4:=Am q1.r end_;let z5:=Ad q1.r end_;let z1:=(fieldAt z5.plan.shapes shape (B9 z4)).getD fld0;let z2:=A7 (Ei (Int.toNat ((z5).plan.deep-deep))) z5 z1 (decide ((z1).number≠0)) end_;let z3:=Bq z5 z1 (B1 z4) end_;.br (.br (.seg [.call [0,2] (.v (.c (.int .u64 z4))) [.cells (B7 1 z5),.lst .ev z5.out]] (.br (.leaf () [0,1,2]) (.seg [.call [] (.tup [vI (B9 z4),vI (B1 z4),vB (Kp z4)]) [],.call [] (.tup [.agg (Dd z1),vB (fieldAt z5.plan.shapes shape (B9 z4)).isSome]) []] (.br (.seg [.call [] (.v (.agg (cEv (Bx 2 q1.r.at_)))) [],.at 0,.keep [0,1,2,3],.sel [0,1,2]] (.next)) (.seg [.call [] (.v (vB (Ha (B1 z4)))) []] (.br (.seg [.call [] (.v (.agg (cEv (Bx 3 q1.r.at_)))) [],.at 0,.keep [0,1,2,3],.sel [0,1,2]] (.next)) (.br (.seg [.call [] (.v (vB (D0 z1 (B1 z4)))) []] (.br (.seg [.call [] (.v (.agg (cEv (Bx 4 q1.r.at_)))) [],.at 0,.keep [0,1,2,3],.sel [0,1,2]] (.next)) (.br (.seg [.call [0,2] (.tup []) [.cells (B7 2 z2),.dead,.lst .ev z2.out],.at 0,.keep [0,1,2,3],.sel [0,1,4]] (.next)) (.seg [.call [0,2] (.tup []) [.cells (B7 2 z3),.dead,.lst .ev z3.out],.at 0,.keep [0,1,2,3],.sel [0,1,4]] (.next))))) (.br (.seg [.call [0,2] (.tup []) [.cells (B7 2 z2),.dead,.lst .ev z2.out],.at 0,.keep [0,1,2,3],.sel [0,1,4]] (.next)) (.seg [.call [0,2] (.tup []) [.cells (B7 2 z3),.dead,.lst .ev z3.out],.at 0,.keep [0,1,2,3],.sel [0,1,4]] (.next)))))))))) (.leaf () [0,1,2])) (.leaf () [0,1,2])),z13.Has [(0,.v (vP 0)),(1,.v z15),(2,.v (vI end_)),(3,.v (vI deep))] [.cells (B7 2 r),.dead,.lst .ev r.out]∧∀q1,z13.inv q1→(let z7:=Ad q1.r end_;let z8:=Am q1.r end_;let z6:=(fieldAt z7.plan.shapes shape (B9 z8)).getD fld0;let z9:=Lf (.tup []) (.tup []) [.cells (B7 2 q1.r),.dead,.lst .ev q1.r.out] z16;let z10:=Bx 2 q1.r.at_;let z11:=Bx 3 q1.r.at_;let z12:=Bx 4 q1.r.at_;Bc (decide (q1.r.at_<end_)) (Bc (decide (q1.r.fail.kind=0)) ((Fp 127 [vP 0,vI end_] [.cells (B7 1 q1.r),.lst .ev q1.r.out] (.v (.c (.int .u64 z8))) [.cells (B7 1 z7),.lst .ev z7.out])∧Bc (!decide (z7.fail.kind=0)) (Lf (.tup []) (.tup []) [.cells (B7 2 z7),.dead,.lst .ev z7.out] z16) ((Fp 128 [.c (.int .u64 z8)] [] (.tup [vI (B9 z8),vI (B1 z8),vB (Kp z8)]) [])∧(Fp 129 [.agg [.seq .shp z7.plan.shapes],vI shape,vI (B9 z8)] [] (.tup [.agg (Dd z6),vB (fieldAt z7.plan.shapes shape (B9 z8)).isSome]) [])∧Bc (!(Kp z8)) ((Fp 113 [vI 2,vI q1.r.at_] [] (.v (.agg (cEv z10))) [])∧z13.Nxt q1 [(0,.v (vP 0)),(1,.v z15),(2,.v (vI end_)),(3,.v (vI deep))] [.cells [.seq .shp z7.plan.shapes,zi z7.plan.root,zi z7.plan.deep,zi z7.plan.most,.str z7.s,zi z7.at_,.own 2,zi z10.kind,zi z10.field,.int .u64 z10.bits,zi z10.len,.str z10.text,zi z10.code,zi z10.at_],.dead,.lst .ev z7.out]) ((Fp 130 [vI (B1 z8)] [] (.v (vB (Ha (B1 z8)))) [])∧Bc (!(Ha (B1 z8))) ((Fp 113 [vI 3,vI q1.r.at_] [] (.v (.agg (cEv z11))) [])∧z13.Nxt q1 [(0,.v (vP 0)),(1,.v z15),(2,.v (vI end_)),(3,.v (vI deep))] [.cells [.seq .shp z7.plan.shapes,zi z7.plan.root,zi z7.plan.deep,zi z7.plan.most,.str z7.s,zi z7.at_,.own 2,zi z11.kind,zi z11.field,.int .u64 z11.bits,zi z11.len,.str z11.text,zi z11.code,zi z11.at_],.dead,.lst .ev z7.out]) (Bc ((fieldAt z7.plan.shapes shape (B9 z8)).isSome) ((Fp 131 [.agg (Dd z6),vI (B1 z8)] [] (.v (vB (D0 z6 (B1 z8)))) [])∧Bc (!(D0 z6 (B1 z8))) ((Fp 113 [vI 4,vI q1.r.at_] [] (.v (.agg (cEv z12))) [])∧z13.Nxt q1 [(0,.v (vP 0)),(1,.v z15),(2,.v (vI end_)),(3,.v (vI deep))] [.cells [.seq .shp z7.plan.shapes,zi z7.plan.root,zi z7.plan.deep,zi z7.plan.most,.str z7.s,zi z7.at_,.own 2,zi z12.kind,zi z12.field,.int .u64 z12.bits,zi z12.len,.str z12.text,zi z12.code,zi z12.at_],.dead,.lst .ev z7.out]) (Bc (decide (B1 z8=2)) ((Fp 132 [vP 0,.agg (Dd z6),vI end_,vI deep] [.cells (B7 1 z7),.lst .ev z7.out] (.tup []) [.cells (B7 2 (A7 (Ei (Int.toNat ((z7).plan.deep-deep))) z7 z6 (decide ((z6).number≠0)) end_)),.dead,.lst .ev (A7 (Ei (Int.toNat ((z7).plan.deep-deep))) z7 z6 (decide ((z6).number≠0)) end_).out])∧z13.Nxt q1 [(0,.v (vP 0)),(1,.v z15),(2,.v (vI end_)),(3,.v (vI deep))] [.cells (B7 2 (A7 (Ei (Int.toNat ((z7).plan.deep-deep))) z7 z6 (decide ((z6).number≠0)) end_)),.dead,.lst .ev (A7 (Ei (Int.toNat ((z7).plan.deep-deep))) z7 z6 (decide ((z6).number≠0)) end_).out]) ((Fp 133 [vP 0,.agg (Dd z6),vI (B1 z8),vI end_] [.cells (B7 1 z7),.lst .ev z7.out] (.tup []) [.cells (B7 2 (Bq z7 z6 (B1 z8) end_)),.dead,.lst .ev (Bq z7 z6 (B1 z8) end_).out])∧z13.Nxt q1 [(0,.v (vP 0)),(1,.v z15),(2,.v (vI end_)),(3,.v (vI deep))] [.cells (B7 2 (Bq z7 z6 (B1 z8) end_)),.dead,.lst .ev (Bq z7 z6 (B1 z8) end_).out]))) (Bc (decide (B1 z8=2)) ((Fp 132 [vP 0,.agg (Dd z6),vI end_,vI deep] [.cells (B7 1 z7),.lst .ev z7.out] (.tup []) [.cells (B7 2 (A7 (Ei (Int.toNat ((z7).plan.deep-deep))) z7 z6 (decide ((z6).number≠0)) end_)),.dead,.lst .ev (A7 (Ei (Int.toNat ((z7).plan.deep-deep))) z7 z6 (decide ((z6).number≠0)) end_).out])∧z13.Nxt q1 [(0,.v (vP 0)),(1,.v z15),(2,.v (vI end_)),(3,.v (vI deep))] [.cells (B7 2 (A7 (Ei (Int.toNat ((z7).plan.deep-deep))) z7 z6 (decide ((z6).number≠0)) end_)),.dead,.lst .ev (A7 (Ei (Int.toNat ((z7).plan.deep-deep))) z7 z6 (decide ((z6).number≠0)) end_).out]) ((Fp 133 [vP 0,.agg (Dd z6),vI (B1 z8),vI end_] [.cells (B7 1 z7),.lst .ev z7.out] (.tup []) [.cells (B7 2 (Bq z7 z6 (B1 z8) end_)),.dead,.lst .ev (Bq z7 z6 (B1 z8) end_).out])∧z13.Nxt q1 [(0,.v (vP 0)),(1,.v z15),(2,.v (vI end_)),(3,.v (vI deep))] [.cells (B7 2 (Bq z7 z6 (B1 z8) end_)),.dead,.lst .ev (Bq z7 z6 (B1 z8) end_).out])))))) z9) z9))) Q8 ?_
 refine⟨Bv (j:=(⟨r⟩:Gu)) rfl rfl (by dsimp only[Uh];exact LInv.refl hp2),fun (q1:Gu) hq_q1=>?_⟩
 have hi_q1:LInv (Ch (Ei (Int.toNat (r.plan.deep-deep))) shape end_) end_ r q1.r:=hq_q1
 refine dsp (fun h1 p1=>?_) fun h1 p1=>?_
 refine dsp (fun h2 p2=>?_) fun h2 p2=>?_
 have hfl:=p2
 have hat:=hi_q1.at_ hfl
 have hrm:=hi_q1.room hfl
 obtain ⟨hv,hv2,hv3⟩:=Cz (r:=q1.r) (e:=end_) hat.2
 have hvk:=Cg (r:=q1.r) (e:=end_) hfl
 have hu:=Jo q1.r end_
 have hvs:=congrArg List.length hv.1.s
 have hvo:=congrArg List.length hv3
 have hvp:=hv.1.plan
 have hpl:=hvp.trans hrm.2.1
 have hsk:Cp (Ad q1.r end_).plan.shapes=true:=by rw[hpl];exact hpt.2.1
 have htw:=Add (Am q1.r end_)
 have hkn:=Ya (s:=shape) (n:=B9 (Am q1.r end_)) hsk
 have hff:=Tm (s:=shape) (n:=B9 (Am q1.r end_)) hsk
 refine⟨(Vm q1.r _ Q5),fun h3=>have q3:=Ar h3;have p3:=of_decide_eq_false q3;?_,fun h3=>have q3:=Ao h3;have p3:=of_decide_eq_true q3;?_⟩
 have hok:Bf q1.r end_=false:=by rw[hvk];simpa using q3
 refine zE (Dk (Int.toNat ((r).plan.deep-deep)) shape end_ r) (Ad q1.r end_) (fun hm1=>⟨rfl,Q17⟩) ?_
 rotate_left
 have hok:Bf q1.r end_=true:=by rw[hvk];simpa using q3
 have hk:(Ad q1.r end_).fail.kind=0:=by rw[hvk] at hok;simpa using hok
 have ha:=hv.1.at_ hk
 have hb:=hv.2 hk
 have h2:=hv2 hok
 have hvl:=Ej (r:=Ad q1.r end_) (w:=B1 (Am q1.r end_)) (e:=end_) hk
 have hvu:=W0 (Ad q1.r end_) (B1 (Am q1.r end_)) end_
 have hvq:=congrArg List.length (Rj (r:=Ad q1.r end_) (w:=B1 (Am q1.r end_)) (e:=end_) (by omega)).2
 refine⟨(Aqx _ Q5),(Rf (Ad q1.r end_).plan.shapes _ _ Q85 (by rw[hpl];exact Cy hpt.2.1)),fun h4=>have q4:=Ar h4;?_,fun h4=>have q4:=Ao h4;?_⟩
 exact⟨(Dz _ _),Ay (j:=(⟨(⟨(Ad q1.r end_).plan,(Ad q1.r end_).s,(Ad q1.r end_).at_,(Ad q1.r end_).out,(Bx 2 q1.r.at_)⟩:Mr)⟩:Gu)) rfl Q12 Q53 Q52⟩
 refine⟨(Anm _),fun h5=>have q5:=Ar h5;?_,fun h5=>have q5:=Ao h5;?_⟩
 exact⟨(Dz _ _),Ay (j:=(⟨(⟨(Ad q1.r end_).plan,(Ad q1.r end_).s,(Ad q1.r end_).at_,(Ad q1.r end_).out,(Bx 3 q1.r.at_)⟩:Mr)⟩:Gu)) rfl Q12 Q53 Q52⟩
 refine⟨fun h6=>?_,fun h6=>?_⟩
 refine⟨(Aj3 ((fieldAt (Ad q1.r end_).plan.shapes shape (B9 (Am q1.r end_))).getD fld0) _ Q5),fun h7=>have q7:=Ar h7;?_,fun h7=>have q7:=Ao h7;?_⟩
 exact⟨(Dz _ _),Ay (j:=(⟨(⟨(Ad q1.r end_).plan,(Ad q1.r end_).s,(Ad q1.r end_).at_,(Ad q1.r end_).out,(Bx 4 q1.r.at_)⟩:Mr)⟩:Gu)) rfl Q12 Q53 Q52⟩
 refine dsp (fun h8 p8=>?_) fun h8 p8=>?_
 exact⟨(Apm K hM (Ad q1.r end_) ((fieldAt (Ad q1.r end_).plan.shapes shape (B9 (Am q1.r end_))).getD fld0) _ _ Q5 Q5 (hk) Q5 Q5 Q5 (by rw[hpl];exact hp7) Q85 (by grind) (by grind[Ha]) Q85),Ay (j:=(⟨(A7 (Ei (Int.toNat (((Ad q1.r end_)).plan.deep-deep))) (Ad q1.r end_) ((fieldAt (Ad q1.r end_).plan.shapes shape (B9 (Am q1.r end_))).getD fld0) (decide ((((fieldAt (Ad q1.r end_).plan.shapes shape (B9 (Am q1.r end_))).getD fld0)).number≠0)) end_)⟩:Gu)) rfl rfl Q53 Q52⟩
 exact⟨(Aq4 (Ad q1.r end_) ((fieldAt (Ad q1.r end_).plan.shapes shape (B9 (Am q1.r end_))).getD fld0) _ _ Q5 Q5 (hk) Q5 Q5 Q5 (by grind[Ha])),Ay (j:=(⟨(Bq (Ad q1.r end_) ((fieldAt (Ad q1.r end_).plan.shapes shape (B9 (Am q1.r end_))).getD fld0) (B1 (Am q1.r end_)) end_)⟩:Gu)) rfl rfl Q53 Q52⟩
 refine dsp (fun h7 p7=>?_) fun h7 p7=>?_
 exact⟨(Apm K hM (Ad q1.r end_) ((fieldAt (Ad q1.r end_).plan.shapes shape (B9 (Am q1.r end_))).getD fld0) _ _ Q5 Q5 (hk) Q5 Q5 Q5 (by rw[hpl];exact hp7) Q85 (by grind) (by grind[Ha]) Q85),Ay (j:=(⟨(A7 (Ei (Int.toNat (((Ad q1.r end_)).plan.deep-deep))) (Ad q1.r end_) ((fieldAt (Ad q1.r end_).plan.shapes shape (B9 (Am q1.r end_))).getD fld0) (decide ((((fieldAt (Ad q1.r end_).plan.shapes shape (B9 (Am q1.r end_))).getD fld0)).number≠0)) end_)⟩:Gu)) rfl rfl Q53 Q52⟩
 exact⟨(Aq4 (Ad q1.r end_) ((fieldAt (Ad q1.r end_).plan.shapes shape (B9 (Am q1.r end_))).getD fld0) _ _ Q5 Q5 (hk) Q5 Q5 Q5 (by grind[Ha])),Ay (j:=(⟨(Bq (Ad q1.r end_) ((fieldAt (Ad q1.r end_).plan.shapes shape (B9 (Am q1.r end_))).getD fld0) (B1 (Am q1.r end_)) end_)⟩:Gu)) rfl rfl Q53 Q52⟩
 refine zE (Dk (Int.toNat ((r).plan.deep-deep)) shape end_ r) q1.r (fun hm1=>⟨rfl,Q17⟩) ?_
 rotate_left
 refine zE (Dk (Int.toNat ((r).plan.deep-deep)) shape end_ r) q1.r (fun hm1=>⟨rfl,Q17⟩) ?_
 rotate_left
 all_goals first|(exact(Df _ _ _ _).trans (hi_q1.end_ (by omega)))|(exact(Df _ _ _ _).trans (hi_q1.bad (by assumption)))|(rw[hm1];simp[Bb,Bx, *];done)|(exact(Df _ _ _ _).trans (hi_q1.leave (Fi _ _ _) (by omega) hfl (by grind (ematch:=20) (gen:=20) [Ch,Bq,Aj,Bb]) (by first|(exact Ca _ _ _)|(simp_all;done)|(grind))))|(rw[hm1];grind)
theorem Apo: ∀K,Aj7 K
 |0=>fun r shape end_ deep hp1 hp2 hp3 hp4 hp5 hp6 hp7 hp8 hp9=>absurd hp9 (Nat.not_lt_zero _)
 |K+1=>fun r shape end_ deep hp1 hp2 hp3 hp4 hp5 hp6 hp7 hp8 hp9=>As0 K (Apo K) r shape end_ deep hp1 hp2 hp3 hp4 hp5 hp6 hp7 hp8 (Nat.le_of_lt_succ hp9)
theorem Aue (r:Mr) (shape:Int) (end_:Int) (deep:Int) (hp1:List.length (r).s≤1048576) (hp2:(r).at_≤((List.length (r).s:Nat):Int)) (hp3:(r).fail.kind=0) (hp4:((List.length (r).out:Nat):Int)+4*(((List.length (r).s:Nat):Int)-(r).at_)≤100000000) (hp5:(0:Int)≤(r).at_) (hp6: -1000000000≤end_∧end_≤9223372036854775807) (hp7:B3 (r).plan=true) (hp8:(1:Int)≤deep∧deep≤(r).plan.deep):Fun Tryz.prog 72 [vP 0,vI shape,vI end_,vI deep] [.cells (B7 1 r),.lst .ev r.out] (.tup []) [.cells (B7 2 (Dk (Int.toNat ((r).plan.deep-deep)) shape end_ r)),.dead,.lst .ev (Dk (Int.toNat ((r).plan.deep-deep)) shape end_ r).out]:=Apo _ r shape end_ deep hp1 hp2 hp3 hp4 hp5 hp6 hp7 hp8 (Nat.lt_succ_self _)
/-! ### More told Cc -/
def Cc (o:List Ev) (r:Mr):Mr:=⟨r.plan,r.s,r.at_,o++r.out,r.fail⟩
theorem Gc (o:List Ev) (r:Mr) (e:Ev):Aj (Cc o r) e=Cc o (Aj r e):=by simp[Aj,Cc]
theorem Ls (o:List Ev) (r:Mr) (e:Int):Ad (Cc o r) e=Cc o (Ad r e):=by
 unfold Ad;rw[show Bf (Cc o r) e=Bf r e from rfl];split<;>rfl
theorem Aj8 (o:List Ev) (r:Mr) (w e:Int):D3 (Cc o r) w e=Cc o (D3 r w e):=by
 unfold D3
 rw[show (Cc o r).at_=r.at_ from rfl,show (Cc o r).s=r.s from rfl]
 split
 ·rfl
 ·split<;>rfl
theorem Aj9 (o:List Ev) (r:Mr) (w e:Int):Cj (Cc o r) w e=Cc o (Cj r w e):=by
 unfold Cj;split
 ·exact Aj8 o r _ e
 ·exact Ls o r e
theorem Yb (o:List Ev) (r:Mr) (f:Fld) (w e:Int):Bq (Cc o r) f w e=Cc o (Bq r f w e):=by
 unfold Bq
 rw[show Dj (Cc o r) w e=Dj r w e from rfl,show Di (Cc o r) w e=Di r w e from rfl,Aj9]
 split
 ·exact Gc o _ _
 ·rfl
theorem R9 (o:List Ev) {step:Mr→Mr} (hs: ∀r,step (Cc o r)=Cc o (step r)) (e:Int): ∀(k:Nat) (r:Mr),Cw (E3 e) step k (Cc o r)=Cc o (Cw (E3 e) step k r)
 |0,r=>rfl
 |k+1,r=>by
  simp only[Cw]
  rw[show E3 e (Cc o r)=E3 e r from rfl]
  split
  ·rw[hs,R9 o hs e k]
  ·rfl
theorem Aka (o:List Ev) (r:Mr) (f:Fld) (e:Int):G4 (Cc o r) f e=Cc o (G4 r f e):=R9 o (fun r=>Yb o r f _ e) e _ r
theorem Ah4 (o:List Ev) (r:Mr) (f:Fld) (n:Int):Ce (Cc o r) f n=Cc o (Ce r f n):=by
 unfold Ce
 rw[show Dy (Cc o r) f n=Dy r f n from rfl]
 split<;>simp only[Gc]
theorem Akb (o:List Ev) (r:Mr) (f:Fld) (n:Int):Be (Cc o r) f n=Cc o (Be r f n):=by
 unfold Be
 rw[show E7 (Cc o r) f n=E7 r f n from rfl,show As (Cc o r) n=As r n from rfl,show Vi (Cc o r) f n=Vi r f n from rfl,Ah4,show (Cc o r).s=r.s from rfl,show (Cc o r).at_=r.at_ from rfl]
 split
 ·rfl
 split
 ·rfl
 split
 ·rfl
 ·exact Gc o (Gh (Ce r f n) (r.at_+n)) shutEv
def W7 (o:List Ev) (sub:Mr→Fld→Int→Int→Mr):Prop:= ∀(v:Mr) (f:Fld) (n s:Int),sub (Cc o v) f n s=Cc o (sub v f n s)
theorem Aao {o:List Ev} {sub:Mr→Fld→Int→Int→Mr} (hs:W7 o sub) (r:Mr) (f:Fld) (known:Bool) (e:Int):A7 sub (Cc o r) f known e=Cc o (A7 sub r f known e):=by
 unfold A7
 rw[show Bf (Cc o r) e=Bf r e from rfl,show Am (Cc o r) e=Am r e from rfl,Ls]
 simp only[show ∀x,(Cc o x).at_=x.at_ from fun _=>rfl,show ∀x,(Cc o x).s=x.s from fun _=>rfl]
 split
 ·rfl
 split
 ·rfl
 split
 ·split<;>rfl
 split
 ·exact hs _ _ _ _
 split
 ·exact Aka o _ _ _
 ·exact Akb o _ _ _
theorem Ade {o:List Ev} {sub:Mr→Fld→Int→Int→Mr} (hs:W7 o sub) (shape e:Int) (r:Mr):Ch sub shape e (Cc o r)=Cc o (Ch sub shape e r):=by
 unfold Ch
 rw[show Bf (Cc o r) e=Bf r e from rfl,show Am (Cc o r) e=Am r e from rfl,Ls]
 simp only[show ∀x,(Cc o x).at_=x.at_ from fun _=>rfl,show ∀x,(Cc o x).plan=x.plan from fun _=>rfl]
 split
 ·rfl
 split
 ·rfl
 split
 ·rfl
 split
 ·rfl
 split
 ·exact Aao hs _ _ _ _
 ·exact Yb o _ _ _ _
theorem Yc {o:List Ev} {D:Nat} (hs:W7 o (Ei D)) (shape e:Int) (r:Mr):Dk D shape e (Cc o r)=Cc o (Dk D shape e r):=by
 rw[Df,Df]
 exact R9 o (fun r=>Ade hs shape e r) e _ r
theorem Ui (o:List Ev): ∀D,W7 o (Ei D)
 |0=>fun _ _ _ _=>rfl
 |D+1=>fun v f n s=>by
  simp only[Ei]
  rw[show (Cc o v).at_=v.at_ from rfl,Gc,Yc (Ui o D)]
  split<;>rename_i h
  ·rw[if_pos (show (Dk D f.msg (v.at_+n) (Aj v (Dc f n))).fail.kind=0 from h),Gc]
  ·rw[if_neg (show¬(Dk D f.msg (v.at_+n) (Aj v (Dc f n))).fail.kind=0 from h)]
theorem Vn (o:List Ev) (D:Nat) (shape e:Int) (r:Mr):Dk D shape e (Cc o r)=Cc o (Dk D shape e r):=Yc (Ui o D) shape e r
/-! ### Where a message ends -/
theorem Agi {step:Mr→Mr} (hs:Jc step) {e:Int} (ht: ∀r:Mr,r.at_≤(r.s.length:Int)→r.fail.kind=0→(step r).fail.kind=0→(step r).at_≤e): ∀(n:Nat) (r:Mr),Kj r≤n→r.at_≤(r.s.length:Int)→r.at_≤e→r.fail.kind=0→(Cw (E3 e) step (Kj r) r).fail.kind=0→(Cw (E3 e) step (Kj r) r).at_=e:=by
 intro n
 induction n with
 |zero=>intro r hn hl _ h0;simp only[Kj,if_pos h0] at hn;omega
 |succ n ih=>
  intro r hn hl he h0 hk
  by_cases hg:r.at_<e
  ·have hi:=(LInv.refl (step:=step) (e:=e) hl).go hs hg h0
   rw[←hi.1.run] at hk ⊢
   by_cases h1:(step r).fail.kind=0
   ·have ha:=hi.1.at_ h1
    exact ih _ Q5 ha.2 (ht r hl h0 h1) h1 hk
   ·rw[Cq (by simp[E3,h1])] at hk
    exact(h1 hk).elim
  ·rw[Cq (by simp[E3];omega)];omega
theorem Uj {r:Mr} {e:Int} (h0:r.fail.kind=0) (hl:r.at_≤(r.s.length:Int)) (hk:(Ad r e).fail.kind=0):(Ad r e).at_≤e:=by
 have:=Cg (e:=e) h0
 rw[hk] at this
 exact((Cz hl).2.1 (by simpa using this)).2
theorem Aap {r:Mr} {f:Fld} {w e:Int} (h0:r.fail.kind=0) (hl:r.at_≤(r.s.length:Int)) (hk:(Bq r f w e).fail.kind=0):(Bq r f w e).at_≤e:=by
 have hv:(Cj r w e).fail.kind=0→(Cj r w e).at_≤e:=fun h=>by
  unfold Cj at h ⊢
  split
  ·rename_i hw
   rw[if_pos hw] at h
   unfold D3 at h ⊢
   split
   ·rename_i h2;rw[if_pos h2] at h;exact(Ca _ _ _ h).elim
   ·rename_i h2
    rw[if_neg h2] at h
    split
    ·show r.at_+Az w≤e;omega
    ·rename_i h3;rw[if_neg h3] at h;exact(Ca _ _ _ h).elim
  ·rename_i hw
   rw[if_neg hw] at h
   exact Uj h0 hl h
 unfold Bq at hk ⊢
 split
 ·rename_i h;rw[if_pos h] at hk;exact hv hk
 ·rename_i h;rw[if_neg h] at hk;exact hv hk
def Anu (sub:Mr→Fld→Int→Int→Mr):Prop:= ∀(v:Mr) (f:Fld) (n s:Int),v.at_≤(v.s.length:Int)→v.fail.kind=0→0≤n→(sub v f n s).fail.kind=0→(sub v f n s).at_=v.at_+n
theorem Ah5 {r:Mr} {f:Fld} {n:Int} (hk:(Be r f n).fail.kind=0):(Be r f n).at_=r.at_+n:=by
 unfold Be at hk ⊢
 split
 ·rename_i h;rw[if_pos h] at hk;exact(Ca _ _ _ hk).elim
 rename_i h;rw[if_neg h] at hk
 split
 ·rename_i h;rw[if_pos h] at hk;exact(Ca _ _ _ hk).elim
 rename_i h;rw[if_neg h] at hk
 split
 ·rename_i h;rw[if_pos h] at hk;exact(Ca _ _ _ hk).elim
 ·rfl
theorem Aez {sub:Mr→Fld→Int→Int→Mr} (ht:Anu sub) {r:Mr} {f:Fld} {known:Bool} {e:Int} (h0:r.fail.kind=0) (hl:r.at_≤(r.s.length:Int)) (hk:(A7 sub r f known e).fail.kind=0):(A7 sub r f known e).at_≤e:=by
 have hv:=Cz (e:=e) hl
 have hu:=Jo r e
 unfold A7 at hk ⊢
 split
 ·rename_i h;rw[if_pos h] at hk;exact Uj h0 hl hk
 rename_i hok;rw[if_neg hok] at hk
 have hok:Bf r e=true:=by simpa using hok
 have hvk:(Ad r e).fail.kind=0:=by rw[Cg h0] at hok;simpa using hok
 have ha:=hv.1.1.at_ hvk
 have hs:=congrArg List.length hv.1.1.s
 split
 ·rename_i h;rw[if_pos h] at hk;exact(Ca _ _ _ hk).elim
 rename_i hn;rw[if_neg hn] at hk
 split
 ·rename_i h;rw[if_pos h] at hk
  split
  ·rename_i h2;rw[if_pos h2] at hk;exact(Ca _ _ _ hk).elim
  ·show (Ad r e).at_+Am r e≤e;omega
 rename_i h;rw[if_neg h] at hk
 split
 ·rename_i h2;rw[if_pos h2] at hk
  rw[ht _ _ _ _ (by omega) hvk hu.1 hk];omega
 rename_i h2;rw[if_neg h2] at hk
 split
 ·rename_i h3;rw[if_pos h3] at hk
  have:=Agi (J7 f (A3 f.kind) ((Ad r e).at_+Am r e)) (fun r hl h0 hk=>Aap h0 hl hk) _ (Ad r e) (Nat.le_refl _) (by omega) (by omega) hvk hk
  show (G4 (Ad r e) f ((Ad r e).at_+Am r e)).at_≤e
  unfold G4;rw[this];omega
 ·rename_i h3;rw[if_neg h3] at hk
  rw[Ah5 hk];omega
theorem Ah6 {sub:Mr→Fld→Int→Int→Mr} (ht:Anu sub) {shape e:Int} {r:Mr} (h0:r.fail.kind=0) (hl:r.at_≤(r.s.length:Int)) (hk:(Ch sub shape e r).fail.kind=0):(Ch sub shape e r).at_≤e:=by
 have hv:=Cz (e:=e) hl
 unfold Ch at hk ⊢
 split
 ·rename_i h;rw[if_pos h] at hk;exact Uj h0 hl hk
 rename_i hok;rw[if_neg hok] at hk
 have hok:Bf r e=true:=by simpa using hok
 have hvk:(Ad r e).fail.kind=0:=by rw[Cg h0] at hok;simpa using hok
 have ha:=hv.1.1.at_ hvk
 have hs:=congrArg List.length hv.1.1.s
 split
 ·rename_i h;rw[if_pos h] at hk;exact(Ca _ _ _ hk).elim
 rename_i h;rw[if_neg h] at hk
 split
 ·rename_i h;rw[if_pos h] at hk;exact(Ca _ _ _ hk).elim
 rename_i h;rw[if_neg h] at hk
 split
 ·rename_i h;rw[if_pos h] at hk;exact(Ca _ _ _ hk).elim
 rename_i h;rw[if_neg h] at hk
 split
 ·rename_i h;rw[if_pos h] at hk;exact Aez ht hvk (by omega) hk
 ·rename_i h;rw[if_neg h] at hk;exact Aap hvk (by omega) hk
theorem Akc {D:Nat} (ht:Anu (Ei D)) {shape e:Int} {r:Mr} (hl:r.at_≤(r.s.length:Int)) (he:r.at_≤e) (h0:r.fail.kind=0) (hk:(Dk D shape e r).fail.kind=0):(Dk D shape e r).at_=e:=by
 rw[Df] at hk ⊢
 exact Agi (Fi D shape e) (fun r hl h0 hk=>Ah6 ht h0 hl hk) _ r (Nat.le_refl _) hl he h0 hk
theorem Akd: ∀D,Anu (Ei D)
 |0=>fun v f n s _ _ _ hk=>(Ca _ _ _ hk).elim
 |D+1=>fun v f n s hl h0 hn hk=>by
  have hm:=Akc (Akd D) (shape:=f.msg) (e:=v.at_+n) (r:=Aj v (Dc f n)) hl (by show v.at_≤v.at_+n;omega) h0
  simp only[Ei] at hk ⊢
  split
  ·rename_i h;exact hm h
  ·rename_i h;rw[if_neg h] at hk;exact hm hk
theorem Anv {D:Nat} {shape e:Int} {r:Mr} (hl:r.at_≤(r.s.length:Int)) (he:r.at_≤e) (h0:r.fail.kind=0) (hk:(Dk D shape e r).fail.kind=0):(Dk D shape e r).at_=e:=Akc (Akd D) hl he h0 hk
/-! ### Whole inputs -/
def mr0 (p:Pln) (s:List UInt8) (a:Int):Mr:=⟨p,s,a,[],ev0⟩
def Cr (n:Int):Ev:=⟨1,0,0,n,[],0,0⟩
def frameEndEv:Ev:=⟨8,0,0,0,[],0,0⟩
def Uk (a:Int):Ev:=⟨9,0,0,0,[],0,a⟩
def maxI:Int:=9223372036854775807
def Cs (r:Mr):Mr:=Dk (Int.toNat (r.plan.deep-1)) r.plan.root ((Ad r maxI).at_+Am r maxI) (Aj (Ad r maxI) (Cr (Am r maxI)))
def frmStep (r:Mr):Mr:=
 if Bf r maxI=false then Ad r maxI
 else if r.plan.most<Am r maxI then Bb (Ad r maxI) 7 r.at_
 else if (Cs r).fail.kind=0 then Aj (Cs r) frameEndEv else Cs r
theorem Fe {r:Mr} (hl:r.at_≤(r.s.length:Int)) (h0:r.fail.kind=0):Adv1 r (frmStep r):=by
 obtain ⟨hv,hv2,hv3⟩:=Cz (e:=maxI) hl
 unfold frmStep
 split
 ·exact hv
 ·rename_i hok
  have hok:Bf r maxI=true:=by simpa using hok
  have hk:(Ad r maxI).fail.kind=0:=by rw[Cg h0] at hok;simpa using hok
  have ha:=hv.1.at_ hk
  have hs:=congrArg List.length hv.1.s
  have hl':(Ad r maxI).at_≤((Ad r maxI).s.length:Int):=by omega
  have hr:=(Adv.refl (Ad r maxI) hl').b
  have hm0:AdvB 0 (Aj (Ad r maxI) (Cr (Am r maxI))) (Cs r):=(W4 (r:=Aj (Ad r maxI) (Cr (Am r maxI))) hl').b
  have hm:AdvB (0+1+0) (Ad r maxI) (Cs r):=(hr.tell (Cr (Am r maxI))).trans hk hm0
  split
  ·exact hv.after hv3 hk (hr.failed _ _) (by decide)
  split
  ·exact hv.after hv3 hk (hm.tell _) (by decide)
  ·exact hv.after hv3 hk hm (by decide)
structure Wh where
 r:Mr
 ends:List Int
def Ae0 (w:Wh):Bool:=E3 (w.r.s.length:Int) w.r
def Du (w:Wh):Wh:=⟨frmStep w.r,if (frmStep w.r).fail.kind=0 then w.ends++[(frmStep w.r).at_] else w.ends⟩
def Ah7 (w:Wh):Wh:=Cw Ae0 Du (Kj w.r) w
def wh0 (p:Pln) (s:List UInt8):Wh:=⟨mr0 p s 0,[0]⟩
def Ef (p:Pln) (s:List UInt8):Wh:=Ah7 (wh0 p s)
def Cu (p:Pln) (s:List UInt8):List Ev:=(Ef p s).r.out++[if (Ef p s).r.fail.kind=0 then Uk (s.length:Int) else (Ef p s).r.fail]
structure WInv (w0 q:Wh):Prop where
 adv:Adv w0.r q.r
 ends:q.r.fail.kind=0→(q.ends.length:Int)≤1+q.r.at_
 run:Ah7 q=Ah7 w0
theorem WInv.refl {p:Pln} {s:List UInt8} :WInv (wh0 p s) (wh0 p s):=⟨Adv.refl _ (by simp[wh0,mr0]),fun _=>by simp[wh0,mr0],rfl⟩
theorem WInv.room {p:Pln} {s:List UInt8} {q:Wh} (h:WInv (wh0 p s) q) (hk:q.r.fail.kind=0):q.r.s=s∧q.r.plan=p∧0≤q.r.at_∧q.r.at_≤(s.length:Int)∧(q.r.out.length:Int)+4*((s.length:Int)-q.r.at_)≤4*(s.length:Int)∧q.r.fail=ev0:=by
 have:=h.adv.at_ hk
 have hr:=h.adv.room hk
 refine⟨h.adv.s,h.adv.plan,this.1,this.2,?_,h.adv.fail hk⟩
 simpa [wh0,mr0] using hr
theorem WInv.next {p:Pln} {s:List UInt8} {q x:Wh} (h:WInv (wh0 p s) q) (hg:q.r.at_<(s.length:Int)) (hk:q.r.fail.kind=0) (hx:Du q=x):WInv (wh0 p s) x∧Kj x.r<Kj q.r:=by
 subst hx
 obtain ⟨h1,h2,h3,h4,h5,_⟩:=h.room hk
 have hl:q.r.at_≤(q.r.s.length:Int):=by rw[h1];exact h4
 have hf:=Fe hl hk
 have hgo:Ae0 q=true:=by simp[Ae0,E3,h1,hg,hk]
 refine⟨⟨h.adv.trans hk hf.1,fun hk2=>?_,?_⟩,Pd hl hk hf⟩
 ·have:=h.ends hk
  have:=hf.2 hk2
  have hk3:(frmStep q.r).fail.kind=0:=hk2
  simp only[Du,if_pos hk3,List.length_append,List.length_cons,List.length_nil];omega
 ·rw[←h.run]
  refine(Abt (fun w:Wh=>w.r.at_≤(w.r.s.length:Int)∨w.r.fail.kind≠0) (fun w=>Kj w.r) (fun a hi hg=>?_) (.inl hl) hgo).symm
  have hk':a.r.fail.kind=0:=Gs hg
  have hl:a.r.at_≤(a.r.s.length:Int):=hi.resolve_right (fun h=>h hk')
  have hf:=Fe hl hk'
  refine⟨?_,Pd hl hk' hf⟩
  by_cases hk2:(frmStep a.r).fail.kind=0
  ·left
   show (frmStep a.r).at_≤((frmStep a.r).s.length:Int)
   rw[hf.1.s];exact(hf.1.at_ hk2).2
  ·exact .inr hk2
theorem WInv.stop {w0 q:Wh} (h:WInv w0 q) (hg:Ae0 q=false):Ah7 w0=q:=by rw[←h.run];exact Cq hg
theorem WInv.end_ {p:Pln} {s:List UInt8} {q:Wh} (h:WInv (wh0 p s) q) (hg: ¬q.r.at_<(s.length:Int)):Ef p s=q:=h.stop (by
 have:q.r.s=s:=h.adv.s
 simp[Ae0,E3,this];omega)
theorem WInv.leave {p:Pln} {s:List UInt8} {q x:Wh} (h:WInv (wh0 p s) q) (hg:q.r.at_<(s.length:Int)) (hk:q.r.fail.kind=0) (hx:Du q=x) (hx2:x.r.fail.kind≠0):Ef p s=x:=
 (h.next hg hk hx).1.stop (by simp[Ae0,E3,hx2])
theorem Ake {s:List UInt8} {a e e':Int} (he:(s.length:Int)<e) (he':(s.length:Int)<e'): ∀(f:Nat) (k u:Int),a+k≤(s.length:Int)→vwA s a e f k u=vwA s a e' f k u
 |0,k,u,_=>rfl
 |f+1,k,u,h=>by
  rw[vwA,vwA,if_neg (show¬e≤a+k by omega),if_neg (show¬e'≤a+k by omega)]
  split
  ·rfl
  split
  ·rfl
  split
  ·rfl
  ·exact Ake he he' f (k+1) _ (by omega)
theorem Abv {s:List UInt8} {a e e':Int} (he:(s.length:Int)<e) (he':(s.length:Int)<e'):Ah s a e=Ah s a e':=by
 unfold Ah
 split
 ·rename_i hw
  have:=Bp hw
  rw[Ake he he' 10 0 0 (by omega)]
 ·rfl
def Aaq (p:Pln) (shape:Int) (s:List UInt8) (a e deep:Int):Bool:=B3 p&&Aw shape 0 ((p.shapes.length:Int)-1)&&Aw a 0 (s.length:Int)&&decide (a≤e)&&Aw deep 1 p.deep
def Ci (p:Pln) (shape:Int) (s:List UInt8) (a e deep:Int):Mr:=if Aaq p shape s a e deep then Dk (Int.toNat (p.deep-deep)) shape e (mr0 p s a) else mr0 p s a
theorem At8 {s:List UInt8} (hl:s.length≤4000) (a:Int):Ah s a 8000=Ah s a maxI:=Abv (by omega) (by unfold maxI;omega)
theorem Yd {p:Pln} {s:List UInt8} {a:Int} {o:List Ev} (hl:s.length≤4000):Bf ⟨p,s,a,o,ev0⟩ maxI=decide ((Ah s a 8000).2.2=0):=by rw[At8 hl];rfl
theorem Um {p:Pln} {s:List UInt8} {a:Int} {o:List Ev} (hl:s.length≤4000) (h:(Ah s a 8000).2.2=0):Bf ⟨p,s,a,o,ev0⟩ maxI=true∧Ad ⟨p,s,a,o,ev0⟩ maxI=⟨p,s,(Ah s a 8000).2.1,o,ev0⟩∧Am ⟨p,s,a,o,ev0⟩ maxI=(Ah s a 8000).1:=by
 have hok:Bf ⟨p,s,a,o,ev0⟩ maxI=true:=by rw[Yd hl];simpa using h
 refine⟨hok,?_,?_⟩
 ·rw[Pc hok,At8 hl];rfl
 ·unfold Am;rw[if_pos hok,At8 hl]
theorem As1 {p:Pln} {s:List UInt8} {a:Int} {o:List Ev} {e:List Int} (hl:s.length≤4000) (h: ¬(Ah s a 8000).2.2=0):Du ⟨⟨p,s,a,o,ev0⟩,e⟩=⟨⟨p,s,a,o,Bx (Ah s a 8000).2.2 (Ah s a 8000).2.1⟩,e⟩:=by
 have hok:Bf ⟨p,s,a,o,ev0⟩ maxI=false:=by rw[Yd hl];simpa using h
 have hv:=Ri hok
 have hf:frmStep ⟨p,s,a,o,ev0⟩=Ad ⟨p,s,a,o,ev0⟩ maxI:=by unfold frmStep;rw[if_pos hok]
 unfold Du
 simp only[hf,hv]
 rw[if_neg (Ca _ _ _),At8 hl]
 rfl
theorem Aq5 {p:Pln} {s:List UInt8} {a:Int} {o:List Ev} {e:List Int} (hl:s.length≤4000) (h:(Ah s a 8000).2.2=0) (hm:p.most<(Ah s a 8000).1):Du ⟨⟨p,s,a,o,ev0⟩,e⟩=⟨⟨p,s,(Ah s a 8000).2.1,o,Bx 7 a⟩,e⟩:=by
 obtain ⟨h1,h2,h3⟩:=Um (p:=p) (o:=o) hl h
 have hf:frmStep ⟨p,s,a,o,ev0⟩=Bb ⟨p,s,(Ah s a 8000).2.1,o,ev0⟩ 7 a:=by
  unfold frmStep;rw[if_neg (by simp[h1]),h3,if_pos hm,h2]
 unfold Du
 simp only[hf]
 rw[if_neg (Ca _ _ _)]
 rfl
theorem Un {p:Pln} {s:List UInt8} {a:Int} {o:List Ev} (hp:B3 p=true) (hl:s.length≤4000) (h:(Ah s a 8000).2.2=0):Cs ⟨p,s,a,o,ev0⟩=Cc (o++[Cr (Ah s a 8000).1]) (Ci p p.root s (Ah s a 8000).2.1 ((Ah s a 8000).2.1+(Ah s a 8000).1) 1):=by
 obtain ⟨h1,h2,h3⟩:=Um (p:=p) (o:=o) hl h
 have hw:=Mn h
 have hb:=Lm s a 8000
 have ht:=C6 hp
 have hr:Aaq p p.root s (Ah s a 8000).2.1 ((Ah s a 8000).2.1+(Ah s a 8000).1) 1=true:=by
  simp only[Aaq,Aw,Bool.and_eq_true,decide_eq_true_eq]
  exact⟨⟨⟨⟨hp,by omega,by omega⟩,by omega,by omega⟩,by omega⟩,by omega,by omega⟩
 unfold Cs Ci
 rw[if_pos hr,h2,h3,←Vn]
 simp[Aj,Cc,mr0]
theorem As2 {p:Pln} {s:List UInt8} {a:Int} {o:List Ev} {e:List Int} (hp:B3 p=true) (hl:s.length≤4000) (h:(Ah s a 8000).2.2=0) (hm: ¬p.most<(Ah s a 8000).1) (hk: ¬(Ci p p.root s (Ah s a 8000).2.1 ((Ah s a 8000).2.1+(Ah s a 8000).1) 1).fail.kind=0):
  Du ⟨⟨p,s,a,o,ev0⟩,e⟩=⟨Cc (o++[Cr (Ah s a 8000).1]) (Ci p p.root s (Ah s a 8000).2.1 ((Ah s a 8000).2.1+(Ah s a 8000).1) 1),e⟩:=by
 obtain ⟨h1,h2,h3⟩:=Um (p:=p) (o:=o) hl h
 have hf:frmStep ⟨p,s,a,o,ev0⟩=Cs ⟨p,s,a,o,ev0⟩:=by
  unfold frmStep;rw[if_neg (by simp[h1]),h3,if_neg hm,Un hp hl h,if_neg (show¬(Cc (o++[Cr (Ah s a 8000).1]) (Ci p p.root s (Ah s a 8000).2.1 ((Ah s a 8000).2.1+(Ah s a 8000).1) 1)).fail.kind=0 from hk)]
 unfold Du
 simp only[hf,Un hp hl h]
 rw[if_neg (show¬(Cc (o++[Cr (Ah s a 8000).1]) (Ci p p.root s (Ah s a 8000).2.1 ((Ah s a 8000).2.1+(Ah s a 8000).1) 1)).fail.kind=0 from hk)]
theorem Ye {p:Pln} {shape:Int} {s:List UInt8} {a e d:Int} (hl:a≤(s.length:Int)):Adv (mr0 p s a) (Ci p shape s a e d):=by
 unfold Ci;split
 ·exact W4 (r:=mr0 p s a) hl
 ·exact Adv.refl (mr0 p s a) hl
theorem As3 {p:Pln} {s:List UInt8} {a:Int} {o:List Ev} {e:List Int} (hp:B3 p=true) (hl:s.length≤4000) (h:(Ah s a 8000).2.2=0) (hm: ¬p.most<(Ah s a 8000).1) (hk:(Ci p p.root s (Ah s a 8000).2.1 ((Ah s a 8000).2.1+(Ah s a 8000).1) 1).fail.kind=0):
  Du ⟨⟨p,s,a,o,ev0⟩,e⟩=⟨⟨p,s,(Ah s a 8000).2.1+(Ah s a 8000).1,((o++[Cr (Ah s a 8000).1])++(Ci p p.root s (Ah s a 8000).2.1 ((Ah s a 8000).2.1+(Ah s a 8000).1) 1).out)++[frameEndEv],ev0⟩,e++[(Ah s a 8000).2.1+(Ah s a 8000).1]⟩:=by
 obtain ⟨h1,h2,h3⟩:=Um (p:=p) (o:=o) hl h
 have hw:=Mn h
 have hb:=Lm s a 8000
 have hf:frmStep ⟨p,s,a,o,ev0⟩=Aj (Cs ⟨p,s,a,o,ev0⟩) frameEndEv:=by
  unfold frmStep;rw[if_neg (by simp[h1]),h3,if_neg hm,Un hp hl h,if_pos (show (Cc (o++[Cr (Ah s a 8000).1]) (Ci p p.root s (Ah s a 8000).2.1 ((Ah s a 8000).2.1+(Ah s a 8000).1) 1)).fail.kind=0 from hk)]
 have hadv:=Ye (p:=p) (shape:=p.root) (s:=s) (a:=(Ah s a 8000).2.1) (e:=(Ah s a 8000).2.1+(Ah s a 8000).1) (d:=1) (by omega)
 have hat:(Ci p p.root s (Ah s a 8000).2.1 ((Ah s a 8000).2.1+(Ah s a 8000).1) 1).at_=(Ah s a 8000).2.1+(Ah s a 8000).1:=by
  have hfr:=Un (o:=o) hp hl h
  have hk2:(Cs ⟨p,s,a,o,ev0⟩).fail.kind=0:=by rw[hfr];exact hk
  have hat2:(Cs ⟨p,s,a,o,ev0⟩).at_=(Ad ⟨p,s,a,o,ev0⟩ maxI).at_+Am ⟨p,s,a,o,ev0⟩ maxI:=by
   refine Anv ?_ ?_ ?_ hk2
   ·rw[h2];show (Ah s a 8000).2.1≤(s.length:Int);omega
   ·rw[h2,h3];show (Ah s a 8000).2.1≤(Ah s a 8000).2.1+(Ah s a 8000).1;omega
   ·rw[h2];rfl
  rw[hfr,h2,h3] at hat2
  exact hat2
 have hfa:(Ci p p.root s (Ah s a 8000).2.1 ((Ah s a 8000).2.1+(Ah s a 8000).1) 1).fail=ev0:=hadv.fail hk
 have hpl:(Ci p p.root s (Ah s a 8000).2.1 ((Ah s a 8000).2.1+(Ah s a 8000).1) 1).plan=p:=hadv.plan
 have hs:(Ci p p.root s (Ah s a 8000).2.1 ((Ah s a 8000).2.1+(Ah s a 8000).1) 1).s=s:=hadv.s
 unfold Du
 simp only[hf,Un hp hl h]
 rw[if_pos (show (Aj (Cc (o++[Cr (Ah s a 8000).1]) (Ci p p.root s (Ah s a 8000).2.1 ((Ah s a 8000).2.1+(Ah s a 8000).1) 1)) frameEndEv).fail.kind=0 from hk)]
 simp only[Aj,Cc,hat,hfa,hpl,hs]
def Bi (p:Pln) (s:List UInt8):List Ev:=if B3 p=true∧s.length≤4000 then Cu p s else []
def Mo (p:Pln) (s:List UInt8):Int:=Ns (Bi p s) 8
theorem Nd {p:Pln} {s:List UInt8} (hs:s.length≤4000):(Cu p s).length≤16001:=by
 suffices h:((Ef p s).r.out.length:Int)≤16000 by
  unfold Cu;rw[List.length_append];simp only[List.length_cons,List.length_nil];omega
 have key: ∀(k:Nat) (w:Wh),w.r.at_≤(w.r.s.length:Int)→Adv w.r (Cw Ae0 Du k w).r:=by
  intro k
  induction k with
  |zero=>intro w h;exact Adv.refl _ h
  |succ k ih=>
   intro w h
   unfold Cw
   cases hg:Ae0 w with
   |false=>exact Adv.refl _ h
   |true=>
    have hk:w.r.fail.kind=0:=Gs hg
    have hf:=Fe h hk
    simp only[if_true]
    by_cases hk2:(frmStep w.r).fail.kind=0
    ·exact hf.1.trans hk2 (ih (Du w) (by show (frmStep w.r).at_≤((frmStep w.r).s.length:Int);rw[hf.1.s];exact(hf.1.at_ hk2).2))
    ·have:Cw Ae0 Du k (Du w)=Du w:=Cq (by
      cases hg':Ae0 (Du w) with
      |false=>rfl
      |true=>exact(hk2 (Gs hg')).elim)
     rw[this];exact hf.1
 have:=(key (Kj (wh0 p s).r) (wh0 p s) (by simp[wh0,mr0])).most
 have e:(Ef p s)=Cw Ae0 Du (Kj (wh0 p s).r) (wh0 p s):=rfl
 rw[e]
 simp only[wh0,mr0,List.length_nil] at this ⊢
 omega
theorem Aar (r:Mr):frmStep r=if Bf r 9223372036854775807=false then Ad r 9223372036854775807 else if r.plan.most<Am r 9223372036854775807 then Bb (Ad r 9223372036854775807) 7 r.at_ else if (Cs r).fail.kind=0 then Aj (Cs r) frameEndEv else Cs r:=rfl
theorem Adf (r:Mr):Cs r=Dk (Int.toNat (r.plan.deep-1)) r.plan.root ((Ad r 9223372036854775807).at_+Am r 9223372036854775807) (Aj (Ad r 9223372036854775807) (Cr (Am r 9223372036854775807))):=rfl
theorem Akf (p:Pln) (shape:Int) (s:List UInt8) (at_:Int) (end_:Int) (deep:Int) (hp1:s.length≤1048576) (hp2:end_≤9223372036854775807):Fun Tryz.prog 21 [.agg (Cd p),vI shape,vT s,vI at_,vI end_,vI deep] [] (.tup [vO 0,.agg (cEv (Ci p shape s at_ end_ deep).fail)]) [.lst .ev (Ci p shape s at_ end_ deep).out]:=by
 have hN:Ba=274877906944:=rfl
 refine Av Tryz.func21 Q8 Q8 (w:=let zi:Int→C:= .int .i64;let z1:List C:=[zi 0,zi 0,.int .u64 0,zi 0,.str [],zi 0,zi 0];let z4:=(p.shapes.length:Int)-1;let z5:=Ci p shape s at_ end_ deep;let z6:=Aw at_ 0 (s.length:Int);let z8:=([]:List Ev);let z7:=(⟨p,s,at_,z8,(⟨0,0,0,0,[],0,0⟩:Ev)⟩:Mr);let z2:=Dk (Int.toNat ((z7).plan.deep-deep)) shape end_ z7;let z9:=Aw deep 1 p.deep;let z10:List Blk:=[.cells (B7 2 z2),.dead,.lst .ev z2.out];let z11:=Aw shape 0 z4;let z12:S:= .tup [vO 0,.agg (cEv z5.fail)];let z3:=Lf (.tup [vO 0,.agg z1]) z12 [.lst .ev z8] [.lst .ev z5.out];(.seg [.call [] (.v (vB (B3 p))) []] (.br (.seg [.ty .ev] (.leaf () [2])) (.seg [.as 24 (.v (vI z4)),.call [] (.v (vB z11)) []] (.br (.seg [.ty .ev] (.leaf () [2])) (.seg [.call [] (.v (vB z6)) []] (.br (.seg [.ty .ev] (.leaf () [2])) (.br (.seg [.ty .ev] (.leaf () [2])) (.seg [.call [] (.v (vB z9)) []] (.br (.seg [.ty .ev] (.leaf () [2])) (.seg [.at 5,.mk 2 6 .ev,.call [2,3] (.tup []) z10,.ord [(1,true),(2,true),(3,true),(4,true),(6,true),(7,true),(8,true),(9,true),(0,false),(5,false),(10,true),(11,false)] [4],.ty .ev,.ty .ev] (.leaf () [6])))))))))),(Fp 42 [.agg (Cd p)] [] (.v (vB (B3 p))) [])∧Bc (!(B3 p)) z3 ((wI z4)∧(Fp 71 [vI shape,vI 0,vI z4] [] (.v (vB z11)) [])∧Bc (!z11) z3 ((Fp 71 [vI at_,vI 0,vI (s.length:Int)] [] (.v (vB z6)) [])∧Bc (!z6) z3 (Bc (decide (end_<at_)) z3 ((Fp 71 [vI deep,vI 1,vI p.deep] [] (.v (vB z9)) [])∧Bc (!z9) z3 ((Fp 72 [vP 0,vI shape,vI end_,vI deep] [.cells (.seq .shp p.shapes::zi p.root::zi p.deep::zi p.most:: .str s::zi at_:: .own 1::z1),.lst .ev z8] (.tup []) z10)∧(z8.length+z2.out.length≤Ba)∧Lf (.tup [vO 0,.agg (cEv z2.fail)]) z12 [.lst .ev (z8++z2.out)] [.lst .ev z5.out]))))))) Q8 ?_
 refine⟨(Wz p),fun h1=>have q1:=Ar h1;?_,fun h1=>have q1:=Ao h1;have p1:=C6 q1;?_⟩
 refine zD ((Ci p shape s at_ end_ deep).fail) (⟨0,0,0,0,[],0,0⟩:Ev) ((Ci p shape s at_ end_ deep).out) ([]:List Ev) (fun hm1 hm2=>⟨(congrArg S.tup (Af rfl (Af (congrArg V.agg (Af (congrArg (C.int .i64) ?_) (Af (congrArg (C.int .i64) ?_) (Af (congrArg (C.int .u64) ?_) (Af (congrArg (C.int .i64) ?_) (Af (congrArg C.str ?_) (Af (congrArg (C.int .i64) ?_) (Af (congrArg (C.int .i64) ?_) rfl)))))))) rfl))),(by rw[hm2]<;>rfl)⟩) ?_ ?_
 rotate_left 9
 have hpt:=C6 q1
 refine⟨(Ac Q5 Q5),(Cm _ _ _),fun h2=>have q2:=Ar h2;have p2:=Bw q2;?_,fun h2=>have q2:=Ao h2;have p2:=Bp q2;?_⟩
 refine zD ((Ci p shape s at_ end_ deep).fail) (⟨0,0,0,0,[],0,0⟩:Ev) ((Ci p shape s at_ end_ deep).out) ([]:List Ev) (fun hm1 hm2=>⟨(congrArg S.tup (Af rfl (Af (congrArg V.agg (Af (congrArg (C.int .i64) ?_) (Af (congrArg (C.int .i64) ?_) (Af (congrArg (C.int .u64) ?_) (Af (congrArg (C.int .i64) ?_) (Af (congrArg C.str ?_) (Af (congrArg (C.int .i64) ?_) (Af (congrArg (C.int .i64) ?_) rfl)))))))) rfl))),(by rw[hm2]<;>rfl)⟩) ?_ ?_
 rotate_left 9
 refine⟨(Cm _ _ _),fun h3=>have q3:=Ar h3;have p3:=Bw q3;?_,fun h3=>have q3:=Ao h3;have p3:=Bp q3;?_⟩
 refine zD ((Ci p shape s at_ end_ deep).fail) (⟨0,0,0,0,[],0,0⟩:Ev) ((Ci p shape s at_ end_ deep).out) ([]:List Ev) (fun hm1 hm2=>⟨(congrArg S.tup (Af rfl (Af (congrArg V.agg (Af (congrArg (C.int .i64) ?_) (Af (congrArg (C.int .i64) ?_) (Af (congrArg (C.int .u64) ?_) (Af (congrArg (C.int .i64) ?_) (Af (congrArg C.str ?_) (Af (congrArg (C.int .i64) ?_) (Af (congrArg (C.int .i64) ?_) rfl)))))))) rfl))),(by rw[hm2]<;>rfl)⟩) ?_ ?_
 rotate_left 9
 refine dsp (fun h4 p4=>?_) fun h4 p4=>?_
 refine zD ((Ci p shape s at_ end_ deep).fail) (⟨0,0,0,0,[],0,0⟩:Ev) ((Ci p shape s at_ end_ deep).out) ([]:List Ev) (fun hm1 hm2=>⟨(congrArg S.tup (Af rfl (Af (congrArg V.agg (Af (congrArg (C.int .i64) ?_) (Af (congrArg (C.int .i64) ?_) (Af (congrArg (C.int .u64) ?_) (Af (congrArg (C.int .i64) ?_) (Af (congrArg C.str ?_) (Af (congrArg (C.int .i64) ?_) (Af (congrArg (C.int .i64) ?_) rfl)))))))) rfl))),(by rw[hm2]<;>rfl)⟩) ?_ ?_
 rotate_left 9
 refine⟨(Cm _ _ _),fun h5=>have q5:=Ar h5;have p5:=Bw q5;?_,fun h5=>have q5:=Ao h5;have p5:=Bp q5;?_⟩
 refine zD ((Ci p shape s at_ end_ deep).fail) (⟨0,0,0,0,[],0,0⟩:Ev) ((Ci p shape s at_ end_ deep).out) ([]:List Ev) (fun hm1 hm2=>⟨(congrArg S.tup (Af rfl (Af (congrArg V.agg (Af (congrArg (C.int .i64) ?_) (Af (congrArg (C.int .i64) ?_) (Af (congrArg (C.int .u64) ?_) (Af (congrArg (C.int .i64) ?_) (Af (congrArg C.str ?_) (Af (congrArg (C.int .i64) ?_) (Af (congrArg (C.int .i64) ?_) rfl)))))))) rfl))),(by rw[hm2]<;>rfl)⟩) ?_ ?_
 rotate_left 9
 refine zD ((Ci p shape s at_ end_ deep).fail) ((Dk (Int.toNat (((⟨p,s,at_,([]:List Ev),(⟨0,0,0,0,[],0,0⟩:Ev)⟩:Mr)).plan.deep-deep)) shape end_ (⟨p,s,at_,([]:List Ev),(⟨0,0,0,0,[],0,0⟩:Ev)⟩:Mr)).fail) ((Ci p shape s at_ end_ deep).out) (([]:List Ev)++(Dk (Int.toNat (((⟨p,s,at_,([]:List Ev),(⟨0,0,0,0,[],0,0⟩:Ev)⟩:Mr)).plan.deep-deep)) shape end_ (⟨p,s,at_,([]:List Ev),(⟨0,0,0,0,[],0,0⟩:Ev)⟩:Mr)).out) (fun hm1 hm2=>⟨(Aue (⟨p,s,at_,([]:List Ev),(⟨0,0,0,0,[],0,0⟩:Ev)⟩:Mr) _ _ _ Q45 Q45 Q45 Q45 Q45 Q5 (by simp_all) Q45),(Nat.le_trans (Nat.le_of_eq (Nat.zero_add _)) (Aan (by dsimp only;omega) (by simp only[List.length_nil];omega))),(congrArg S.tup (Af rfl (Af (congrArg V.agg (Af (congrArg (C.int .i64) ?_) (Af (congrArg (C.int .i64) ?_) (Af (congrArg (C.int .u64) ?_) (Af (congrArg (C.int .i64) ?_) (Af (congrArg C.str ?_) (Af (congrArg (C.int .i64) ?_) (Af (congrArg (C.int .i64) ?_) rfl)))))))) rfl))),(by rw[hm2]<;>rfl)⟩) ?_ ?_
 rotate_left 9
 all_goals first|(simp_all[Ci,Aaq,mr0,ev0,Aw];done)|(grind[Ci,Aaq,mr0,ev0])|(grind[Ci,Aaq,mr0,ev0,Aw])
structure W8 where
 out:List Ev
 places:List Int
 at_:Int
def W9 (p:Pln) (s:List UInt8):Fam:=⟨W8,fun q1=>[(1,.v (vT s)),(2,.v (vP 0)),(6,.v (vO 1)),(7,.v (vO 2)),(8,.v (vI q1.at_))],fun q1=>[.cells (Cd p),.lst .ev q1.out,.lst .int q1.places],fun q1=>WInv (wh0 p s) ⟨⟨p,s,q1.at_,q1.out,ev0⟩,q1.places⟩,fun q1=>Kj ⟨p,s,q1.at_,q1.out,ev0⟩⟩
theorem Auf (p:Pln) (s:List UInt8) (hp1:B3 p=true) (hp2:s.length≤4000):Fun Tryz.prog 59 [.agg (Cd p),vT s] [] (.tup [vO 0,vO 1]) [.lst .ev (Cu p s),.lst .int (Ef p s).ends]:=by
 have hN:Ba=274877906944:=rfl
 have hpt:=C6 hp1
 refine Av Tryz.func59 Q8 Q8 (w:=let z5:List Blk:=[.lst .ev (Cu p s),.lst .int (Ef p s).ends];let z6:S:= .tup [vO 0,vO 1];let z7:=(⟨9,0,0,0,[],0,(s.length:Int)⟩:Ev);let z8:=W9 p s;(.seg [.ty .ev,.ty .int,.at 0,.keep [1,2,6,7,8],.sel [0,1,2]] (.loop z8 fun q1=>let z1:=Ah s q1.at_ 8000;.br (.seg [.call [] (.tup [.c (.int .u64 z1.1),vI z1.2.1,vI z1.2.2]) []] (.br (.seg [.call [] (.v (.agg (cEv (Bx z1.2.2 z1.2.1)))) [],.ty .ev,.ty .ev] (.leaf () [4,2])) (.seg [.as 40 (.v (.c (.int .u64 p.most)))] (.br (.seg [.call [] (.v (.agg (cEv (Bx 7 q1.at_)))) [],.ty .ev,.ty .ev] (.leaf () [4,2])) (.seg [.as 49 (.v (vI z1.1)),.ty .ev,.ty .ev,.as 63 (.v (vI (z1.2.1+z1.1))),.call [] (.tup [vO 0,.agg (cEv (Ci p p.root s z1.2.1 (z1.2.1+z1.1) 1).fail)]) [.lst .ev (Ci p p.root s z1.2.1 (z1.2.1+z1.1) 1).out],.ty .ev] (.br (.seg [.ty .ev,.ty .ev] (.leaf () [9,2])) (.seg [.ty .ev,.ty .ev,.as 84 (.v (vI (z1.2.1+z1.1))),.ty .int,.ty .int,.at 0,.keep [1,2,6,7,8],.sel [0,9,11]] (.next)))))))) (.seg [.ty .ev,.ty .ev] (.leaf () [4,2]))),z8.Has [(1,.v (vT s)),(2,.v (vP 0)),(6,.v (vO 1)),(7,.v (vO 2)),(8,.v (vI 0))] [.cells (Cd p),.lst .ev ([]:List Ev),.lst .int [0]]∧∀q1,z8.inv q1→(let z2:=Ah s q1.at_ 8000;let z4:=q1.out++[(⟨1,0,0,z2.1,[],0,0⟩:Ev)];let z3:=z4++(Ci p p.root s z2.2.1 (z2.2.1+z2.1) 1).out;Bc (decide (q1.at_<(s.length:Int))) ((Fp 112 [vT s,vI q1.at_,vI 8000] [] (.tup [.c (.int .u64 z2.1),vI z2.2.1,vI z2.2.2]) [])∧Bc (!decide (z2.2.2=0)) ((Fp 113 [vI z2.2.2,vI z2.2.1] [] (.v (.agg (cEv (Bx z2.2.2 z2.2.1)))) [])∧(q1.out.length+List.length [(Bx z2.2.2 z2.2.1)]≤Ba)∧Lf z6 z6 [.lst .ev (q1.out++[(Bx z2.2.2 z2.2.1)]),.lst .int q1.places] z5) ((wU (p.most))∧Bc (decide (p.most<z2.1)) ((Fp 113 [vI 7,vI q1.at_] [] (.v (.agg (cEv (Bx 7 q1.at_)))) [])∧(q1.out.length+List.length [(Bx 7 q1.at_)]≤Ba)∧Lf z6 z6 [.lst .ev (q1.out++[(Bx 7 q1.at_)]),.lst .int q1.places] z5) ((wI (z2.1))∧(q1.out.length+List.length [(⟨1,0,0,z2.1,[],0,0⟩:Ev)]≤Ba)∧(wI (z2.2.1+z2.1))∧(Fp 21 [.agg (Cd p),vI p.root,vT s,vI z2.2.1,vI (z2.2.1+z2.1),vI 1] [] (.tup [vO 0,.agg (cEv (Ci p p.root s z2.2.1 (z2.2.1+z2.1) 1).fail)]) [.lst .ev (Ci p p.root s z2.2.1 (z2.2.1+z2.1) 1).out])∧(z4.length+List.length (Ci p p.root s z2.2.1 (z2.2.1+z2.1) 1).out≤Ba)∧Bc (!decide ((Ci p p.root s z2.2.1 (z2.2.1+z2.1) 1).fail.kind=0)) ((z3.length+List.length [(Ci p p.root s z2.2.1 (z2.2.1+z2.1) 1).fail]≤Ba)∧Lf z6 z6 [.lst .ev (z3++[(Ci p p.root s z2.2.1 (z2.2.1+z2.1) 1).fail]),.lst .int q1.places] z5) ((z3.length+List.length [(⟨8,0,0,0,[],0,0⟩:Ev)]≤Ba)∧(wI (z2.2.1+z2.1))∧(q1.places.length+List.length [z2.2.1+z2.1]≤Ba)∧z8.Nxt q1 [(1,.v (vT s)),(2,.v (vP 0)),(6,.v (vO 1)),(7,.v (vO 2)),(8,.v (vI (z2.2.1+z2.1)))] [.cells (Cd p),.lst .ev (z3++[(⟨8,0,0,0,[],0,0⟩:Ev)]),.lst .int (q1.places++[z2.2.1+z2.1])])))) ((q1.out.length+List.length [z7]≤Ba)∧Lf z6 z6 [.lst .ev (q1.out++[z7]),.lst .int q1.places] z5)))) Q8 ?_
 refine⟨Bv (j:=(⟨([]:List Ev),[0],0⟩:W8)) rfl rfl (by dsimp only[W9];exact WInv.refl),fun (q1:W8) hq_q1=>?_⟩
 have hi_q1:WInv (wh0 p s) ⟨⟨p,s,q1.at_,q1.out,ev0⟩,q1.places⟩:=hq_q1
 have hrm:=hi_q1.room rfl
 dsimp only at hrm
 have hen:=hi_q1.ends rfl
 dsimp only at hen
 have hvb:=Lm s q1.at_ 8000
 refine dsp (fun h1 p1=>?_) fun h1 p1=>?_
 refine⟨(X5 _ _ _ Q5),fun h2=>have q2:=Ar h2;have p2:=of_decide_eq_false q2;?_,fun h2=>have q2:=Ao h2;have p2:=of_decide_eq_true q2;?_⟩
 refine⟨(Dz _ _),Q9,rfl,(Af (congrArg (Blk.lst .ev) ?_) (Af (congrArg (Blk.lst .int) ?_) rfl))⟩
 rotate_left 2
 have hw:=Mn p2
 have hra:((Ci p p.root s (Ah s q1.at_ 8000).2.1 ((Ah s q1.at_ 8000).2.1+(Ah s q1.at_ 8000).1) 1).out.length:Int)≤4*4000:=by have:=(Ye (p:=p) (shape:=p.root) (s:=s) (a:=(Ah s q1.at_ 8000).2.1) (e:=(Ah s q1.at_ 8000).2.1+(Ah s q1.at_ 8000).1) (d:=1) (by omega)).most;simp only[mr0,List.length_nil] at this;omega
 refine⟨(Bm Q5 Q5),dsp (fun h3 p3=>?_) fun h3 p3=>?_⟩
 refine⟨(Dz _ _),Q9,rfl,(Af (congrArg (Blk.lst .ev) ?_) (Af (congrArg (Blk.lst .int) ?_) rfl))⟩
 rotate_left 2
 refine⟨(Ac Q5 Q5),Q9,(Ac Q5 Q5),(Akf p _ _ _ _ _ Q5 Q5),Q34,fun h4=>have q4:=Ar h4;have p4:=of_decide_eq_false q4;?_,fun h4=>have q4:=Ao h4;have p4:=of_decide_eq_true q4;?_⟩
 refine⟨Q34,rfl,(Af (congrArg (Blk.lst .ev) ?_) (Af (congrArg (Blk.lst .int) ?_) rfl))⟩
 rotate_left 2
 exact⟨Q34,(Ac Q5 Q5),Q9,Ay (j:=(⟨((q1.out++[(⟨1,0,0,(Ah s q1.at_ 8000).1,[],0,0⟩:Ev)])++(Ci p p.root s (Ah s q1.at_ 8000).2.1 ((Ah s q1.at_ 8000).2.1+(Ah s q1.at_ 8000).1) 1).out)++[(⟨8,0,0,0,[],0,0⟩:Ev)],q1.places++[(Ah s q1.at_ 8000).2.1+(Ah s q1.at_ 8000).1],_⟩:W8)) rfl rfl (by dsimp only[W9];exact(hi_q1.next (by show q1.at_<_;omega) rfl (As3 hp1 hp2 Q54 Q54 Q54)).1) (by dsimp only[W9];exact(hi_q1.next (by show q1.at_<_;omega) rfl (As3 hp1 hp2 Q54 Q54 Q54)).2)⟩
 refine⟨Q9,rfl,(Af (congrArg (Blk.lst .ev) ?_) (Af (congrArg (Blk.lst .int) ?_) rfl))⟩
 rotate_left 2
 all_goals first|((have hw:=hi_q1.end_ (by show¬q1.at_<_;omega);first|(rw[Cu,hw];simp[ev0,Uk];done)|(rw[hw];done)))|((have hw:=hi_q1.leave (by show q1.at_<_;omega) rfl (As1 hp2 (by assumption)) (by first|assumption|simp[Bx]);first|(rw[Cu,hw];simp[Bx,Cc,Cr, *];done)|(rw[hw];done)))|((have hw:=hi_q1.leave (by show q1.at_<_;omega) rfl (Aq5 hp2 (by assumption) (by assumption)) (by first|assumption|simp[Bx]);first|(rw[Cu,hw];simp[Bx,Cc,Cr, *];done)|(rw[hw];done)))|((have hw:=hi_q1.leave (by show q1.at_<_;omega) rfl (As2 hp1 hp2 (by assumption) (by assumption) (by assumption)) (by first|assumption|simp[Bx]);first|(rw[Cu,hw];simp[Bx,Cc,Cr, *];done)|(rw[hw];done)))
theorem Vo (p:Pln) (s:List UInt8) (hp1:s.length≤1048576):Fun Tryz.prog 25 [.agg (Cd p),vT s] [] (.v (vO 0)) [.lst .ev (Bi p s)]:=by
 have hN:Ba=274877906944:=rfl
 refine Av Tryz.func25 Q8 Q8 (w:=let z1:=Lf (.v (vO 0)) (.v (vO 0)) [.lst .ev ([]:List Ev)] [.lst .ev (Bi p s)];let z2:List Blk:=[.lst .ev (Cu p s),.lst .int (Ef p s).ends];(.seg [.call [] (.v (vB (B3 p))) []] (.br (.seg [.ty .ev] (.leaf () [1])) (.br (.seg [.ty .ev] (.leaf () [1])) (.seg [.call [] (.tup [vO 0,vO 1]) z2] (.leaf () [1])))),(Fp 42 [.agg (Cd p)] [] (.v (vB (B3 p))) [])∧Bc (!(B3 p)) z1 (Bc (decide (4000<(s.length:Int))) z1 ((Fp 59 [.agg (Cd p),vT s] [] (.tup [vO 0,vO 1]) z2)∧Lf (.v (vO 0)) (.v (vO 0)) [.lst .ev (Cu p s)] [.lst .ev (Bi p s)])))) Q8 ?_
 refine⟨(Wz p),fun h1=>have q1:=Ar h1;?_,fun h1=>have q1:=Ao h1;have p1:=C6 q1;?_⟩
 refine⟨rfl,(Af (congrArg (Blk.lst .ev) ?_) rfl)⟩
 rotate_left
 refine dsp (fun h2 p2=>?_) fun h2 p2=>?_
 refine⟨rfl,(Af (congrArg (Blk.lst .ev) ?_) rfl)⟩
 rotate_left
 have hwl:Bi p s=Cu p s:=by unfold Bi;rw[if_pos ⟨by simp_all,by omega⟩]
 refine⟨(Auf p _ Q5 Q5),rfl,(Af (congrArg (Blk.lst .ev) ?_) rfl)⟩
 rotate_left
 all_goals first|(simp_all[Bi];done)|(grind[Bi])
theorem Vp (p:Pln) (s:List UInt8) (hp1:s.length≤1048576):Fun Tryz.prog 30 [.agg (Cd p),vT s] [] (.v (vI (Mo p s))) []:=by
 have hN:Ba=274877906944:=rfl
 have hwm:List.length (Bi p s)≤16001:=by unfold Bi;split;exact Nd (by omega);simp
 refine Av Tryz.func30 Q8 Q8 (w:=let z1:S:= .v (vI (Ns (Bi p s) 8));(.seg [.call [] (.v (vO 0)) [.lst .ev (Bi p s)],.call [] z1 []] (.leaf () []),(Fp 25 [.agg (Cd p),vT s] [] (.v (vO 0)) [.lst .ev (Bi p s)])∧(Fp 77 [.c (.seq .ev (Bi p s)),vI 8] [] z1 [])∧Lf z1 (.v (vI (Mo p s))) [] [])) Q8 ?_
 exact⟨(Vo p _ Q5),(Asw _ _ Q5),(congrArg S.v (congrArg V.c (congrArg (C.int .i64) (by rfl)))),rfl⟩
theorem Akg (l:List Int) (hp1:((List.length l:Nat):Int)≤9223372036854775807):Fun Tryz.prog 10 [.c (.seq .u8 l)] [] (.v (vB (decide (1048576<((List.length l:Nat):Int))))) []:=by
 have hN:Ba=274877906944:=rfl
 refine Av Tryz.func10 Q8 Q8 (w:=let z1:S:= .v (vB (decide (1048576<((List.length l:Nat):Int))));(.leaf () [],Lf z1 z1 [] [])) Q8 ?_
 exact⟨rfl,rfl⟩
structure Cur where
 b:List Int
 i:Int
 h:Int
def An (c:Cur):Prop:=0≤c.i∧c.b.length≤1048576
def By (x:Cur):List C:=[.seq .u8 x.b,.int .i64 x.i,.int .i64 x.h]
abbrev Kc (c:Cur):List Blk:=[.cells (By c)]
structure Nf where
 x:Int
 c1:Cur
def Hd (c:Cur) (o:Nf):Prop:=Fun Tryz.prog 115 [vP 0] [.cells (By c)] (.v (vI o.x)) [.cells (By o.c1)]
def Es (c:Cur) (o:Nf):Prop:=(((0:Int)≤o.x∧o.x≤255)∧(An o.c1))∧Hd c o
theorem Pe (c:Cur) (hp1:An c): ∃o:Nf,Es c o:=by
 have hN:Ba=274877906944:=rfl
 have hcb:=hp1.1
 have hcl:=hp1.2
 refine Bz Tryz.func115 Q8 Q8 (w:=let z5:=(IntKind.i64.wrap (c.h*6364136223846793005))+1442695040888963407;let z3:=IntKind.i64.wrap z5;let z8:=(.v (vI (Int.fdiv z3 (2 ^ 33))):S)= .v (vI (z3 / 8589934592));let z10:List Blk:=[.cells [.seq .u8 c.b,.int .i64 (c.i+1),.int .i64 z3]];let z11:List Blk:=[.cells [.seq .u8 c.b,.int .i64 c.i,.int .i64 z3]];let z12:=z3 / 35184372088832;let z4:=IntKind.i64.wrap (((BitVec.ofInt 64 (z3 / 8589934592) ^^^ BitVec.ofInt 64 z12).toNat:Nat));let z7:=(.v (vI (Int.fdiv z3 (2 ^ 45))):S)= .v (vI z12);let z9:=z4 % 256;let z6:=(.v (vI (IntKind.i64.wrap (((BitVec.ofInt 64 z4&&&BitVec.ofInt 64 255).toNat:Nat)))):S)= .v (vI z9);(.seg [.ord (os 13 []) [],.as 17 (.v (vI (z3 / 8589934592))),.as 22 (.v (vI z12)),.as 24 (.v (vI z9)),.ord (os 10 []) []] (.br (.intro (Sx (c.b[Int.toNat c.i]?)) fun x1=>let z1:=IntKind.i64.wrap (z9+(IntKind.i64.wrap (x1)));.seg [.ord (os 15 []) [],.el .u8 x1,.as 48 (.v (vI (z1 % 256))),.as 54 (.v (vI (c.i+1)))] (.leaf (⟨z1 % 256,(⟨c.b,c.i+1,IntKind.i64.wrap z5⟩:Cur)⟩:Nf) [0])) (.leaf (⟨z4 % 256,(⟨c.b,c.i,IntKind.i64.wrap z5⟩:Cur)⟩:Nf) [0])),((0:Int)≤33)∧((0:Int)≤33)∧z8∧z8∧((0:Int)≤45)∧((0:Int)≤45)∧z7∧z7∧z6∧z6∧Bc (decide (c.i<((List.length c.b:Nat):Int))) (El (c.b[Int.toNat c.i]?) fun x1=>(let z2:=IntKind.i64.wrap (z9+(IntKind.i64.wrap (x1)));(c.b[Int.toNat c.i]? =some x1)∧((0:Int)≤c.i)∧(c.b[Int.toNat c.i]? =some x1)∧((0:Int)≤c.i)∧((.v (vI (IntKind.i64.wrap (((BitVec.ofInt 64 z2&&&BitVec.ofInt 64 255).toNat:Nat)))):S)= .v (vI (z2 % 256)))∧((.v (vI (IntKind.i64.wrap (((BitVec.ofInt 64 z2&&&BitVec.ofInt 64 255).toNat:Nat)))):S)= .v (vI (z2 % 256)))∧(wI (c.i+1))∧(((0:Int)≤(z2 % 256)∧(z2 % 256)≤255)∧(An (⟨c.b,c.i+1,IntKind.i64.wrap z5⟩:Cur)))∧Lf (.v (vI (z2 % 256))) (.v (vI (z2 % 256))) z10 z10)) ((((0:Int)≤z9∧z9≤255)∧(An (⟨c.b,c.i,IntKind.i64.wrap z5⟩:Cur)))∧Lf (.v (vI z9)) (.v (vI z9)) z11 z11))) Q8 ?_
 refine⟨Q26,Q26,(P8 (k:=33) Q26 Q26),(P8 (k:=33) Q26 Q26),Q26,Q26,(P8 (k:=45) Q26 Q26),(P8 (k:=45) Q26 Q26),(Lj (k:=8) Q26 Q26),(Lj (k:=8) Q26 Q26),dsp (fun h1 p1=>?_) fun h1 p1=>?_⟩
 refine⟨(A8 (l:=c.b) (i:=Int.toNat c.i) Q5),fun x1 hx1=>?_⟩
 exact⟨hx1,Q5,hx1,Q5,(Lj (k:=8) Q26 Q26),(Lj (k:=8) Q26 Q26),(Ac Q5 Q5),⟨Q5,Q0⟩,rfl,rfl⟩
 exact⟨⟨Q5,Q0⟩,rfl,rfl⟩
structure Ct where
 x:Int
 c1:Cur
def Ae (c:Cur) (n:Int) (o:Ct):Prop:=Fun Tryz.prog 63 [vP 0,vI n] [.cells (By c)] (.v (vI o.x)) [.cells (By o.c1)]
def Aa (c:Cur) (n:Int) (o:Ct):Prop:=(((0:Int)≤o.x)∧((1:Int)≤n→o.x<n)∧(n≤(0:Int)→o.x=(0:Int))∧(An o.c1))∧Ae c n o
theorem Ak (c:Cur) (n:Int) (hp1:An c): ∃o:Ct,Aa c n o:=by
 have hN:Ba=274877906944:=rfl
 refine Bz Tryz.func63 Q8 Q8 (w:=let z8:=Es c;(.br (.leaf (⟨0,c⟩:Ct) [0]) (.br (.intro z8 fun o1=> .seg [.call [0] (.v (vI o1.x)) (Kc o1.c1)] (.leaf (⟨Int.tmod o1.x n,o1.c1⟩:Ct) [0])) (.intro z8 fun o1=> .seg [.call [0] (.v (vI o1.x)) (Kc o1.c1)] (.intro (Es o1.c1) fun o2=>let z6:=(o1.x*16777216)+(o2.x*65536);.seg [.call [0] (.v (vI o2.x)) (Kc o2.c1)] (.intro (Es o2.c1) fun o3=>let z4:=z6+(o3.x*256);.seg [.call [0] (.v (vI o3.x)) (Kc o3.c1)] (.intro (Es o3.c1) fun o4=>let z2:=z4+o4.x;.seg [.call [0] (.v (vI o4.x)) (Kc o4.c1),.as 26 (.v (vI (o1.x*16777216))),.as 28 (.v (vI (o2.x*65536))),.as 29 (.v (vI z6)),.as 31 (.v (vI (o3.x*256))),.as 32 (.v (vI z4)),.as 34 (.v (vI z2))] (.leaf (⟨Int.tmod z2 n,o4.c1⟩:Ct) [0])))))),Bc (decide (n≤0)) ((((0:Int)≤0)∧((1:Int)≤n→0<n)∧(n≤(0:Int)→0=(0:Int))∧(An c))∧Lf (.v (vI 0)) (.v (vI 0)) (Kc c) (Kc c)) (Bc (decide (n≤256)) (In z8 fun o1=>(let z1:=Int.tmod o1.x n;(Hd c o1)∧(n≠0)∧(((0:Int)≤z1)∧((1:Int)≤n→z1<n)∧(n≤(0:Int)→z1=(0:Int))∧(An o1.c1))∧Lf (.v (vI z1)) (.v (vI z1)) (Kc o1.c1) (Kc o1.c1))) (In z8 fun o1=>((Hd c o1)∧In (Es o1.c1) fun o2=>(let z7:=(o1.x*16777216)+(o2.x*65536);(Hd o1.c1 o2)∧In (Es o2.c1) fun o3=>(let z5:=z7+(o3.x*256);(Hd o2.c1 o3)∧In (Es o3.c1) fun o4=>(let z3:=z5+o4.x;(Hd o3.c1 o4)∧(wI (o1.x*16777216))∧(wI (o2.x*65536))∧(wI z7)∧(wI (o3.x*256))∧(wI z5)∧(wI z3)∧(n≠0)∧(((0:Int)≤(Int.tmod z3 n))∧((1:Int)≤n→(Int.tmod z3 n)<n)∧(n≤(0:Int)→(Int.tmod z3 n)=(0:Int))∧(An o4.c1))∧Lf (.v (vI (Int.tmod z3 n))) (.v (vI (Int.tmod z3 n))) (Kc o4.c1) (Kc o4.c1))))))))) Q8 ?_
 refine dsp (fun h1 p1=>?_) fun h1 p1=>?_
 exact⟨⟨Q5,Q5,Q5,Q0⟩,rfl,rfl⟩
 refine dsp (fun h2 p2=>?_) fun h2 p2=>?_
 refine⟨(Pe c Q0),fun o1 ho_o1=>?_⟩
 obtain ⟨⟨hp_o1_0,hp_o1_1⟩,hf_o1⟩:=ho_o1
 exact⟨hf_o1,Q5,⟨(by have:=P9 o1.x n;omega),(by have:=P9 o1.x n;omega),(by have:=P9 o1.x n;omega),Q0⟩,rfl,rfl⟩
 refine⟨(Pe c Q0),fun o1 ho_o1=>?_⟩
 obtain ⟨⟨hp_o1_0,hp_o1_1⟩,hf_o1⟩:=ho_o1
 refine⟨hf_o1,(Pe o1.c1 Q0),fun o2 ho_o2=>?_⟩
 obtain ⟨⟨hp_o2_0,hp_o2_1⟩,hf_o2⟩:=ho_o2
 refine⟨hf_o2,(Pe o2.c1 Q0),fun o3 ho_o3=>?_⟩
 obtain ⟨⟨hp_o3_0,hp_o3_1⟩,hf_o3⟩:=ho_o3
 refine⟨hf_o3,(Pe o3.c1 Q0),fun o4 ho_o4=>?_⟩
 obtain ⟨⟨hp_o4_0,hp_o4_1⟩,hf_o4⟩:=ho_o4
 exact⟨hf_o4,(Ac Q5 Q5),(Ac Q5 Q5),(Ac Q5 Q5),(Ac Q5 Q5),(Ac Q5 Q5),(Ac Q5 Q5),Q5,⟨Q83,Q83,Q83,Q0⟩,rfl,rfl⟩
structure Ng where
 p:Bool
 c1:Cur
def A0 (c:Cur) (n:Int) (o:Ng):Prop:=Fun Tryz.prog 73 [vP 0,vI n] [.cells (By c)] (.v (vB o.p)) [.cells (By o.c1)]
def Ag (c:Cur) (n:Int) (o:Ng):Prop:=((An o.c1))∧A0 c n o
theorem Bg (c:Cur) (n:Int) (hp1:An c): ∃o:Ng,Ag c n o:=by
 have hN:Ba=274877906944:=rfl
 refine Bz Tryz.func73 Q8 Q8 (w:=(.intro (Aa c n) fun o1=> .seg [.call [0] (.v (vI o1.x)) (Kc o1.c1)] (.leaf (⟨decide (o1.x=0),o1.c1⟩:Ng) [0]),In (Aa c n) fun o1=>((Ae c n o1)∧((An o1.c1))∧Lf (.v (vB (decide (o1.x=0)))) (.v (vB (decide (o1.x=0)))) (Kc o1.c1) (Kc o1.c1)))) Q8 ?_
 refine⟨(Ak c n Q0),fun o1 ho_o1=>?_⟩
 obtain ⟨⟨hp_o1_0,hp_o1_1,hp_o1_2,hp_o1_3⟩,hf_o1⟩:=ho_o1
 exact⟨hf_o1,Q0,rfl,rfl⟩
structure Kt where
 x:Int
 c1:Cur
def Da (c:Cur) (l:List Int) (o:Kt):Prop:=Fun Tryz.prog 67 [vP 0,.c (.seq .int l)] [.cells (By c)] (.v (vI o.x)) [.cells (By o.c1)]
def B4 (c:Cur) (l:List Int) (o:Kt):Prop:=((o.x∈l)∧(An o.c1))∧Da c l o
theorem Eb (c:Cur) (l:List Int) (hp1:An c) (hp2:1≤List.length l) (hp3:List.length l≤1000): ∃o:Kt,B4 c l o:=by
 have hN:Ba=274877906944:=rfl
 refine Bz Tryz.func67 Q8 Q8 (w:=let z1:=((List.length l:Nat):Int);(.intro (Aa c z1) fun o1=> .seg [.call [0] (.v (vI o1.x)) (Kc o1.c1)] (.intro (Sx (l[Int.toNat o1.x]?)) fun x1=> .seg [.el .int x1] (.leaf (⟨x1,o1.c1⟩:Kt) [0])),In (Aa c z1) fun o1=>((Ae c z1 o1)∧El (l[Int.toNat o1.x]?) fun x1=>((l[Int.toNat o1.x]? =some x1)∧((0:Int)≤o1.x)∧((x1∈l)∧(An o1.c1))∧Lf (.v (vI x1)) (.v (vI x1)) (Kc o1.c1) (Kc o1.c1))))) Q8 ?_
 refine⟨(Ak c ((List.length l:Nat):Int) Q0),fun o1 ho_o1=>?_⟩
 obtain ⟨⟨hp_o1_0,hp_o1_1,hp_o1_2,hp_o1_3⟩,hf_o1⟩:=ho_o1
 refine⟨hf_o1,(A8 (l:=l) (i:=Int.toNat o1.x) Q5),fun x1 hx1=>?_⟩
 exact⟨hx1,Q5,⟨(List.mem_of_getElem? hx1),Q0⟩,rfl,rfl⟩
structure Jd where
 x:Int
 c1:Cur
def Tn (c:Cur) (o:Jd):Prop:=Fun Tryz.prog 247 [vP 0] [.cells (By c)] (.v (vI o.x)) [.cells (By o.c1)]
def Lt (c:Cur) (o:Jd):Prop:=((An o.c1))∧Tn c o
theorem Adg (c:Cur) (hp1:An c): ∃o:Jd,Lt c o:=by
 have hN:Ba=274877906944:=rfl
 refine Bz Tryz.func247 Q8 Q8 (w:=let z1:= -9223372036854775808;(.intro (Aa c 3) fun o1=> .seg [.call [0] (.v (vI o1.x)) (Kc o1.c1)] (.br (.seg [.ty .int,.pubS 8] (.intro (B4 o1.c1 [0,1,(-1),9,10,127,128,999999999,1000000000,9223372036854775807,z1]) fun o2=> .seg [.call [0] (.v (vI o2.x)) (Kc o2.c1)] (.leaf (⟨o2.x,o2.c1⟩:Jd) [0]))) (.br (.intro (Aa o1.c1 1000000) fun o2=> .seg [.call [0] (.v (vI o2.x)) (Kc o2.c1),.as 14 (.v (vI (o2.x-500000)))] (.leaf (⟨o2.x-500000,o2.c1⟩:Jd) [0])) (.intro (Aa o1.c1 20) fun o2=> .seg [.call [0] (.v (vI o2.x)) (Kc o2.c1)] (.leaf (⟨o2.x,o2.c1⟩:Jd) [0])))),In (Aa c 3) fun o1=>((Ae c 3 o1)∧Bc (decide (o1.x=0)) (In (B4 o1.c1 [0,1,(-1),9,10,127,128,999999999,1000000000,9223372036854775807,z1]) fun o2=>((Da o1.c1 [0,1,(-1),9,10,127,128,999999999,1000000000,9223372036854775807,z1] o2)∧((An o2.c1))∧Lf (.v (vI o2.x)) (.v (vI o2.x)) (Kc o2.c1) (Kc o2.c1))) (Bc (decide (o1.x=1)) (In (Aa o1.c1 1000000) fun o2=>((Ae o1.c1 1000000 o2)∧(wI (o2.x-500000))∧((An o2.c1))∧Lf (.v (vI (o2.x-500000))) (.v (vI (o2.x-500000))) (Kc o2.c1) (Kc o2.c1))) (In (Aa o1.c1 20) fun o2=>((Ae o1.c1 20 o2)∧((An o2.c1))∧Lf (.v (vI o2.x)) (.v (vI o2.x)) (Kc o2.c1) (Kc o2.c1))))))) Q8 ?_
 refine⟨(Ak c 3 Q0),fun o1 ho_o1=>?_⟩
 obtain ⟨⟨hp_o1_0,hp_o1_1,hp_o1_2,hp_o1_3⟩,hf_o1⟩:=ho_o1
 refine⟨hf_o1,dsp (fun h1 p1=>?_) fun h1 p1=>?_⟩
 refine⟨(Eb o1.c1 [0,1,(-1),9,10,127,128,999999999,1000000000,9223372036854775807,(-9223372036854775808)] Q0 Q9 Q9),fun o2 ho_o2=>?_⟩
 obtain ⟨⟨hp_o2_0,hp_o2_1⟩,hf_o2⟩:=ho_o2
 exact⟨hf_o2,Q0,rfl,rfl⟩
 refine dsp (fun h2 p2=>?_) fun h2 p2=>?_
 refine⟨(Ak o1.c1 1000000 Q0),fun o2 ho_o2=>?_⟩
 obtain ⟨⟨hp_o2_0,hp_o2_1,hp_o2_2,hp_o2_3⟩,hf_o2⟩:=ho_o2
 exact⟨hf_o2,(Ac Q5 Q5),Q0,rfl,rfl⟩
 refine⟨(Ak o1.c1 20 Q0),fun o2 ho_o2=>?_⟩
 obtain ⟨⟨hp_o2_0,hp_o2_1,hp_o2_2,hp_o2_3⟩,hf_o2⟩:=ho_o2
 exact⟨hf_o2,Q0,rfl,rfl⟩
structure Rm where
 c1:Cur
def Uo (b:List Int) (o:Rm):Prop:=Fun Tryz.prog 61 [.c (.seq .u8 b)] [] (.v (vP 0)) [.cells (By o.c1)]
def Lu (b:List Int) (o:Rm):Prop:=((An o.c1))∧Uo b o
structure Sa where
 h:Int
 i:Nat
def Sb (b:List Int):Fam:=⟨Sa,fun q1=>[(0,.v (.c (.seq .u8 b))),(3,.v (vI q1.h)),(4,.v (vI ((q1.i:Nat):Int)))],fun _=>[],fun q1=>q1.i≤List.length b∧(0:Int)≤q1.h∧q1.h≤1073741823,fun q1=>List.length b-q1.i⟩
theorem Ae1 (b:List Int) (hp1:List.length b≤1048576): ∃o:Rm,Lu b o:=by
 have hN:Ba=274877906944:=rfl
 refine Bz Tryz.func61 Q8 Q8 (w:=let z5:=((List.length b:Nat):Int);let z6:=Sb b;(.seg [.as 7 (.v (vI (28433+z5))),.at 0,.keep [0,3,4],.sel []] (.loop z6 fun q1=> .br (.br (.seg [.as 19 (.v (vI (q1.h*131)))] (.intro (Sx (b[q1.i]?)) fun x1=> .seg [.el .u8 x1,.as 27 (.v (vI ((IntKind.i64.wrap ((IntKind.i64.wrap ((q1.h*131)+(IntKind.i64.wrap (x1))))+7)) % 1073741824))),.as 17 (.v (vI (((q1.i:Nat):Int)+1))),.at 0,.keep [0,3,4],.sel []] (.next))) (.leaf (⟨(⟨b,0,q1.h⟩:Cur)⟩:Rm) [0])) (.leaf (⟨(⟨b,0,q1.h⟩:Cur)⟩:Rm) [0])),(wI (28433+z5))∧z6.Has [(0,.v (.c (.seq .u8 b))),(3,.v (vI (28433+z5))),(4,.v (vI 0))] []∧∀q1,z6.inv q1→(let z3:=((q1.i:Nat):Int);let z4:List Blk:=[.cells [.seq .u8 b,.int .i64 0,.int .i64 q1.h]];let z2:=((An (⟨b,0,q1.h⟩:Cur)))∧Lf (.v (vP 0)) (.v (vP 0)) z4 z4;Bc (decide (z3<z5)) (Bc (decide (z3<4000)) ((wI (q1.h*131))∧El (b[q1.i]?) fun x1=>(let z1:=IntKind.i64.wrap ((IntKind.i64.wrap ((q1.h*131)+(IntKind.i64.wrap (x1))))+7);(b[q1.i]? =some x1)∧((0:Int)≤z3)∧((.v (vI (IntKind.i64.wrap (((BitVec.ofInt 64 z1&&&BitVec.ofInt 64 1073741823).toNat:Nat)))):S)= .v (vI (z1 % 1073741824)))∧(wI (z3+1))∧z6.Nxt q1 [(0,.v (.c (.seq .u8 b))),(3,.v (vI (z1 % 1073741824))),(4,.v (vI (z3+1)))] [])) z2) z2))) Q8 ?_
 refine⟨(Ac Q5 Q5),Bv (j:=(⟨28433+((List.length b:Nat):Int),0⟩:Sa)) Q12 rfl (by dsimp only[Sb];exact⟨by omega,by omega,by omega⟩),fun (q1:Sa) hq_q1=>?_⟩
 have hi_q1:q1.i≤List.length b∧(0:Int)≤q1.h∧q1.h≤1073741823:=hq_q1
 obtain ⟨v1,v2,v3⟩:=hi_q1
 refine dsp (fun h1 p1=>?_) fun h1 p1=>?_
 refine dsp (fun h2 p2=>?_) fun h2 p2=>?_
 refine⟨(Ac Q5 Q5),(A8 (l:=b) (i:=q1.i) Q5),fun x1 hx1=>?_⟩
 exact⟨hx1,Q5,(Lj (k:=30) Q26 Q26),(Ac Q5 Q5),Ay (j:=(⟨(IntKind.i64.wrap ((IntKind.i64.wrap ((q1.h*131)+(IntKind.i64.wrap (x1))))+7)) % 1073741824,q1.i+1⟩:Sa)) Q12 rfl (by dsimp only[Sb];exact⟨by omega,by omega,by omega⟩) (by dsimp only[Sb];omega)⟩
 exact⟨(⟨by dsimp only;omega,hp1⟩),rfl,rfl⟩
 exact⟨(⟨by dsimp only;omega,hp1⟩),rfl,rfl⟩
structure Pf where
 l:List Int
 c1:Cur
def B6 (c:Cur) (n:Int) (o:Pf):Prop:=Fun Tryz.prog 65 [vP 0,vI n] [.cells (By c)] (.v (vO 1)) [.cells (By o.c1),.lst .u8 o.l]
def A4 (c:Cur) (n:Int) (o:Pf):Prop:=((List.length o.l≤Int.toNat n)∧(An o.c1))∧B6 c n o
structure Mp where
 c:Cur
 b:List Int
 i:Nat
def Mq (n:Int):Fam:=⟨Mp,fun q1=>[(0,.v (vP 0)),(1,.v (vI n)),(5,.v (vO 1)),(6,.v (vI ((q1.i:Nat):Int)))],fun q1=>[.cells (By q1.c),.lst .u8 q1.b],fun q1=>An q1.c∧List.length q1.b=q1.i∧(q1.i=0∨((q1.i:Nat):Int)≤n),fun q1=>Int.toNat n-q1.i⟩
theorem Cv (c:Cur) (n:Int) (hp1:An c) (hp2:n≤100000): ∃o:Pf,A4 c n o:=by
 have hN:Ba=274877906944:=rfl
 refine Bz Tryz.func65 Q8 Q8 (w:=let z2:=Mq n;(.seg [.ty .u8,.at 0,.keep [0,1,5,6],.sel [0,1]] (.loop z2 fun q1=> .br (.intro (Es q1.c) fun o1=> .seg [.call [0] (.v (vI o1.x)) (Kc o1.c1),.as 16 (.v (.c (.int .u8 o1.x))),.ty .u8,.ty .u8,.as 12 (.v (vI (((q1.i:Nat):Int)+1))),.at 0,.keep [0,1,5,6],.sel [0,3]] (.next)) (.leaf (⟨q1.b,q1.c⟩:Pf) [0,1])),z2.Has [(0,.v (vP 0)),(1,.v (vI n)),(5,.v (vO 1)),(6,.v (vI 0))] [.cells (By c),.lst .u8 ([]:List Int)]∧∀q1,z2.inv q1→(let z1:=((q1.i:Nat):Int);Bc (decide (z1<n)) (In (Es q1.c) fun o1=>((Hd q1.c o1)∧((.v (.c (.int .u8 (IntKind.u8.wrap (o1.x)))):S)= .v (.c (.int .u8 o1.x)))∧(List.length q1.b+List.length [o1.x]≤Ba)∧(wI (z1+1))∧z2.Nxt q1 [(0,.v (vP 0)),(1,.v (vI n)),(5,.v (vO 1)),(6,.v (vI (z1+1)))] [.cells (By o1.c1),.lst .u8 (q1.b++[o1.x])])) (((List.length q1.b≤Int.toNat n)∧(An q1.c))∧Lf (.v (vO 1)) (.v (vO 1)) [.cells (By q1.c),.lst .u8 q1.b] [.cells (By q1.c),.lst .u8 q1.b])))) Q8 ?_
 refine⟨Bv (j:=(⟨c,([]:List Int),0⟩:Mp)) Q12 rfl (by dsimp only[Mq];exact⟨hp1,rfl,.inl rfl⟩),fun (q1:Mp) hq_q1=>?_⟩
 have hi_q1:An q1.c∧List.length q1.b=q1.i∧(q1.i=0∨((q1.i:Nat):Int)≤n):=hq_q1
 obtain ⟨v1,v2,v3⟩:=hi_q1
 refine dsp (fun h1 p1=>?_) fun h1 p1=>?_
 refine⟨(Pe q1.c Q0),fun o1 ho_o1=>?_⟩
 obtain ⟨⟨hp_o1_0,hp_o1_1⟩,hf_o1⟩:=ho_o1
 exact⟨hf_o1,(M7 Q5 Q5),Q9,(Ac Q5 Q5),Ay (j:=(⟨o1.c1,q1.b++[o1.x],q1.i+1⟩:Mp)) Q12 rfl (by dsimp only[Mq];exact⟨by assumption,by simp;omega,by omega⟩) (by dsimp only[Mq];omega)⟩
 exact⟨⟨Q5,Q0⟩,rfl,rfl⟩
end Go.Proofs.YtijacopaadmncaaGreat.Ax
