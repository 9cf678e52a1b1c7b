/- The grammar: numbers, Va, texts. The grammar: texts. The grammar: values with a length. The grammar: messages. Models: G4 inputs. Whole inputs: what is said of them. Draws of numbers, bytes, scripts. Drawn descriptions: checks. -/
import Derived.Test.YtijacopaadmncaaGreatKFnStepWhole4
import Derived.Test.YtijacopaadmncaaGreatKFnStepWhole2
import Derived.Test.YtijacopaadmncaaGreatKFnStepWhole1
set_option linter.unusedSimpArgs false
set_option linter.unusedVariables false
namespace Go.Proofs.YtijacopaadmncaaGreat.Ax
open Go.RowKit
theorem S5 (r:Mr) (end_:Int) (hp1:List.length (r).s≤Bk):Fun Tryz.prog 127 [vP 0,vI end_] [.cells (Eh 1 r),.lst .ev r.out] (.v (.c (.int .u64 (A5 r end_)))) [.cells (Eh 1 (Az r end_)),.lst .ev (Az r end_).out]:=by
 have hN:Bk=274877906944:=rfl
 refine Ar Tryz.func127 Q4 Q4 (w:=let zi:Int→C:= .int .i64;let z1:=Ae r.s r.at_ end_;let z2:=Bj z1.2.2 z1.2.1;let z3:List Blk:=[.cells (Eh 1 (Az r end_)),.lst .ev (Az r end_).out];let z4:S:= .tup [.c (.int .u64 z1.1),vI z1.2.1,vI z1.2.2];let z5:S:= .v (.c (.int .u64 (A5 r end_)));(.seg [.ord (os 17 [9]) [],.call [] z4 []] (.br (.seg [.call [] (.v (.agg (cEv z2))) []] (.leaf () [0,1])) (.leaf () [0,1])),(Fp 112 [vT r.s,vI r.at_,vI end_] [] z4 [])∧Bc (!decide (z1.2.2=0)) ((Fp 113 [vI z1.2.2,vI z1.2.1] [] (.v (.agg (cEv z2))) [])∧Lf (.v (.c (.int .u64 0))) z5 [.cells [.seq .shp r.plan.shapes,zi r.plan.root,zi r.plan.deep,zi r.plan.most,.str r.s,zi r.at_,.own 1,zi z2.kind,zi z2.field,.int .u64 z2.bits,zi z2.len,.str z2.text,zi z2.code,zi z2.at_],.lst .ev r.out] z3) (Lf (.v (.c (.int .u64 z1.1))) z5 [.cells [.seq .shp r.plan.shapes,zi r.plan.root,zi r.plan.deep,zi r.plan.most,.str r.s,zi z1.2.1,.own 1,zi r.fail.kind,zi r.fail.field,.int .u64 r.fail.bits,zi r.fail.len,.str r.fail.text,zi r.fail.code,zi r.fail.at_],.lst .ev r.out] z3))) Q4 ?_
 refine⟨(Vj _ _ _ Q2),fun h1=>have q1:=Aq h1;have p1:=of_decide_eq_false q1;?_,fun h1=>have q1:=Ap h1;have p1:=of_decide_eq_true q1;?_⟩
 refine zE (Az r end_) (⟨r.plan,r.s,r.at_,r.out,(Bj (Ae r.s r.at_ end_).2.2 (Ae r.s r.at_ end_).2.1)⟩:Mr) (fun hm1=>⟨(C6 _ _),(congrArg S.v (congrArg V.c (congrArg (C.int .u64) ?_))),Q7⟩) ?_
 rotate_left 2
 refine zE (Az r end_) (⟨r.plan,r.s,(Ae r.s r.at_ end_).2.1,r.out,r.fail⟩:Mr) (fun hm1=>⟨(congrArg S.v (congrArg V.c (congrArg (C.int .u64) ?_))),Q7⟩) ?_
 rotate_left 2
 all_goals first|(simp_all[Az,Bs,A5,Cw,F1];done)|(grind[Az,Bs,A5,Cw,F1])
theorem Anq (r:Mr) (w:Int) (end_:Int) (hp1:List.length (r).s≤Bk) (hp2:(0:Int)≤(r).at_∧(r).at_≤((List.length (r).s:Nat):Int)) (hp3:(0:Int)≤w∧w≤8) (hp4: -1000000000≤end_∧end_≤9223372036854775807):Fun Tryz.prog 194 [vP 0,vI w,vI end_] [.cells (Eh 1 r),.lst .ev r.out] (.v (.c (.int .u64 (K6 r w end_)))) [.cells (Eh 1 (G1 r w end_)),.lst .ev (G1 r w end_).out]:=by
 have hN:Bk=274877906944:=rfl
 refine Ar Tryz.func194 Q4 Q4 (w:=let zi:Int→C:= .int .i64;let z1:=Bj 10 (r.s.length:Int);let z2:List Blk:=[.cells (Eh 1 (G1 r w end_)),.lst .ev (G1 r w end_).out];let z3:=Bj 9 r.at_;let z4:S:= .v (.c (.int .u64 (K6 r w end_)));let z5:S:= .tup [.c (.int .u64 (Lm r.s r.at_ w)),vB (Dw r.s r.at_ w)];(.seg [.as 14 (.v (vI (end_-r.at_)))] (.br (.seg [.call [] (.v (.agg (cEv z3))) []] (.leaf () [0,1])) (.seg [.ord (os 15 [9]) [],.call [] z5 []] (.br (.seg [.call [] (.v (.agg (cEv z1))) []] (.leaf () [0,1])) (.seg [.as 55 (.v (vI (r.at_+w)))] (.leaf () [0,1]))))),(wI (end_-r.at_))∧Bc (decide (end_-r.at_<w)) ((Fp 113 [vI 9,vI r.at_] [] (.v (.agg (cEv z3))) [])∧Lf (.v (.c (.int .u64 0))) z4 [.cells [.seq .shp r.plan.shapes,zi r.plan.root,zi r.plan.deep,zi r.plan.most,.str r.s,zi r.at_,.own 1,zi z3.kind,zi z3.field,.int .u64 z3.bits,zi z3.len,.str z3.text,zi z3.code,zi z3.at_],.lst .ev r.out] z2) ((Fp 242 [vT r.s,vI r.at_,vI w] [] z5 [])∧Bc (!(Dw r.s r.at_ w)) ((Fp 113 [vI 10,vI (r.s.length:Int)] [] (.v (.agg (cEv z1))) [])∧Lf (.v (.c (.int .u64 0))) z4 [.cells [.seq .shp r.plan.shapes,zi r.plan.root,zi r.plan.deep,zi r.plan.most,.str r.s,zi r.at_,.own 1,zi z1.kind,zi z1.field,.int .u64 z1.bits,zi z1.len,.str z1.text,zi z1.code,zi z1.at_],.lst .ev r.out] z2) ((wI (r.at_+w))∧Lf (.v (.c (.int .u64 (Lm r.s r.at_ w)))) z4 [.cells [.seq .shp r.plan.shapes,zi r.plan.root,zi r.plan.deep,zi r.plan.most,.str r.s,zi (r.at_+w),.own 1,zi r.fail.kind,zi r.fail.field,.int .u64 r.fail.bits,zi r.fail.len,.str r.fail.text,zi r.fail.code,zi r.fail.at_],.lst .ev r.out] z2)))) Q4 ?_
 refine⟨(Af Q2 Q2),dsp (fun h1 p1=>?_) fun h1 p1=>?_⟩
 refine zE (G1 r w end_) (⟨r.plan,r.s,r.at_,r.out,(Bj 9 r.at_)⟩:Mr) (fun hm1=>⟨(C6 _ _),(congrArg S.v (congrArg V.c (congrArg (C.int .u64) ?_))),Q7⟩) ?_
 rotate_left 2
 refine⟨(Aja _ _ _ Q2),fun h2=>have q2:=Aq h2;?_,fun h2=>have q2:=Ap h2;?_⟩
 refine zE (G1 r w end_) (⟨r.plan,r.s,r.at_,r.out,(Bj 10 (r.s.length:Int))⟩:Mr) (fun hm1=>⟨(C6 _ _),(congrArg S.v (congrArg V.c (congrArg (C.int .u64) ?_))),Q7⟩) ?_
 rotate_left 2
 have hfx:=Lw q2
 refine zE (G1 r w end_) (⟨r.plan,r.s,r.at_+w,r.out,r.fail⟩:Mr) (fun hm1=>⟨(Af Q2 Q2),(congrArg S.v (congrArg V.c (congrArg (C.int .u64) ?_))),Q7⟩) ?_
 rotate_left 2
 all_goals first|(simp_all[G1,Hp,K6,Cw,F1];done)|(grind[G1,Hp,K6,Cw,F1])
theorem Np (r:Mr) (e:Ev) (hp1:List.length (r).out≤100000000):Fun Tryz.prog 192 [vP 0,.agg (cEv e)] [.cells (Eh 1 r),.lst .ev r.out] (.tup []) [.cells (Eh 2 (Ag r e)),.dead,.lst .ev (Ag r e).out]:=by
 have hN:Bk=274877906944:=rfl
 refine Ar Tryz.func192 Q4 Q4 (w:=(.seg [.ord (os 11 [6,7,10]) [1],.ty .ev,.ty .ev] (.leaf () [0,1,4]),(r.out.length+List.length [e]≤Bk)∧Lf (.tup []) (.tup []) [.cells (Eh 2 r),.dead,.lst .ev (r.out++[e])] [.cells (Eh 2 (Ag r e)),.dead,.lst .ev (Ag r e).out])) Q4 ?_
 refine⟨Q5,?_⟩
 have hm1:Ag r e=(⟨r.plan,r.s,r.at_,r.out++[e],r.fail⟩:Mr):=by rfl
 exact⟨rfl,Q7⟩
theorem Anr (r:Mr) (f:Fld) (w:Int) (end_:Int) (hp1:List.length (r).s≤1048576) (hp2:(r).at_≤((List.length (r).s:Nat):Int)) (hp3:(r).fail.kind=0) (hp4:((List.length (r).out:Nat):Int)+4*(((List.length (r).s:Nat):Int)-(r).at_)≤100000000) (hp5: -1000000000≤end_∧end_≤9223372036854775807) (hp6:(0:Int)≤(r).at_) (hp7:(w=0∨w=1∨w=5)):Fun Tryz.prog 133 [vP 0,.agg (Fw f),vI w,vI end_] [.cells (Eh 1 r),.lst .ev r.out] (.tup []) [.cells (Eh 2 (Bn r f w end_)),.dead,.lst .ev (Bn r f w end_).out]:=by
 have hN:Bk=274877906944:=rfl
 have hwb:=Df w
 have hu1:=My r end_
 have hu2:=Ajx r (Ak w) end_
 have hl1:=congrArg List.length (E3 (e:=end_) hp2).2.2
 have hl2:=congrArg List.length (Z9 (w:=Ak w) (e:=end_) hp2).2
 refine Ar Tryz.func133 Q4 Q4 (w:=let z1:List Blk:=[.cells (Eh 2 (Bn r f w end_)),.dead,.lst .ev (Bn r f w end_).out];let z5:=Az r end_;let z9:=Lf (.tup []) (.tup []) [.cells (Eh 2 z5),.dead,.lst .ev z5.out] z1;let z11:List Blk:=[.cells (Eh 1 z5),.lst .ev z5.out];let z13:=A5 r end_;let z7:=Ew f z13;let z4:List Blk:=[.cells (Eh 2 (Ag z5 z7)),.dead,.lst .ev (Ag z5 z7).out];let z14:=Ak w;let z2:=G1 r z14 end_;let z8:=K6 r z14 end_;let z3:=Ew f z8;let z6:List Blk:=[.cells (Eh 2 (Ag z2 z3)),.dead,.lst .ev (Ag z2 z3).out];let z10:=Lf (.tup []) (.tup []) [.cells (Eh 2 z2),.dead,.lst .ev z2.out] z1;let z12:List Blk:=[.cells (Eh 1 z2),.lst .ev z2.out];(.br (.seg [.call [0,1] (.v (.c (.int .u64 z13))) z11] (.br (.br (.seg [.call [] (.v (.agg (cEv z7))) [],.call [0,1] (.tup []) z4] (.leaf () [0,1,3])) (.seg [.at 0,.cut 0 6] (.leaf () [0,1,3]))) (.seg [.at 0,.cut 0 6] (.leaf () [0,1,3])))) (.seg [.call [] (.v (vI z14)) [],.call [0,1] (.v (.c (.int .u64 z8))) z12] (.br (.br (.seg [.call [] (.v (.agg (cEv z3))) [],.call [0,1] (.tup []) z6] (.leaf () [0,1,3])) (.seg [.at 0,.cut 0 6] (.leaf () [0,1,3]))) (.seg [.at 0,.cut 0 6] (.leaf () [0,1,3])))),Bc (decide (w=0)) ((Fp 127 [vP 0,vI end_] [.cells (Eh 1 r),.lst .ev r.out] (.v (.c (.int .u64 z13))) z11)∧Bc (decide (z5.fail.kind=0)) (Bc (decide (0<f.number)) ((Fp 195 [.agg (Fw f),.c (.int .u64 z13)] [] (.v (.agg (cEv z7))) [])∧(Fp 192 [vP 0,.agg (cEv z7)] z11 (.tup []) z4)∧Lf (.tup []) (.tup []) z4 z1) z9) z9) ((Fp 177 [vI w] [] (.v (vI z14)) [])∧(Fp 194 [vP 0,vI z14,vI end_] [.cells (Eh 1 r),.lst .ev r.out] (.v (.c (.int .u64 z8))) z12)∧Bc (decide (z2.fail.kind=0)) (Bc (decide (0<f.number)) ((Fp 195 [.agg (Fw f),.c (.int .u64 z8)] [] (.v (.agg (cEv z3))) [])∧(Fp 192 [vP 0,.agg (cEv z3)] z12 (.tup []) z6)∧Lf (.tup []) (.tup []) z6 z1) z10) z10))) Q4 ?_
 refine dsp (fun h1 p1=>?_) fun h1 p1=>?_
 refine⟨(S5 r _ Q2),dsp (fun h2 p2=>?_) fun h2 p2=>?_⟩
 have hvo:=Em (r:=r) (w:=w) (e:=end_) hp3
 have hwv:E1 r w end_=(Az r end_):=by unfold E1;grind[Ak]
 refine dsp (fun h3 p3=>?_) fun h3 p3=>?_
 refine zE (Bn r f w end_) (Ag (Az r end_) (Ew f (A5 r end_))) (fun hm1=>⟨(Xf f _ Q2),(Np (Az r end_) (Ew f (A5 r end_)) Q2),rfl,Q7⟩) ?_
 rotate_left
 refine zE (Bn r f w end_) (Az r end_) (fun hm1=>⟨rfl,Q7⟩) ?_
 rotate_left
 have hvo:=Em (r:=r) (w:=w) (e:=end_) hp3
 have hwv:E1 r w end_=(Az r end_):=by unfold E1;grind[Ak]
 refine zE (Bn r f w end_) (Az r end_) (fun hm1=>⟨rfl,Q7⟩) ?_
 rotate_left
 refine⟨(J4 _),(Anq r _ _ Q2 Q2 Q2 Q2),dsp (fun h2 p2=>?_) fun h2 p2=>?_⟩
 have hvo:=Em (r:=r) (w:=w) (e:=end_) hp3
 have hwv:E1 r w end_=(G1 r (Ak w) end_):=by unfold E1;grind[Ak]
 refine dsp (fun h3 p3=>?_) fun h3 p3=>?_
 refine zE (Bn r f w end_) (Ag (G1 r (Ak w) end_) (Ew f (K6 r (Ak w) end_))) (fun hm1=>⟨(Xf f _ Q2),(Np (G1 r (Ak w) end_) (Ew f (K6 r (Ak w) end_)) Q2),rfl,Q7⟩) ?_
 rotate_left
 refine zE (Bn r f w end_) (G1 r (Ak w) end_) (fun hm1=>⟨rfl,Q7⟩) ?_
 rotate_left
 have hvo:=Em (r:=r) (w:=w) (e:=end_) hp3
 have hwv:E1 r w end_=(G1 r (Ak w) end_):=by unfold E1;grind[Ak]
 refine zE (Bn r f w end_) (G1 r (Ak w) end_) (fun hm1=>⟨rfl,Q7⟩) ?_
 rotate_left
 all_goals first|(simp_all[Bn,E1,E5,Gp,Ag];done)|(grind[Bn,E1,E5,Gp,Ag,Ak])
structure Ap0 where
 r:Mr
theorem Amf (r:Mr) (f:Fld) (n:Int) (hp1:List.length (r).s≤1048576) (hp2:(r).at_≤((List.length (r).s:Nat):Int)) (hp3:(r).fail.kind=0) (hp4:((List.length (r).out:Nat):Int)+4*(((List.length (r).s:Nat):Int)-(r).at_)≤99999996) (hp5:(0:Int)≤(r).at_) (hp6:(0:Int)≤n∧(r).at_+n≤9223372036854775807):Fun Tryz.prog 193 [vP 0,.agg (Fw f),vI n] [.cells (Eh 1 r),.lst .ev r.out] (.tup []) [.cells (Eh 2 (Ci r f n)),.dead,.lst .ev (Ci r f n).out]:=by
 have hN:Bk=274877906944:=rfl
 have htl:=Pb hp6.1 hp5 hp2
 have hub:=Ajz utf0 (Ay r n)
 have hu0:utf0.want=0∧utf0.low=0∧utf0.high=0:=⟨rfl,rfl,rfl⟩
 have huw:=Jq (Aci (u:=utf0) (s:=Ay r n) (by decide))
 have huz:(Sr utf0 (Ay r n)).want=0→(Sr utf0 (Ay r n)).low=0∧(Sr utf0 (Ay r n)).high=0:=fun h0=>by rw[Sq (Aci (u:=utf0) (s:=Ay r n) (by decide)) h0];exact⟨rfl,rfl⟩
 refine Ar Tryz.func193 Q4 Q4 (w:=let zi:Int→C:= .int .i64;let z6:List C:=[zi 5,zi 0,.int .u64 0,zi 0,.str [],zi 0,zi 0];let z8:=Ag r (A4 f n);let z9:=Ag z8 (⟨4,0,0,0,Ay r n,0,0⟩:Ev);let z13:List Blk:=[.cells (Eh 2 (Ci r f n)),.dead,.lst .ev (Ci r f n).out];let z15:=(z8.s.length:Int);let z17:=z8.at_+n;let z4:List C:=[.seq .shp z8.plan.shapes,zi z8.plan.root,zi z8.plan.deep,zi z8.plan.most,.str z8.s,zi z17,.own 1,zi z8.fail.kind,zi z8.fail.field,.int .u64 z8.fail.bits,zi z8.fail.len,.str z8.fail.text,zi z8.fail.code,zi z8.fail.at_];let z19:=Ay r n;let z7:List C:=[zi 4,zi 0,.int .u64 0,zi 0,.str z19,zi 0,zi 0];let z21:=decide ((z19.length:Int)<n);let z22:=Bj 10 z15;let z3:List C:=[.seq .shp z8.plan.shapes,zi z8.plan.root,zi z8.plan.deep,zi z8.plan.most,.str z8.s,zi z8.at_,.own 2,zi z22.kind,zi z22.field,.int .u64 z22.bits,zi z22.len,.str z22.text,zi z22.code,zi z22.at_];let z23:List Blk:=[.cells (Eh 2 z9),.dead,.lst .ev z9.out];let z24:=utf0;let z14:=Fg z24 z19;let z25:=Bj 5 z17;let z26:=Ag (⟨z9.plan,z9.s,z9.at_+n,z9.out,z9.fail⟩:Mr) J8;let z11:List Blk:=[.cells (Eh 2 z26),.dead,.lst .ev z26.out];let z27:=Ag (⟨z8.plan,z8.s,z8.at_+n,z8.out,z8.fail⟩:Mr) J8;let z12:List Blk:=[.cells (Eh 2 z27),.dead,.lst .ev z27.out];let z29:=z9.at_+n;let z2:List C:=[.seq .shp z9.plan.shapes,zi z9.plan.root,zi z9.plan.deep,zi z9.plan.most,.str z9.s,zi z29,.own 1,zi z9.fail.kind,zi z9.fail.field,.int .u64 z9.fail.bits,zi z9.fail.len,.str z9.fail.text,zi z9.fail.code,zi z9.fail.at_];let z20:=Bj 5 z29;let z30:=(z9.s.length:Int);let z16:=Bj 10 z30;let z1:List C:=[.seq .shp z9.plan.shapes,zi z9.plan.root,zi z9.plan.deep,zi z9.plan.most,.str z9.s,zi z9.at_,.own 2,zi z16.kind,zi z16.field,.int .u64 z16.bits,zi z16.len,.str z16.text,zi z16.code,zi z16.at_];let z31:S:= .v (.agg (cEv z16));let z32:S:= .v (.agg (cEv z22));let z33:S:= .tup [.agg (N9 (Sr z24 z19)),vI z14];let z34:=(!decide (z9.fail.kind=0))=false;let z35:=(!decide (z8.fail.kind=0))=false;let z36:List Blk:=[.cells (Eh 2 z8),.dead,.lst .ev z8.out];let z37:=z8.at_+z14;let z18:=Bj 5 z37;let z5:List C:=[zi z18.kind,zi z18.field,.int .u64 z18.bits,zi z18.len,.str z18.text,zi z18.code,zi z18.at_];let z10:=Ag (⟨z8.plan,z8.s,z8.at_,z8.out,z18⟩:Mr) (⟨4,0,0,0,List.take (z14.toNat) z19,0,0⟩:Ev);let z28:List Blk:=[.cells (Eh 2 z10),.dead,.lst .ev z10.out];let z38:=decide (0<(Sr z24 z19).want);let z39:List V:=[vP 0,.agg z6];let z40:S:= .v (vI z17);(.seg [.call [0,1] (.tup []) z36,.ord (os 22 [19]) [],.as 34 z40,.call [] (.v (vI (min z15 z17))) [],.as 36 (.v (vT z19))] (.br (.seg [.call [] z33 []] (.br (.seg [.as 56 (.v (vI z37)),.call [] (.v (.agg (cEv z18))) []] (.br (.seg [.call [0,3] (.tup []) z28,.br true] (.leaf () [0,1,6])) (.seg [.br true] (.leaf () [0,1,3])))) (.br (.seg [.call [0,3] (.tup []) z23,.br false] (.br (.seg [.call [] z31 []] (.leaf () [0,1,6])) (.br (.seg [.as 112 (.v (vI z29)),.call [] (.v (.agg (cEv z20))) []] (.leaf () [0,1,6])) (.seg [.as 75 (.v (vI z29)),.call [0,6] (.tup []) z11] (.leaf () [0,1,7]))))) (.seg [.br false] (.br (.seg [.call [] z32 []] (.leaf () [0,1,3])) (.br (.seg [.as 112 z40,.call [] (.v (.agg (cEv z25))) []] (.leaf () [0,1,3])) (.seg [.as 75 z40,.call [0,3] (.tup []) z12] (.leaf () [0,1,6])))))))) (.br (.seg [.call [0,3] (.tup []) z23,.br false] (.br (.seg [.call [] z31 []] (.leaf () [0,1,5])) (.seg [.br false,.as 75 (.v (vI z29)),.call [0,5] (.tup []) z11] (.leaf () [0,1,6])))) (.seg [.br false] (.br (.seg [.call [] z32 []] (.leaf () [0,1,3])) (.seg [.br false,.as 75 z40,.call [0,3] (.tup []) z12] (.leaf () [0,1,5])))))),(Fp 192 [vP 0,.agg [zi 3,zi f.number,.int .u64 0,zi n,.str [],zi 0,zi 0]] [.cells (Eh 1 r),.lst .ev r.out] (.tup []) z36)∧(wI z17)∧(wI z17)∧(Fp 74 [vI z15,vI z17] [] (.v (vI (min z15 z17))) [])∧(min z15 z17≤z15)∧(z8.at_≤min z15 z17)∧((0:Int)≤z8.at_)∧((.v (vT (List.drop (z8.at_.toNat) (List.take (Int.toNat (min z15 z17)) z8.s))):S)= .v (vT z19))∧Bc (decide (f.kind=6)) ((Fp 228 [.agg [zi 0,zi 0,zi 0],vT z19] [] z33 [])∧Bc (decide (0≤Fg z24 z19)) ((wI z37)∧(Fp 113 [vI 5,vI z37] [] (.v (.agg (cEv z18))) [])∧(Fg z24 z19≤(z19.length:Int))∧((0:Int)≤Fg z24 z19)∧Bc (!decide (List.take (z14.toNat) z19=[])) ((Fp 192 [vP 0,.agg [zi 4,zi 0,.int .u64 0,zi 0,.str (List.take (z14.toNat) z19),zi 0,zi 0]] [.cells (.seq .shp z8.plan.shapes::zi z8.plan.root::zi z8.plan.deep::zi z8.plan.most:: .str z8.s::zi z8.at_:: .own 1::z5),.lst .ev z8.out] (.tup []) z28)∧((!decide (z10.fail.kind=0))=true)∧Lf (.tup []) (.tup []) z28 z13) (((!decide (z18.kind=0))=true)∧Lf (.tup []) (.tup []) [.cells (.seq .shp z8.plan.shapes::zi z8.plan.root::zi z8.plan.deep::zi z8.plan.most:: .str z8.s::zi z8.at_:: .own 2::z5),.dead,.lst .ev z8.out] z13)) (Bc (!decide (Ay r n=[])) ((Fp 192 [vP 0,.agg z7] [.cells (Eh 1 z8),.lst .ev z8.out] (.tup []) z23)∧z34∧Bc z21 ((Fp 113 [vI 10,vI z30] [] z31 [])∧Lf (.tup []) (.tup []) [.cells z1,.dead,.lst .ev z9.out] z13) (Bc z38 ((wI z29)∧(Fp 113 [vI 5,vI z29] [] (.v (.agg (cEv z20))) [])∧Lf (.tup []) (.tup []) [.cells [.seq .shp z9.plan.shapes,zi z9.plan.root,zi z9.plan.deep,zi z9.plan.most,.str z9.s,zi z9.at_,.own 2,zi z20.kind,zi z20.field,.int .u64 z20.bits,zi z20.len,.str z20.text,zi z20.code,zi z20.at_],.dead,.lst .ev z9.out] z13) ((wI z29)∧(Fp 192 z39 [.cells z2,.lst .ev z9.out] (.tup []) z11)∧Lf (.tup []) (.tup []) z11 z13))) (z35∧Bc z21 ((Fp 113 [vI 10,vI z15] [] z32 [])∧Lf (.tup []) (.tup []) [.cells z3,.dead,.lst .ev z8.out] z13) (Bc z38 ((wI z17)∧(Fp 113 [vI 5,vI z17] [] (.v (.agg (cEv z25))) [])∧Lf (.tup []) (.tup []) [.cells [.seq .shp z8.plan.shapes,zi z8.plan.root,zi z8.plan.deep,zi z8.plan.most,.str z8.s,zi z8.at_,.own 2,zi z25.kind,zi z25.field,.int .u64 z25.bits,zi z25.len,.str z25.text,zi z25.code,zi z25.at_],.dead,.lst .ev z8.out] z13) ((wI z17)∧(Fp 192 z39 [.cells z4,.lst .ev z8.out] (.tup []) z12)∧Lf (.tup []) (.tup []) z12 z13))))) (Bc (!decide (Ay r n=[])) ((Fp 192 [vP 0,.agg z7] [.cells (Eh 1 z8),.lst .ev z8.out] (.tup []) z23)∧z34∧Bc z21 ((Fp 113 [vI 10,vI z30] [] z31 [])∧Lf (.tup []) (.tup []) [.cells z1,.dead,.lst .ev z9.out] z13) (((decide (0<0))=false)∧(wI z29)∧(Fp 192 z39 [.cells z2,.lst .ev z9.out] (.tup []) z11)∧Lf (.tup []) (.tup []) z11 z13)) (z35∧Bc z21 ((Fp 113 [vI 10,vI z15] [] z32 [])∧Lf (.tup []) (.tup []) [.cells z3,.dead,.lst .ev z8.out] z13) (((decide (0<0))=false)∧(wI z17)∧(Fp 192 z39 [.cells z4,.lst .ev z8.out] (.tup []) z12)∧Lf (.tup []) (.tup []) z12 z13))))) Q4 ?_
 refine⟨(Np r (A4 f n) Q2),(Af Q25 Q25),(Af Q25 Q25),(Ap9 _ _),Q23,Q23,Q25,(Aop (Ahb (s:=r.s) (a:=r.at_) (n:=n) Q2 Q2 Q2 (by first|omega|(simp only[Ag];omega)))),dsp (fun h1 p1=>?_) fun h1 p1=>?_⟩
 refine⟨(Agq utf0 _ Q2),dsp (fun h2 p2=>?_) fun h2 p2=>?_⟩
 refine⟨(Af Q25 Q25),(C6 _ _),Q2,Q2,fun h3=>have q3:=Aq h3;have p3:=of_decide_eq_false q3;?_,fun h3=>have q3:=Ap h3;have p3:=of_decide_eq_true q3;?_⟩
 refine zE (Ci r f n) (Ag (⟨(Ag r (A4 f n)).plan,(Ag r (A4 f n)).s,(Ag r (A4 f n)).at_,(Ag r (A4 f n)).out,(Bj 5 ((Ag r (A4 f n)).at_+(Fg utf0 (Ay r n))))⟩:Mr) (⟨4,0,0,0,List.take (Int.toNat (Fg utf0 (Ay r n))) (Ay r n),0,0⟩:Ev)) (fun hm1=>⟨(Np (⟨(Ag r (A4 f n)).plan,(Ag r (A4 f n)).s,(Ag r (A4 f n)).at_,(Ag r (A4 f n)).out,(Bj 5 ((Ag r (A4 f n)).at_+(Fg utf0 (Ay r n))))⟩:Mr) (⟨4,0,0,0,List.take (Int.toNat (Fg utf0 (Ay r n))) (Ay r n),0,0⟩:Ev) Q23),(Ac5 (decide_eq_false (by simp[Ag,Bj]))),rfl,Q7⟩) ?_
 rotate_left
 refine zE (Ci r f n) (⟨(Ag r (A4 f n)).plan,(Ag r (A4 f n)).s,(Ag r (A4 f n)).at_,(Ag r (A4 f n)).out,(Bj 5 ((Ag r (A4 f n)).at_+(Fg utf0 (Ay r n))))⟩:Mr) (fun hm1=>⟨(Ac5 (decide_eq_false (by simp[Ag,Bj]))),rfl,Q7⟩) ?_
 rotate_left
 refine⟨fun h3=>have q3:=Aq h3;have p3:=of_decide_eq_false q3;?_,fun h3=>have q3:=Ap h3;have p3:=of_decide_eq_true q3;?_⟩
 refine⟨(Np (Ag r (A4 f n)) (⟨4,0,0,0,Ay r n,0,0⟩:Ev) Q23),(Ui (decide_eq_true hp3)),dsp (fun h4 p4=>?_) fun h4 p4=>?_⟩
 refine zE (Ci r f n) (⟨(Ag (Ag r (A4 f n)) (⟨4,0,0,0,Ay r n,0,0⟩:Ev)).plan,(Ag (Ag r (A4 f n)) (⟨4,0,0,0,Ay r n,0,0⟩:Ev)).s,(Ag (Ag r (A4 f n)) (⟨4,0,0,0,Ay r n,0,0⟩:Ev)).at_,(Ag (Ag r (A4 f n)) (⟨4,0,0,0,Ay r n,0,0⟩:Ev)).out,(Bj 10 ((List.length (Ag (Ag r (A4 f n)) (⟨4,0,0,0,Ay r n,0,0⟩:Ev)).s:Nat):Int))⟩:Mr) (fun hm1=>⟨(C6 _ _),rfl,Q7⟩) ?_
 rotate_left
 refine dsp (fun h5 p5=>?_) fun h5 p5=>?_
 refine zE (Ci r f n) (⟨(Ag (Ag r (A4 f n)) (⟨4,0,0,0,Ay r n,0,0⟩:Ev)).plan,(Ag (Ag r (A4 f n)) (⟨4,0,0,0,Ay r n,0,0⟩:Ev)).s,(Ag (Ag r (A4 f n)) (⟨4,0,0,0,Ay r n,0,0⟩:Ev)).at_,(Ag (Ag r (A4 f n)) (⟨4,0,0,0,Ay r n,0,0⟩:Ev)).out,(Bj 5 ((Ag (Ag r (A4 f n)) (⟨4,0,0,0,Ay r n,0,0⟩:Ev)).at_+n))⟩:Mr) (fun hm1=>⟨(Af Q25 Q25),(C6 _ _),rfl,Q7⟩) ?_
 rotate_left
 refine zE (Ci r f n) (Ag (⟨(Ag (Ag r (A4 f n)) (⟨4,0,0,0,Ay r n,0,0⟩:Ev)).plan,(Ag (Ag r (A4 f n)) (⟨4,0,0,0,Ay r n,0,0⟩:Ev)).s,(Ag (Ag r (A4 f n)) (⟨4,0,0,0,Ay r n,0,0⟩:Ev)).at_+n,(Ag (Ag r (A4 f n)) (⟨4,0,0,0,Ay r n,0,0⟩:Ev)).out,(Ag (Ag r (A4 f n)) (⟨4,0,0,0,Ay r n,0,0⟩:Ev)).fail⟩:Mr) J8) (fun hm1=>⟨(Af Q25 Q25),(Np (⟨(Ag (Ag r (A4 f n)) (⟨4,0,0,0,Ay r n,0,0⟩:Ev)).plan,(Ag (Ag r (A4 f n)) (⟨4,0,0,0,Ay r n,0,0⟩:Ev)).s,(Ag (Ag r (A4 f n)) (⟨4,0,0,0,Ay r n,0,0⟩:Ev)).at_+n,(Ag (Ag r (A4 f n)) (⟨4,0,0,0,Ay r n,0,0⟩:Ev)).out,(Ag (Ag r (A4 f n)) (⟨4,0,0,0,Ay r n,0,0⟩:Ev)).fail⟩:Mr) J8 Q23),rfl,Q7⟩) ?_
 rotate_left
 refine⟨(Ui (decide_eq_true hp3)),dsp (fun h4 p4=>?_) fun h4 p4=>?_⟩
 refine zE (Ci r f n) (⟨(Ag r (A4 f n)).plan,(Ag r (A4 f n)).s,(Ag r (A4 f n)).at_,(Ag r (A4 f n)).out,(Bj 10 ((List.length (Ag r (A4 f n)).s:Nat):Int))⟩:Mr) (fun hm1=>⟨(C6 _ _),rfl,Q7⟩) ?_
 rotate_left
 refine dsp (fun h5 p5=>?_) fun h5 p5=>?_
 refine zE (Ci r f n) (⟨(Ag r (A4 f n)).plan,(Ag r (A4 f n)).s,(Ag r (A4 f n)).at_,(Ag r (A4 f n)).out,(Bj 5 ((Ag r (A4 f n)).at_+n))⟩:Mr) (fun hm1=>⟨(Af Q25 Q25),(C6 _ _),rfl,Q7⟩) ?_
 rotate_left
 refine zE (Ci r f n) (Ag (⟨(Ag r (A4 f n)).plan,(Ag r (A4 f n)).s,(Ag r (A4 f n)).at_+n,(Ag r (A4 f n)).out,(Ag r (A4 f n)).fail⟩:Mr) J8) (fun hm1=>⟨(Af Q25 Q25),(Np (⟨(Ag r (A4 f n)).plan,(Ag r (A4 f n)).s,(Ag r (A4 f n)).at_+n,(Ag r (A4 f n)).out,(Ag r (A4 f n)).fail⟩:Mr) J8 Q23),rfl,Q7⟩) ?_
 rotate_left
 refine⟨fun h2=>have q2:=Aq h2;have p2:=of_decide_eq_false q2;?_,fun h2=>have q2:=Ap h2;have p2:=of_decide_eq_true q2;?_⟩
 refine⟨(Np (Ag r (A4 f n)) (⟨4,0,0,0,Ay r n,0,0⟩:Ev) Q23),(Ui (decide_eq_true hp3)),dsp (fun h3 p3=>?_) fun h3 p3=>?_⟩
 refine zE (Ci r f n) (⟨(Ag (Ag r (A4 f n)) (⟨4,0,0,0,Ay r n,0,0⟩:Ev)).plan,(Ag (Ag r (A4 f n)) (⟨4,0,0,0,Ay r n,0,0⟩:Ev)).s,(Ag (Ag r (A4 f n)) (⟨4,0,0,0,Ay r n,0,0⟩:Ev)).at_,(Ag (Ag r (A4 f n)) (⟨4,0,0,0,Ay r n,0,0⟩:Ev)).out,(Bj 10 ((List.length (Ag (Ag r (A4 f n)) (⟨4,0,0,0,Ay r n,0,0⟩:Ev)).s:Nat):Int))⟩:Mr) (fun hm1=>⟨(C6 _ _),rfl,Q7⟩) ?_
 rotate_left
 refine zE (Ci r f n) (Ag (⟨(Ag (Ag r (A4 f n)) (⟨4,0,0,0,Ay r n,0,0⟩:Ev)).plan,(Ag (Ag r (A4 f n)) (⟨4,0,0,0,Ay r n,0,0⟩:Ev)).s,(Ag (Ag r (A4 f n)) (⟨4,0,0,0,Ay r n,0,0⟩:Ev)).at_+n,(Ag (Ag r (A4 f n)) (⟨4,0,0,0,Ay r n,0,0⟩:Ev)).out,(Ag (Ag r (A4 f n)) (⟨4,0,0,0,Ay r n,0,0⟩:Ev)).fail⟩:Mr) J8) (fun hm1=>⟨Q18,(Af Q25 Q25),(Np (⟨(Ag (Ag r (A4 f n)) (⟨4,0,0,0,Ay r n,0,0⟩:Ev)).plan,(Ag (Ag r (A4 f n)) (⟨4,0,0,0,Ay r n,0,0⟩:Ev)).s,(Ag (Ag r (A4 f n)) (⟨4,0,0,0,Ay r n,0,0⟩:Ev)).at_+n,(Ag (Ag r (A4 f n)) (⟨4,0,0,0,Ay r n,0,0⟩:Ev)).out,(Ag (Ag r (A4 f n)) (⟨4,0,0,0,Ay r n,0,0⟩:Ev)).fail⟩:Mr) J8 Q23),rfl,Q7⟩) ?_
 rotate_left
 refine⟨(Ui (decide_eq_true hp3)),dsp (fun h3 p3=>?_) fun h3 p3=>?_⟩
 refine zE (Ci r f n) (⟨(Ag r (A4 f n)).plan,(Ag r (A4 f n)).s,(Ag r (A4 f n)).at_,(Ag r (A4 f n)).out,(Bj 10 ((List.length (Ag r (A4 f n)).s:Nat):Int))⟩:Mr) (fun hm1=>⟨(C6 _ _),rfl,Q7⟩) ?_
 rotate_left
 refine zE (Ci r f n) (Ag (⟨(Ag r (A4 f n)).plan,(Ag r (A4 f n)).s,(Ag r (A4 f n)).at_+n,(Ag r (A4 f n)).out,(Ag r (A4 f n)).fail⟩:Mr) J8) (fun hm1=>⟨Q18,(Af Q25 Q25),(Np (⟨(Ag r (A4 f n)).plan,(Ag r (A4 f n)).s,(Ag r (A4 f n)).at_+n,(Ag r (A4 f n)).out,(Ag r (A4 f n)).fail⟩:Mr) J8 Q23),rfl,Q7⟩) ?_
 rotate_left
 all_goals first|(simp[hm1,Cw,Bj,hp3];done)|(simp_all[Ci,Dj,Je,Lv,Z8,Ag,F1,Cw,A4,Dt,J8];done)|(grind (ematch:=20) (gen:=20) [Ci,Dj,Je,Lv,Z8,Ag,F1,Cw,A4,Dt,J8])
def Ahd (K:Nat):Prop:= ∀(r:Mr) (shape:Int) (end_:Int) (deep:Int) (hp1:List.length (r).s≤1048576) (hp2:(r).at_≤((List.length (r).s:Nat):Int)) (hp3:(r).fail.kind=0) (hp4:((List.length (r).out:Nat):Int)+4*(((List.length (r).s:Nat):Int)-(r).at_)≤100000000) (hp5:(0:Int)≤(r).at_) (hp6: -1000000000≤end_∧end_≤9223372036854775807) (hp7:Br (r).plan=true) (hp8:(1:Int)≤deep∧deep≤(r).plan.deep) (hp9:Int.toNat ((r).plan.deep-deep)<K),Fun Tryz.prog 72 [vP 0,vI shape,vI end_,vI deep] [.cells (Eh 1 r),.lst .ev r.out] (.tup []) [.cells (Eh 2 (Hq (Int.toNat ((r).plan.deep-deep)) shape end_ r)),.dead,.lst .ev (Hq (Int.toNat ((r).plan.deep-deep)) shape end_ r).out]
structure Sa where
 r:Mr
def Sb (r:Mr) (f:Fld) (end_:Int):Fam:=⟨Sa,fun q1=>[(0,.v (vP 0)),(5,.v (vP 3)),(11,.v (vI ((Az r end_).at_+(A5 r end_))))],fun q1=>[.cells (Eh 2 q1.r),.dead,.lst .ev q1.r.out,.cells (Fw f)],fun q1=>LInv (fun x=>Bn x f (Ba f.kind) ((Az r end_).at_+A5 r end_)) ((Az r end_).at_+A5 r end_) (Az r end_) q1.r,fun q1=>Lu q1.r⟩
theorem Amg (K:Nat) (hM:Ahd K) (r:Mr) (f:Fld) (end_:Int) (deep:Int) (hp1:List.length (r).s≤1048576) (hp2:(r).at_≤((List.length (r).s:Nat):Int)) (hp3:(r).fail.kind=0) (hp4:((List.length (r).out:Nat):Int)+4*(((List.length (r).s:Nat):Int)-(r).at_)≤100000000) (hp5:(0:Int)≤(r).at_) (hp6: -1000000000≤end_∧end_≤9223372036854775807) (hp7:Br (r).plan=true) (hp8:(1:Int)≤deep∧deep≤(r).plan.deep) (hp9:(0:Int)≤(f).number) (hp10:(f).number=0∨1≤(f).kind∧(f).kind≤8) (hp11:Int.toNat ((r).plan.deep-deep)≤K):Fun Tryz.prog 132 [vP 0,.agg (Fw f),vI end_,vI deep] [.cells (Eh 1 r),.lst .ev r.out] (.tup []) [.cells (Eh 2 (Bt (Jg (Int.toNat ((r).plan.deep-deep))) r f (decide ((f).number≠0)) end_)),.dead,.lst .ev (Bt (Jg (Int.toNat ((r).plan.deep-deep))) r f (decide ((f).number≠0)) end_).out]:=by
 have hN:Bk=274877906944:=rfl
 have hpt:=B8 hp7
 obtain ⟨hv,hv2,hv3⟩:=E3 (e:=end_) hp2
 have hvk:=D9 (r:=r) (e:=end_) hp3
 have hu:=My r end_
 have hvs:=congrArg List.length hv.1.s
 have hvo:=congrArg List.length hv3
 have hvp:=hv.1.plan
 have hvd:(Az r end_).plan.deep=r.plan.deep:=by rw[hvp]
 have hnm:Cg f.kind=true↔1≤f.kind∧f.kind≤5:=by simp[Cg,Ai]
 refine Ar Tryz.func132 Q4 Q4 (w:=let zi:Int→C:= .int .i64;let z6:=Az r end_;let z7:=Ag z6 (⟨6,f.number,0,A5 r end_,[],0,0⟩:Ev);let z9:=(z6.s.length:Int);let z10:=A5 r end_;let z8:List Blk:=[.cells (Eh 2 (Ci z6 f z10)),.dead,.lst .ev (Ci z6 f z10).out];let z12:List Blk:=[.cells (Eh 1 z6),.lst .ev z6.out];let z13:=Bj 8 r.at_;let z14:=Bj 6 r.at_;let z15:=z6.at_+z10;let z16:=Bj 10 z9;let z17:=Bt (Jg (Int.toNat ((r).plan.deep-deep))) r f (decide ((f).number≠0)) end_;let z5:List Blk:=[.cells (Eh 2 z17),.dead,.lst .ev z17.out];let z19:=Sb r f end_;let z20:=Ba f.kind;let z21:=z7.at_+z10;let z4:=Hq (Int.toNat ((z7).plan.deep-(deep+1))) f.msg z21 z7;let z18:List Blk:=[.cells (Eh 2 z4),.dead,.lst .ev z4.out];let z22:=Ag z4 (⟨7,0,0,0,[],0,0⟩:Ev);let z11:List Blk:=[.cells (Eh 2 z22),.dead,.lst .ev z22.out];let z23:=end_-z6.at_;let z24:List Blk:=[.cells (Eh 2 z7),.dead,.lst .ev z7.out];(.seg [.call [0,1] (.v (.c (.int .u64 z10))) z12] (.br (.seg [.at 0,.cut 0 6] (.leaf () [0,1,3])) (.seg [.as 31 (.v (vI z23)),.as 32 (.v (.c (.int .u64 z23)))] (.br (.seg [.call [] (.v (.agg (cEv z13))) [],.at 0,.cut 0 6] (.leaf () [0,1,3])) (.seg [.as 40 (.v (vI z10))] (.br (.seg [.ord (os 12 []) [],.as 81 (.v (vI (z9-z6.at_)))] (.br (.seg [.call [] (.v (.agg (cEv z16))) [],.at 0,.cut 0 6] (.leaf () [0,1,3])) (.seg [.as 99 (.v (vI z15)),.at 0,.cut 0 6] (.leaf () [0,1,3])))) (.br (.br (.seg [.call [] (.v (.agg (cEv z14))) [],.at 0,.cut 0 6] (.leaf () [0,1,3])) (.seg [.call [0,1] (.tup []) z24,.ord (os 12 [11]) [],.as 132 (.v (vI z21)),.as 134 (.v (vI (deep+1))),.call [0,3] (.tup []) z18] (.br (.seg [.call [0,4] (.tup []) z11] (.leaf () [0,1,5])) (.leaf () [0,1,4])))) (.br (.seg [.call [0,1] (.tup []) z8] (.leaf () [0,1,3])) (.br (.seg [.call [0,1] (.tup []) z8] (.leaf () [0,1,3])) (.seg [.as 46 (.v (vI z15)),.at 0,.cut 0 6,.keep [0,5,11],.sel [0,1,3,2]] (.loop z19 fun q1=>let z1:=Bn q1.r f z20 z15;.br (.br (.seg [.ord [(0,true),(1,true),(2,true),(3,true),(5,true),(4,false),(6,false)] [],.call [] (.v (vI z20)) [],.call [0,2] (.tup []) [.cells (Eh 2 z1),.dead,.lst .ev z1.out],.at 0,.keep [0,5,11],.sel [0,1,4,3]] (.next)) (.leaf () [0,1,2])) (.leaf () [0,1,2]))))))))))),(Fp 127 [vP 0,vI end_] [.cells (Eh 1 r),.lst .ev r.out] (.v (.c (.int .u64 z10))) z12)∧Bc (!decide (z6.fail.kind=0)) (Lf (.tup []) (.tup []) [.cells (Eh 2 z6),.dead,.lst .ev z6.out] z5) ((wI z23)∧(wU z23)∧Bc (decide (end_-z6.at_<A5 r end_)) ((Fp 113 [vI 8,vI r.at_] [] (.v (.agg (cEv z13))) [])∧Lf (.tup []) (.tup []) [.cells [.seq .shp z6.plan.shapes,zi z6.plan.root,zi z6.plan.deep,zi z6.plan.most,.str z6.s,zi z6.at_,.own 2,zi z13.kind,zi z13.field,.int .u64 z13.bits,zi z13.len,.str z13.text,zi z13.code,zi z13.at_],.dead,.lst .ev z6.out] z5) ((wI z10)∧Bc (decide (f.number=0)) ((wI (z9-z6.at_))∧(wI (z9-z6.at_))∧Bc (decide (z9-z6.at_<A5 r end_)) ((Fp 113 [vI 10,vI z9] [] (.v (.agg (cEv z16))) [])∧Lf (.tup []) (.tup []) [.cells [.seq .shp z6.plan.shapes,zi z6.plan.root,zi z6.plan.deep,zi z6.plan.most,.str z6.s,zi z6.at_,.own 2,zi z16.kind,zi z16.field,.int .u64 z16.bits,zi z16.len,.str z16.text,zi z16.code,zi z16.at_],.dead,.lst .ev z6.out] z5) ((wI z15)∧Lf (.tup []) (.tup []) [.cells [.seq .shp z6.plan.shapes,zi z6.plan.root,zi z6.plan.deep,zi z6.plan.most,.str z6.s,zi z15,.own 2,zi z6.fail.kind,zi z6.fail.field,.int .u64 z6.fail.bits,zi z6.fail.len,.str z6.fail.text,zi z6.fail.code,zi z6.fail.at_],.dead,.lst .ev z6.out] z5)) (Bc (decide (f.kind=8)) (Bc (decide (z6.plan.deep≤deep)) ((Fp 113 [vI 6,vI r.at_] [] (.v (.agg (cEv z14))) [])∧Lf (.tup []) (.tup []) [.cells [.seq .shp z6.plan.shapes,zi z6.plan.root,zi z6.plan.deep,zi z6.plan.most,.str z6.s,zi z6.at_,.own 2,zi z14.kind,zi z14.field,.int .u64 z14.bits,zi z14.len,.str z14.text,zi z14.code,zi z14.at_],.dead,.lst .ev z6.out] z5) ((Fp 192 [vP 0,.agg [zi 6,zi f.number,.int .u64 0,zi z10,.str [],zi 0,zi 0]] z12 (.tup []) z24)∧(wI z21)∧(wI z21)∧(wI (deep+1))∧(wI (deep+1))∧(Fp 72 [vP 0,vI f.msg,vI z21,vI (deep+1)] [.cells (Eh 1 z7),.lst .ev z7.out] (.tup []) z18)∧Bc (decide (z4.fail.kind=0)) ((Fp 192 [vP 0,.agg [zi 7,zi 0,.int .u64 0,zi 0,.str [],zi 0,zi 0]] [.cells (Eh 1 z4),.lst .ev z4.out] (.tup []) z11)∧Lf (.tup []) (.tup []) z11 z5) (Lf (.tup []) (.tup []) z18 z5))) (Bc (decide (f.kind=6)) ((Fp 193 [vP 0,.agg (Fw f),vI z10] z12 (.tup []) z8)∧Lf (.tup []) (.tup []) z8 z5) (Bc (decide (f.kind=7)) ((Fp 193 [vP 0,.agg (Fw f),vI z10] z12 (.tup []) z8)∧Lf (.tup []) (.tup []) z8 z5) ((wI z15)∧z19.Has [(0,.v (vP 0)),(5,.v (vP 3)),(11,.v (vI z15))] [.cells (Eh 2 z6),.dead,.lst .ev z6.out,.cells (Fw f)]∧∀q1,z19.inv q1→(let z2:=Lf (.tup []) (.tup []) [.cells (Eh 2 q1.r),.dead,.lst .ev q1.r.out] z5;let z3:=Bn q1.r f z20 z15;Bc (decide (q1.r.at_<z6.at_+z10)) (Bc (decide (q1.r.fail.kind=0)) ((Fp 178 [vI f.kind] [] (.v (vI z20)) [])∧(Fp 133 [vP 0,.agg (Fw f),vI z20,vI z15] [.cells (Eh 1 q1.r),.lst .ev q1.r.out] (.tup []) [.cells (Eh 2 z3),.dead,.lst .ev z3.out])∧z19.Nxt q1 [(0,.v (vP 0)),(5,.v (vP 3)),(11,.v (vI z15))] [.cells (Eh 2 z3),.dead,.lst .ev z3.out,.cells (Fw f)]) z2) z2))))))))) Q4 ?_
 refine⟨(S5 r _ Q2),fun h1=>have q1:=Aq h1;have p1:=of_decide_eq_false q1;?_,fun h1=>have q1:=Ap h1;have p1:=of_decide_eq_true q1;?_⟩
 have hok:Bs r end_=false:=by rw[hvk];simpa using q1
 refine zE (Bt (Jg (Int.toNat ((r).plan.deep-deep))) r f (decide ((f).number≠0)) end_) (Az r end_) (fun hm1=>⟨rfl,Q7⟩) ?_
 rotate_left
 have hok:Bs r end_=true:=by rw[hvk];simpa using q1
 have hk:(Az r end_).fail.kind=0:=by rw[hvk] at hok;simpa using hok
 have ha:=hv.1.at_ hk
 have hb:=hv.2 hk
 have h2:=hv2 hok
 refine⟨(Af Q2 Q2),(Bu Q2 Q2),dsp (fun h2 p2=>?_) fun h2 p2=>?_⟩
 refine zE (Bt (Jg (Int.toNat ((r).plan.deep-deep))) r f (decide ((f).number≠0)) end_) (⟨(Az r end_).plan,(Az r end_).s,(Az r end_).at_,(Az r end_).out,(Bj 8 r.at_)⟩:Mr) (fun hm1=>⟨(C6 _ _),rfl,Q7⟩) ?_
 rotate_left
 refine⟨(Af Q2 Q2),dsp (fun h3 p3=>?_) fun h3 p3=>?_⟩
 refine⟨(Af Q2 Q2),(Af Q2 Q2),dsp (fun h4 p4=>?_) fun h4 p4=>?_⟩
 refine zE (Bt (Jg (Int.toNat ((r).plan.deep-deep))) r f (decide ((f).number≠0)) end_) (⟨(Az r end_).plan,(Az r end_).s,(Az r end_).at_,(Az r end_).out,(Bj 10 ((List.length (Az r end_).s:Nat):Int))⟩:Mr) (fun hm1=>⟨(C6 _ _),rfl,Q7⟩) ?_
 rotate_left
 refine zE (Bt (Jg (Int.toNat ((r).plan.deep-deep))) r f (decide ((f).number≠0)) end_) (⟨(Az r end_).plan,(Az r end_).s,(Az r end_).at_+(A5 r end_),(Az r end_).out,(Az r end_).fail⟩:Mr) (fun hm1=>⟨(Af Q2 Q2),rfl,Q7⟩) ?_
 rotate_left
 refine dsp (fun h4 p4=>?_) fun h4 p4=>?_
 refine dsp (fun h5 p5=>?_) fun h5 p5=>?_
 have hsub: ∀(v:Mr) (n s:Int),Jg (Int.toNat (r.plan.deep-deep)) v f n s=Cw v 6 s:=fun v n s=>by rw[show Int.toNat (r.plan.deep-deep)=0 by omega];rfl
 refine zE (Bt (Jg (Int.toNat ((r).plan.deep-deep))) r f (decide ((f).number≠0)) end_) (⟨(Az r end_).plan,(Az r end_).s,(Az r end_).at_,(Az r end_).out,(Bj 6 r.at_)⟩:Mr) (fun hm1=>⟨(C6 _ _),rfl,Q7⟩) ?_
 rotate_left
 have hsub: ∀(v:Mr) (n s:Int),Jg (Int.toNat (r.plan.deep-deep)) v f n s=if (Hq (Int.toNat (r.plan.deep-(deep+1))) f.msg (v.at_+n) (Ag v (E2 f n))).fail.kind=0 then Ag (Hq (Int.toNat (r.plan.deep-(deep+1))) f.msg (v.at_+n) (Ag v (E2 f n))) Apb else (Hq (Int.toNat (r.plan.deep-(deep+1))) f.msg (v.at_+n) (Ag v (E2 f n))):=fun v n s=>by rw[show Int.toNat (r.plan.deep-deep)=Int.toNat (r.plan.deep-(deep+1))+1 by omega];rfl
 refine⟨(Np (Az r end_) (⟨6,f.number,0,A5 r end_,[],0,0⟩:Ev) Q2),(Af Q25 Q25),(Af Q25 Q25),(Af Q2 Q2),(Af Q2 Q2),(hM (Ag (Az r end_) (⟨6,f.number,0,A5 r end_,[],0,0⟩:Ev)) _ _ _ Q22 Q22 Q51 Q22 Q22 Q22 (by simpa [Ag,hvp] using hp7) (by simp only[Ag,hvp];omega) (by simp only[Ag,hvp];omega)),dsp (fun h6 p6=>?_) fun h6 p6=>?_⟩
 refine zE (Bt (Jg (Int.toNat ((r).plan.deep-deep))) r f (decide ((f).number≠0)) end_) (Ag (Hq (Int.toNat (((Ag (Az r end_) (⟨6,f.number,0,A5 r end_,[],0,0⟩:Ev))).plan.deep-(deep+1))) f.msg ((Ag (Az r end_) (⟨6,f.number,0,A5 r end_,[],0,0⟩:Ev)).at_+(A5 r end_)) (Ag (Az r end_) (⟨6,f.number,0,A5 r end_,[],0,0⟩:Ev))) (⟨7,0,0,0,[],0,0⟩:Ev)) (fun hm1=>⟨(Np (Hq (Int.toNat (((Ag (Az r end_) (⟨6,f.number,0,A5 r end_,[],0,0⟩:Ev))).plan.deep-(deep+1))) f.msg ((Ag (Az r end_) (⟨6,f.number,0,A5 r end_,[],0,0⟩:Ev)).at_+(A5 r end_)) (Ag (Az r end_) (⟨6,f.number,0,A5 r end_,[],0,0⟩:Ev))) (⟨7,0,0,0,[],0,0⟩:Ev) (Xq Q22 Q22)),rfl,Q7⟩) ?_
 rotate_left
 refine zE (Bt (Jg (Int.toNat ((r).plan.deep-deep))) r f (decide ((f).number≠0)) end_) (Hq (Int.toNat (((Ag (Az r end_) (⟨6,f.number,0,A5 r end_,[],0,0⟩:Ev))).plan.deep-(deep+1))) f.msg ((Ag (Az r end_) (⟨6,f.number,0,A5 r end_,[],0,0⟩:Ev)).at_+(A5 r end_)) (Ag (Az r end_) (⟨6,f.number,0,A5 r end_,[],0,0⟩:Ev))) (fun hm1=>⟨rfl,Q7⟩) ?_
 rotate_left
 refine dsp (fun h5 p5=>?_) fun h5 p5=>?_
 refine zE (Bt (Jg (Int.toNat ((r).plan.deep-deep))) r f (decide ((f).number≠0)) end_) (Ci (Az r end_) f (A5 r end_)) (fun hm1=>⟨(Amf (Az r end_) f _ Q2 Q2 Q51 Q2 Q2 Q2),rfl,Q7⟩) ?_
 rotate_left
 refine dsp (fun h6 p6=>?_) fun h6 p6=>?_
 refine zE (Bt (Jg (Int.toNat ((r).plan.deep-deep))) r f (decide ((f).number≠0)) end_) (Ci (Az r end_) f (A5 r end_)) (fun hm1=>⟨(Amf (Az r end_) f _ Q2 Q2 Q51 Q2 Q2 Q2),rfl,Q7⟩) ?_
 rotate_left
 refine⟨(Af Q2 Q2),Cn (j:=(⟨(Az r end_)⟩:Sa)) rfl rfl (by dsimp only[Sb];exact LInv.refl Q2),fun (q1:Sa) hq_q1=>?_⟩
 have hi_q1:LInv (fun x=>Bn x f (Ba f.kind) ((Az r end_).at_+A5 r end_)) ((Az r end_).at_+A5 r end_) (Az r end_) q1.r:=hq_q1
 have hwf:=Aef (k:=f.kind) (by omega)
 have hlg:= @LInv.go _ (K7 f (Ba f.kind) ((Az r end_).at_+A5 r end_)) _ _ _ hi_q1
 refine dsp (fun h7 p7=>?_) fun h7 p7=>?_
 refine dsp (fun h8 p8=>?_) fun h8 p8=>?_
 have hrm:=hi_q1.room p8
 have hat:=hi_q1.at_ p8
 exact⟨(Rt _),(Anr q1.r f _ _ Q2 Q2 Q51 Q2 Q2 Q2 Q2),Be (j:=(⟨(Bn q1.r f (Ba f.kind) ((Az r end_).at_+(A5 r end_)))⟩:Sa)) rfl rfl (by dsimp only[Sb];exact(hlg Q2 Q2).1) (by dsimp only[Sb];exact(hlg Q2 Q2).2)⟩
 have hend:Kn (Az r end_) f ((Az r end_).at_+A5 r end_)=q1.r:=hi_q1.bad p8
 refine zE (Bt (Jg (Int.toNat ((r).plan.deep-deep))) r f (decide ((f).number≠0)) end_) q1.r (fun hm1=>⟨rfl,Q7⟩) ?_
 rotate_left
 have hend:Kn (Az r end_) f ((Az r end_).at_+A5 r end_)=q1.r:=hi_q1.end_ p7
 refine zE (Bt (Jg (Int.toNat ((r).plan.deep-deep))) r f (decide ((f).number≠0)) end_) q1.r (fun hm1=>⟨rfl,Q7⟩) ?_
 rotate_left
 all_goals first|(grind (ematch:=20) (gen:=20) [Bt,Ag,F1,Cw,E2,Apb,Bj])
structure Apc where
 r:Mr
structure F9 where
 r:Mr
def Sd (r:Mr) (shape:Int) (end_:Int) (deep:Int):Fam:=⟨F9,fun q1=>[(0,.v (vP 0)),(1,.v (vI shape)),(2,.v (vI end_)),(3,.v (vI deep))],fun q1=>[.cells (Eh 2 q1.r),.dead,.lst .ev q1.r.out],fun q1=>LInv (Du (Jg (Int.toNat (r.plan.deep-deep))) shape end_) end_ r q1.r,fun q1=>Lu q1.r⟩
theorem Apd (K:Nat) (hM:Ahd K) (r:Mr) (shape:Int) (end_:Int) (deep:Int) (hp1:List.length (r).s≤1048576) (hp2:(r).at_≤((List.length (r).s:Nat):Int)) (hp3:(r).fail.kind=0) (hp4:((List.length (r).out:Nat):Int)+4*(((List.length (r).s:Nat):Int)-(r).at_)≤100000000) (hp5:(0:Int)≤(r).at_) (hp6: -1000000000≤end_∧end_≤9223372036854775807) (hp7:Br (r).plan=true) (hp8:(1:Int)≤deep∧deep≤(r).plan.deep) (hp9:Int.toNat ((r).plan.deep-deep)≤K):Fun Tryz.prog 72 [vP 0,vI shape,vI end_,vI deep] [.cells (Eh 1 r),.lst .ev r.out] (.tup []) [.cells (Eh 2 (Hq (Int.toNat ((r).plan.deep-deep)) shape end_ r)),.dead,.lst .ev (Hq (Int.toNat ((r).plan.deep-deep)) shape end_ r).out]:=by
 have hN:Bk=274877906944:=rfl
 have hpt:=B8 hp7
 refine Ar Tryz.func72 Q4 Q4 (w:=let zi:Int→C:= .int .i64;let z13:=Sd r shape end_ deep;let z14:=Hq (Int.toNat ((r).plan.deep-deep)) shape end_ r;let z15:=vI shape;let z16:List Blk:=[.cells (Eh 2 z14),.dead,.lst .ev z14.out];(.seg [.at 0,.cut 0 6,.keep [0,1,2,3],.sel [0,1,2]] (.loop z13 fun q1=>let z4:=A5 q1.r end_;let z5:=Az q1.r end_;let z1:=(fieldAt z5.plan.shapes shape (Bh z4)).getD fld0;let z2:=Bt (Jg (Int.toNat ((z5).plan.deep-deep))) z5 z1 (decide ((z1).number≠0)) end_;let z3:=Bn z5 z1 (Ah z4) end_;.br (.br (.seg [.call [0,2] (.v (.c (.int .u64 z4))) [.cells (Eh 1 z5),.lst .ev z5.out]] (.br (.leaf () [0,1,2]) (.seg [.call [] (.tup [vI (Bh z4),vI (Ah z4),vB (Kk z4)]) [],.call [] (.tup [.agg (Fw z1),vB (fieldAt z5.plan.shapes shape (Bh z4)).isSome]) []] (.br (.seg [.call [] (.v (.agg (cEv (Bj 2 q1.r.at_)))) [],.at 0,.keep [0,1,2,3],.sel [0,1,2]] (.next)) (.seg [.call [] (.v (vB (Dc (Ah z4)))) []] (.br (.seg [.call [] (.v (.agg (cEv (Bj 3 q1.r.at_)))) [],.at 0,.keep [0,1,2,3],.sel [0,1,2]] (.next)) (.br (.seg [.call [] (.v (vB (Ds z1 (Ah z4)))) []] (.br (.seg [.call [] (.v (.agg (cEv (Bj 4 q1.r.at_)))) [],.at 0,.keep [0,1,2,3],.sel [0,1,2]] (.next)) (.br (.seg [.call [0,2] (.tup []) [.cells (Eh 2 z2),.dead,.lst .ev z2.out],.at 0,.keep [0,1,2,3],.sel [0,1,4]] (.next)) (.seg [.call [0,2] (.tup []) [.cells (Eh 2 z3),.dead,.lst .ev z3.out],.at 0,.keep [0,1,2,3],.sel [0,1,4]] (.next))))) (.br (.seg [.call [0,2] (.tup []) [.cells (Eh 2 z2),.dead,.lst .ev z2.out],.at 0,.keep [0,1,2,3],.sel [0,1,4]] (.next)) (.seg [.call [0,2] (.tup []) [.cells (Eh 2 z3),.dead,.lst .ev z3.out],.at 0,.keep [0,1,2,3],.sel [0,1,4]] (.next)))))))))) (.leaf () [0,1,2])) (.leaf () [0,1,2])),z13.Has [(0,.v (vP 0)),(1,.v z15),(2,.v (vI end_)),(3,.v (vI deep))] [.cells (Eh 2 r),.dead,.lst .ev r.out]∧∀q1,z13.inv q1→(let z7:=Az q1.r end_;let z8:=A5 q1.r end_;let z6:=(fieldAt z7.plan.shapes shape (Bh z8)).getD fld0;let z9:=Lf (.tup []) (.tup []) [.cells (Eh 2 q1.r),.dead,.lst .ev q1.r.out] z16;let z10:=Bj 2 q1.r.at_;let z11:=Bj 3 q1.r.at_;let z12:=Bj 4 q1.r.at_;Bc (decide (q1.r.at_<end_)) (Bc (decide (q1.r.fail.kind=0)) ((Fp 127 [vP 0,vI end_] [.cells (Eh 1 q1.r),.lst .ev q1.r.out] (.v (.c (.int .u64 z8))) [.cells (Eh 1 z7),.lst .ev z7.out])∧Bc (!decide (z7.fail.kind=0)) (Lf (.tup []) (.tup []) [.cells (Eh 2 z7),.dead,.lst .ev z7.out] z16) ((Fp 128 [.c (.int .u64 z8)] [] (.tup [vI (Bh z8),vI (Ah z8),vB (Kk z8)]) [])∧(Fp 129 [.agg [.seq .shp z7.plan.shapes],vI shape,vI (Bh z8)] [] (.tup [.agg (Fw z6),vB (fieldAt z7.plan.shapes shape (Bh z8)).isSome]) [])∧Bc (!(Kk z8)) ((Fp 113 [vI 2,vI q1.r.at_] [] (.v (.agg (cEv z10))) [])∧z13.Nxt q1 [(0,.v (vP 0)),(1,.v z15),(2,.v (vI end_)),(3,.v (vI deep))] [.cells [.seq .shp z7.plan.shapes,zi z7.plan.root,zi z7.plan.deep,zi z7.plan.most,.str z7.s,zi z7.at_,.own 2,zi z10.kind,zi z10.field,.int .u64 z10.bits,zi z10.len,.str z10.text,zi z10.code,zi z10.at_],.dead,.lst .ev z7.out]) ((Fp 130 [vI (Ah z8)] [] (.v (vB (Dc (Ah z8)))) [])∧Bc (!(Dc (Ah z8))) ((Fp 113 [vI 3,vI q1.r.at_] [] (.v (.agg (cEv z11))) [])∧z13.Nxt q1 [(0,.v (vP 0)),(1,.v z15),(2,.v (vI end_)),(3,.v (vI deep))] [.cells [.seq .shp z7.plan.shapes,zi z7.plan.root,zi z7.plan.deep,zi z7.plan.most,.str z7.s,zi z7.at_,.own 2,zi z11.kind,zi z11.field,.int .u64 z11.bits,zi z11.len,.str z11.text,zi z11.code,zi z11.at_],.dead,.lst .ev z7.out]) (Bc ((fieldAt z7.plan.shapes shape (Bh z8)).isSome) ((Fp 131 [.agg (Fw z6),vI (Ah z8)] [] (.v (vB (Ds z6 (Ah z8)))) [])∧Bc (!(Ds z6 (Ah z8))) ((Fp 113 [vI 4,vI q1.r.at_] [] (.v (.agg (cEv z12))) [])∧z13.Nxt q1 [(0,.v (vP 0)),(1,.v z15),(2,.v (vI end_)),(3,.v (vI deep))] [.cells [.seq .shp z7.plan.shapes,zi z7.plan.root,zi z7.plan.deep,zi z7.plan.most,.str z7.s,zi z7.at_,.own 2,zi z12.kind,zi z12.field,.int .u64 z12.bits,zi z12.len,.str z12.text,zi z12.code,zi z12.at_],.dead,.lst .ev z7.out]) (Bc (decide (Ah z8=2)) ((Fp 132 [vP 0,.agg (Fw z6),vI end_,vI deep] [.cells (Eh 1 z7),.lst .ev z7.out] (.tup []) [.cells (Eh 2 (Bt (Jg (Int.toNat ((z7).plan.deep-deep))) z7 z6 (decide ((z6).number≠0)) end_)),.dead,.lst .ev (Bt (Jg (Int.toNat ((z7).plan.deep-deep))) z7 z6 (decide ((z6).number≠0)) end_).out])∧z13.Nxt q1 [(0,.v (vP 0)),(1,.v z15),(2,.v (vI end_)),(3,.v (vI deep))] [.cells (Eh 2 (Bt (Jg (Int.toNat ((z7).plan.deep-deep))) z7 z6 (decide ((z6).number≠0)) end_)),.dead,.lst .ev (Bt (Jg (Int.toNat ((z7).plan.deep-deep))) z7 z6 (decide ((z6).number≠0)) end_).out]) ((Fp 133 [vP 0,.agg (Fw z6),vI (Ah z8),vI end_] [.cells (Eh 1 z7),.lst .ev z7.out] (.tup []) [.cells (Eh 2 (Bn z7 z6 (Ah z8) end_)),.dead,.lst .ev (Bn z7 z6 (Ah z8) end_).out])∧z13.Nxt q1 [(0,.v (vP 0)),(1,.v z15),(2,.v (vI end_)),(3,.v (vI deep))] [.cells (Eh 2 (Bn z7 z6 (Ah z8) end_)),.dead,.lst .ev (Bn z7 z6 (Ah z8) end_).out]))) (Bc (decide (Ah z8=2)) ((Fp 132 [vP 0,.agg (Fw z6),vI end_,vI deep] [.cells (Eh 1 z7),.lst .ev z7.out] (.tup []) [.cells (Eh 2 (Bt (Jg (Int.toNat ((z7).plan.deep-deep))) z7 z6 (decide ((z6).number≠0)) end_)),.dead,.lst .ev (Bt (Jg (Int.toNat ((z7).plan.deep-deep))) z7 z6 (decide ((z6).number≠0)) end_).out])∧z13.Nxt q1 [(0,.v (vP 0)),(1,.v z15),(2,.v (vI end_)),(3,.v (vI deep))] [.cells (Eh 2 (Bt (Jg (Int.toNat ((z7).plan.deep-deep))) z7 z6 (decide ((z6).number≠0)) end_)),.dead,.lst .ev (Bt (Jg (Int.toNat ((z7).plan.deep-deep))) z7 z6 (decide ((z6).number≠0)) end_).out]) ((Fp 133 [vP 0,.agg (Fw z6),vI (Ah z8),vI end_] [.cells (Eh 1 z7),.lst .ev z7.out] (.tup []) [.cells (Eh 2 (Bn z7 z6 (Ah z8) end_)),.dead,.lst .ev (Bn z7 z6 (Ah z8) end_).out])∧z13.Nxt q1 [(0,.v (vP 0)),(1,.v z15),(2,.v (vI end_)),(3,.v (vI deep))] [.cells (Eh 2 (Bn z7 z6 (Ah z8) end_)),.dead,.lst .ev (Bn z7 z6 (Ah z8) end_).out])))))) z9) z9))) Q4 ?_
 refine⟨Cn (j:=(⟨r⟩:F9)) rfl rfl (by dsimp only[Sd];exact LInv.refl hp2),fun (q1:F9) hq_q1=>?_⟩
 have hi_q1:LInv (Du (Jg (Int.toNat (r.plan.deep-deep))) shape end_) end_ r q1.r:=hq_q1
 refine dsp (fun h1 p1=>?_) fun h1 p1=>?_
 refine dsp (fun h2 p2=>?_) fun h2 p2=>?_
 have hfl:=p2
 have hat:=hi_q1.at_ hfl
 have hrm:=hi_q1.room hfl
 obtain ⟨hv,hv2,hv3⟩:=E3 (r:=q1.r) (e:=end_) hat.2
 have hvk:=D9 (r:=q1.r) (e:=end_) hfl
 have hu:=My q1.r end_
 have hvs:=congrArg List.length hv.1.s
 have hvo:=congrArg List.length hv3
 have hvp:=hv.1.plan
 have hpl:=hvp.trans hrm.2.1
 have hsk:C5 (Az q1.r end_).plan.shapes=true:=by rw[hpl];exact hpt.2.1
 have htw:=Ahc (A5 q1.r end_)
 have hkn:=Abn (s:=shape) (n:=Bh (A5 q1.r end_)) hsk
 have hff:=Qx (s:=shape) (n:=Bh (A5 q1.r end_)) hsk
 refine⟨(S5 q1.r _ Q2),fun h3=>have q3:=Aq h3;have p3:=of_decide_eq_false q3;?_,fun h3=>have q3:=Ap h3;have p3:=of_decide_eq_true q3;?_⟩
 have hok:Bs q1.r end_=false:=by rw[hvk];simpa using q3
 refine zE (Hq (Int.toNat ((r).plan.deep-deep)) shape end_ r) (Az q1.r end_) (fun hm1=>⟨rfl,Q7⟩) ?_
 rotate_left
 have hok:Bs q1.r end_=true:=by rw[hvk];simpa using q3
 have hk:(Az q1.r end_).fail.kind=0:=by rw[hvk] at hok;simpa using hok
 have ha:=hv.1.at_ hk
 have hb:=hv.2 hk
 have h2:=hv2 hok
 have hvl:=Em (r:=Az q1.r end_) (w:=Ah (A5 q1.r end_)) (e:=end_) hk
 have hvu:=Ajy (Az q1.r end_) (Ah (A5 q1.r end_)) end_
 have hvq:=congrArg List.length (Aaa (r:=Az q1.r end_) (w:=Ah (A5 q1.r end_)) (e:=end_) (by omega)).2
 refine⟨(Am7 _ Q2),(Agr (Az q1.r end_).plan.shapes _ _ (by rw[hpl];omega) (by rw[hpl];exact Ff hpt.2.1)),fun h4=>have q4:=Aq h4;?_,fun h4=>have q4:=Ap h4;?_⟩
 exact⟨(C6 _ _),Be (j:=(⟨(⟨(Az q1.r end_).plan,(Az q1.r end_).s,(Az q1.r end_).at_,(Az q1.r end_).out,(Bj 2 q1.r.at_)⟩:Mr)⟩:F9)) rfl Q9 Q32 Q31⟩
 refine⟨(Ai9 _),fun h5=>have q5:=Aq h5;?_,fun h5=>have q5:=Ap h5;?_⟩
 exact⟨(C6 _ _),Be (j:=(⟨(⟨(Az q1.r end_).plan,(Az q1.r end_).s,(Az q1.r end_).at_,(Az q1.r end_).out,(Bj 3 q1.r.at_)⟩:Mr)⟩:F9)) rfl Q9 Q32 Q31⟩
 refine⟨fun h6=>?_,fun h6=>?_⟩
 refine⟨(Agm ((fieldAt (Az q1.r end_).plan.shapes shape (Bh (A5 q1.r end_))).getD fld0) _ Q2),fun h7=>have q7:=Aq h7;?_,fun h7=>have q7:=Ap h7;?_⟩
 exact⟨(C6 _ _),Be (j:=(⟨(⟨(Az q1.r end_).plan,(Az q1.r end_).s,(Az q1.r end_).at_,(Az q1.r end_).out,(Bj 4 q1.r.at_)⟩:Mr)⟩:F9)) rfl Q9 Q32 Q31⟩
 refine dsp (fun h8 p8=>?_) fun h8 p8=>?_
 exact⟨(Amg K hM (Az q1.r end_) ((fieldAt (Az q1.r end_).plan.shapes shape (Bh (A5 q1.r end_))).getD fld0) _ _ Q2 Q2 (hk) Q2 Q2 Q2 (by rw[hpl];exact hp7) (by rw[hpl];omega) (by grind) (by grind[Dc]) (by rw[hpl];omega)),Be (j:=(⟨(Bt (Jg (Int.toNat (((Az q1.r end_)).plan.deep-deep))) (Az q1.r end_) ((fieldAt (Az q1.r end_).plan.shapes shape (Bh (A5 q1.r end_))).getD fld0) (decide ((((fieldAt (Az q1.r end_).plan.shapes shape (Bh (A5 q1.r end_))).getD fld0)).number≠0)) end_)⟩:F9)) rfl rfl Q32 Q31⟩
 exact⟨(Anr (Az q1.r end_) ((fieldAt (Az q1.r end_).plan.shapes shape (Bh (A5 q1.r end_))).getD fld0) _ _ Q2 Q2 (hk) Q2 Q2 Q2 (by grind[Dc])),Be (j:=(⟨(Bn (Az q1.r end_) ((fieldAt (Az q1.r end_).plan.shapes shape (Bh (A5 q1.r end_))).getD fld0) (Ah (A5 q1.r end_)) end_)⟩:F9)) rfl rfl Q32 Q31⟩
 refine dsp (fun h7 p7=>?_) fun h7 p7=>?_
 exact⟨(Amg K hM (Az q1.r end_) ((fieldAt (Az q1.r end_).plan.shapes shape (Bh (A5 q1.r end_))).getD fld0) _ _ Q2 Q2 (hk) Q2 Q2 Q2 (by rw[hpl];exact hp7) (by rw[hpl];omega) (by grind) (by grind[Dc]) (by rw[hpl];omega)),Be (j:=(⟨(Bt (Jg (Int.toNat (((Az q1.r end_)).plan.deep-deep))) (Az q1.r end_) ((fieldAt (Az q1.r end_).plan.shapes shape (Bh (A5 q1.r end_))).getD fld0) (decide ((((fieldAt (Az q1.r end_).plan.shapes shape (Bh (A5 q1.r end_))).getD fld0)).number≠0)) end_)⟩:F9)) rfl rfl Q32 Q31⟩
 exact⟨(Anr (Az q1.r end_) ((fieldAt (Az q1.r end_).plan.shapes shape (Bh (A5 q1.r end_))).getD fld0) _ _ Q2 Q2 (hk) Q2 Q2 Q2 (by grind[Dc])),Be (j:=(⟨(Bn (Az q1.r end_) ((fieldAt (Az q1.r end_).plan.shapes shape (Bh (A5 q1.r end_))).getD fld0) (Ah (A5 q1.r end_)) end_)⟩:F9)) rfl rfl Q32 Q31⟩
 refine zE (Hq (Int.toNat ((r).plan.deep-deep)) shape end_ r) q1.r (fun hm1=>⟨rfl,Q7⟩) ?_
 rotate_left
 refine zE (Hq (Int.toNat ((r).plan.deep-deep)) shape end_ r) q1.r (fun hm1=>⟨rfl,Q7⟩) ?_
 rotate_left
 all_goals first|(exact(Mx _ _ _ _).trans (hi_q1.end_ (by omega)))|(exact(Mx _ _ _ _).trans (hi_q1.bad (by assumption)))|(rw[hm1];simp[Cw,Bj, *];done)|(exact(Mx _ _ _ _).trans (hi_q1.leave (Lx _ _ _) (by omega) hfl (by grind (ematch:=20) (gen:=20) [Du,Bn,Ag,Cw]) (by first|(exact Cb _ _ _)|(simp_all;done)|(grind))))|(rw[hm1];grind)
theorem Amh: ∀K,Ahd K
 |0=>fun r shape end_ deep hp1 hp2 hp3 hp4 hp5 hp6 hp7 hp8 hp9=>absurd hp9 (Nat.not_lt_zero _)
 |K+1=>fun r shape end_ deep hp1 hp2 hp3 hp4 hp5 hp6 hp7 hp8 hp9=>Apd K (Amh K) r shape end_ deep hp1 hp2 hp3 hp4 hp5 hp6 hp7 hp8 (Nat.le_of_lt_succ hp9)
theorem Aqb (r:Mr) (shape:Int) (end_:Int) (deep:Int) (hp1:List.length (r).s≤1048576) (hp2:(r).at_≤((List.length (r).s:Nat):Int)) (hp3:(r).fail.kind=0) (hp4:((List.length (r).out:Nat):Int)+4*(((List.length (r).s:Nat):Int)-(r).at_)≤100000000) (hp5:(0:Int)≤(r).at_) (hp6: -1000000000≤end_∧end_≤9223372036854775807) (hp7:Br (r).plan=true) (hp8:(1:Int)≤deep∧deep≤(r).plan.deep):Fun Tryz.prog 72 [vP 0,vI shape,vI end_,vI deep] [.cells (Eh 1 r),.lst .ev r.out] (.tup []) [.cells (Eh 2 (Hq (Int.toNat ((r).plan.deep-deep)) shape end_ r)),.dead,.lst .ev (Hq (Int.toNat ((r).plan.deep-deep)) shape end_ r).out]:=Amh _ r shape end_ deep hp1 hp2 hp3 hp4 hp5 hp6 hp7 hp8 (Nat.lt_succ_self _)
/-! ### More told Cs -/
def Cs (o:List Ev) (r:Mr):Mr:=⟨r.plan,r.s,r.at_,o++r.out,r.fail⟩
theorem Ly (o:List Ev) (r:Mr) (e:Ev):Ag (Cs o r) e=Cs o (Ag r e):=by simp[Ag,Cs]
theorem Vs (o:List Ev) (r:Mr) (e:Int):Az (Cs o r) e=Cs o (Az r e):=by
 unfold Az;rw[show Bs (Cs o r) e=Bs r e from rfl];split<;>rfl
theorem Ahe (o:List Ev) (r:Mr) (w e:Int):G1 (Cs o r) w e=Cs o (G1 r w e):=by
 unfold G1
 rw[show (Cs o r).at_=r.at_ from rfl,show (Cs o r).s=r.s from rfl]
 split
 ·rfl
 ·split<;>rfl
theorem Ahf (o:List Ev) (r:Mr) (w e:Int):E1 (Cs o r) w e=Cs o (E1 r w e):=by
 unfold E1;split
 ·exact Ahe o r _ e
 ·exact Vs o r e
theorem Aad (o:List Ev) (r:Mr) (f:Fld) (w e:Int):Bn (Cs o r) f w e=Cs o (Bn r f w e):=by
 unfold Bn
 rw[show E5 (Cs o r) w e=E5 r w e from rfl,show Gp (Cs o r) w e=Gp r w e from rfl,Ahf]
 split
 ·exact Ly o _ _
 ·rfl
theorem S6 (o:List Ev) {step:Mr→Mr} (hs: ∀r,step (Cs o r)=Cs o (step r)) (e:Int): ∀(k:Nat) (r:Mr),E6 (Lg e) step k (Cs o r)=Cs o (E6 (Lg e) step k r)
 |0,r=>rfl
 |k+1,r=>by
  simp only[E6]
  rw[show Lg e (Cs o r)=Lg e r from rfl]
  split
  ·rw[hs,S6 o hs e k]
  ·rfl
theorem Ahg (o:List Ev) (r:Mr) (f:Fld) (e:Int):Kn (Cs o r) f e=Cs o (Kn r f e):=S6 o (fun r=>Aad o r f _ e) e _ r
theorem Aeg (o:List Ev) (r:Mr) (f:Fld) (n:Int):Dj (Cs o r) f n=Cs o (Dj r f n):=by
 unfold Dj
 rw[show Je (Cs o r) f n=Je r f n from rfl]
 split<;>simp only[Ly]
theorem Ahh (o:List Ev) (r:Mr) (f:Fld) (n:Int):Ci (Cs o r) f n=Cs o (Ci r f n):=by
 unfold Ci
 rw[show Lv (Cs o r) f n=Lv r f n from rfl,show Ay (Cs o r) n=Ay r n from rfl,show Z8 (Cs o r) f n=Z8 r f n from rfl,Aeg,show (Cs o r).s=r.s from rfl,show (Cs o r).at_=r.at_ from rfl]
 split
 ·rfl
 split
 ·rfl
 split
 ·rfl
 ·exact Ly o (F1 (Dj r f n) (r.at_+n)) J8
def Uj (o:List Ev) (sub:Mr→Fld→Int→Int→Mr):Prop:= ∀(v:Mr) (f:Fld) (n s:Int),sub (Cs o v) f n s=Cs o (sub v f n s)
theorem Aeh {o:List Ev} {sub:Mr→Fld→Int→Int→Mr} (hs:Uj o sub) (r:Mr) (f:Fld) (known:Bool) (e:Int):Bt sub (Cs o r) f known e=Cs o (Bt sub r f known e):=by
 unfold Bt
 rw[show Bs (Cs o r) e=Bs r e from rfl,show A5 (Cs o r) e=A5 r e from rfl,Vs]
 simp only[show ∀x,(Cs o x).at_=x.at_ from fun _=>rfl,show ∀x,(Cs o x).s=x.s from fun _=>rfl]
 split
 ·rfl
 split
 ·rfl
 split
 ·split<;>rfl
 split
 ·exact hs _ _ _ _
 split
 ·exact Ahg o _ _ _
 ·exact Ahh o _ _ _
theorem Ahi {o:List Ev} {sub:Mr→Fld→Int→Int→Mr} (hs:Uj o sub) (shape e:Int) (r:Mr):Du sub shape e (Cs o r)=Cs o (Du sub shape e r):=by
 unfold Du
 rw[show Bs (Cs o r) e=Bs r e from rfl,show A5 (Cs o r) e=A5 r e from rfl,Vs]
 simp only[show ∀x,(Cs o x).at_=x.at_ from fun _=>rfl,show ∀x,(Cs o x).plan=x.plan from fun _=>rfl]
 split
 ·rfl
 split
 ·rfl
 split
 ·rfl
 split
 ·rfl
 split
 ·exact Aeh hs _ _ _ _
 ·exact Aad o _ _ _ _
theorem Vt {o:List Ev} {D:Nat} (hs:Uj o (Jg D)) (shape e:Int) (r:Mr):Hq D shape e (Cs o r)=Cs o (Hq D shape e r):=by
 rw[Mx,Mx]
 exact S6 o (fun r=>Ahi hs shape e r) e _ r
theorem Aae (o:List Ev): ∀D,Uj o (Jg D)
 |0=>fun _ _ _ _=>rfl
 |D+1=>fun v f n s=>by
  simp only[Jg]
  rw[show (Cs o v).at_=v.at_ from rfl,Ly,Vt (Aae o D)]
  split<;>rename_i h
  ·rw[if_pos (show (Hq D f.msg (v.at_+n) (Ag v (E2 f n))).fail.kind=0 from h),Ly]
  ·rw[if_neg (show¬(Hq D f.msg (v.at_+n) (Ag v (E2 f n))).fail.kind=0 from h)]
theorem Aei (o:List Ev) (D:Nat) (shape e:Int) (r:Mr):Hq D shape e (Cs o r)=Cs o (Hq D shape e r):=Vt (Aae o D) shape e r
/-! ### Where a message ends -/
theorem Ac7 {step:Mr→Mr} (hs:S4 step) {e:Int} (ht: ∀r:Mr,r.at_≤(r.s.length:Int)→r.fail.kind=0→(step r).fail.kind=0→(step r).at_≤e): ∀(n:Nat) (r:Mr),Lu r≤n→r.at_≤(r.s.length:Int)→r.at_≤e→r.fail.kind=0→(E6 (Lg e) step (Lu r) r).fail.kind=0→(E6 (Lg e) step (Lu r) r).at_=e:=by
 intro n
 induction n with
 |zero=>intro r hn hl _ h0;simp only[Lu,if_pos h0] at hn;omega
 |succ n ih=>
  intro r hn hl he h0 hk
  by_cases hg:r.at_<e
  ·have hi:=(LInv.refl (step:=step) (e:=e) hl).go hs hg h0
   rw[←hi.1.run] at hk ⊢
   by_cases h1:(step r).fail.kind=0
   ·have ha:=hi.1.at_ h1
    exact ih _ Q2 ha.2 (ht r hl h0 h1) h1 hk
   ·rw[C7 (by simp[Lg,h1])] at hk
    exact(h1 hk).elim
  ·rw[C7 (by simp[Lg];omega)];omega
theorem Yx {r:Mr} {e:Int} (h0:r.fail.kind=0) (hl:r.at_≤(r.s.length:Int)) (hk:(Az r e).fail.kind=0):(Az r e).at_≤e:=by
 have:=D9 (e:=e) h0
 rw[hk] at this
 exact((E3 hl).2.1 (by simpa using this)).2
theorem S7 {r:Mr} {f:Fld} {w e:Int} (h0:r.fail.kind=0) (hl:r.at_≤(r.s.length:Int)) (hk:(Bn r f w e).fail.kind=0):(Bn r f w e).at_≤e:=by
 have hv:(E1 r w e).fail.kind=0→(E1 r w e).at_≤e:=fun h=>by
  unfold E1 at h ⊢
  split
  ·rename_i hw
   rw[if_pos hw] at h
   unfold G1 at h ⊢
   split
   ·rename_i h2;rw[if_pos h2] at h;exact(Cb _ _ _ h).elim
   ·rename_i h2
    rw[if_neg h2] at h
    split
    ·show r.at_+Ak w≤e;omega
    ·rename_i h3;rw[if_neg h3] at h;exact(Cb _ _ _ h).elim
  ·rename_i hw
   rw[if_neg hw] at h
   exact Yx h0 hl h
 unfold Bn at hk ⊢
 split
 ·rename_i h;rw[if_pos h] at hk;exact hv hk
 ·rename_i h;rw[if_neg h] at hk;exact hv hk
def Aj0 (sub:Mr→Fld→Int→Int→Mr):Prop:= ∀(v:Mr) (f:Fld) (n s:Int),v.at_≤(v.s.length:Int)→v.fail.kind=0→0≤n→(sub v f n s).fail.kind=0→(sub v f n s).at_=v.at_+n
theorem Aej {r:Mr} {f:Fld} {n:Int} (hk:(Ci r f n).fail.kind=0):(Ci r f n).at_=r.at_+n:=by
 unfold Ci at hk ⊢
 split
 ·rename_i h;rw[if_pos h] at hk;exact(Cb _ _ _ hk).elim
 rename_i h;rw[if_neg h] at hk
 split
 ·rename_i h;rw[if_pos h] at hk;exact(Cb _ _ _ hk).elim
 rename_i h;rw[if_neg h] at hk
 split
 ·rename_i h;rw[if_pos h] at hk;exact(Cb _ _ _ hk).elim
 ·rfl
theorem Abo {sub:Mr→Fld→Int→Int→Mr} (ht:Aj0 sub) {r:Mr} {f:Fld} {known:Bool} {e:Int} (h0:r.fail.kind=0) (hl:r.at_≤(r.s.length:Int)) (hk:(Bt sub r f known e).fail.kind=0):(Bt sub r f known e).at_≤e:=by
 have hv:=E3 (e:=e) hl
 have hu:=My r e
 unfold Bt at hk ⊢
 split
 ·rename_i h;rw[if_pos h] at hk;exact Yx h0 hl hk
 rename_i hok;rw[if_neg hok] at hk
 have hok:Bs r e=true:=by simpa using hok
 have hvk:(Az r e).fail.kind=0:=by rw[D9 h0] at hok;simpa using hok
 have ha:=hv.1.1.at_ hvk
 have hs:=congrArg List.length hv.1.1.s
 split
 ·rename_i h;rw[if_pos h] at hk;exact(Cb _ _ _ hk).elim
 rename_i hn;rw[if_neg hn] at hk
 split
 ·rename_i h;rw[if_pos h] at hk
  split
  ·rename_i h2;rw[if_pos h2] at hk;exact(Cb _ _ _ hk).elim
  ·show (Az r e).at_+A5 r e≤e;omega
 rename_i h;rw[if_neg h] at hk
 split
 ·rename_i h2;rw[if_pos h2] at hk
  rw[ht _ _ _ _ (by omega) hvk hu.1 hk];omega
 rename_i h2;rw[if_neg h2] at hk
 split
 ·rename_i h3;rw[if_pos h3] at hk
  have:=Ac7 (K7 f (Ba f.kind) ((Az r e).at_+A5 r e)) (fun r hl h0 hk=>S7 h0 hl hk) _ (Az r e) (Nat.le_refl _) (by omega) (by omega) hvk hk
  show (Kn (Az r e) f ((Az r e).at_+A5 r e)).at_≤e
  unfold Kn;rw[this];omega
 ·rename_i h3;rw[if_neg h3] at hk
  rw[Aej hk];omega
theorem Xr {sub:Mr→Fld→Int→Int→Mr} (ht:Aj0 sub) {shape e:Int} {r:Mr} (h0:r.fail.kind=0) (hl:r.at_≤(r.s.length:Int)) (hk:(Du sub shape e r).fail.kind=0):(Du sub shape e r).at_≤e:=by
 have hv:=E3 (e:=e) hl
 unfold Du at hk ⊢
 split
 ·rename_i h;rw[if_pos h] at hk;exact Yx h0 hl hk
 rename_i hok;rw[if_neg hok] at hk
 have hok:Bs r e=true:=by simpa using hok
 have hvk:(Az r e).fail.kind=0:=by rw[D9 h0] at hok;simpa using hok
 have ha:=hv.1.1.at_ hvk
 have hs:=congrArg List.length hv.1.1.s
 split
 ·rename_i h;rw[if_pos h] at hk;exact(Cb _ _ _ hk).elim
 rename_i h;rw[if_neg h] at hk
 split
 ·rename_i h;rw[if_pos h] at hk;exact(Cb _ _ _ hk).elim
 rename_i h;rw[if_neg h] at hk
 split
 ·rename_i h;rw[if_pos h] at hk;exact(Cb _ _ _ hk).elim
 rename_i h;rw[if_neg h] at hk
 split
 ·rename_i h;rw[if_pos h] at hk;exact Abo ht hvk (by omega) hk
 ·rename_i h;rw[if_neg h] at hk;exact S7 hvk (by omega) hk
theorem Ahj {D:Nat} (ht:Aj0 (Jg D)) {shape e:Int} {r:Mr} (hl:r.at_≤(r.s.length:Int)) (he:r.at_≤e) (h0:r.fail.kind=0) (hk:(Hq D shape e r).fail.kind=0):(Hq D shape e r).at_=e:=by
 rw[Mx] at hk ⊢
 exact Ac7 (Lx D shape e) (fun r hl h0 hk=>Xr ht h0 hl hk) _ r (Nat.le_refl _) hl he h0 hk
theorem Abp: ∀D,Aj0 (Jg D)
 |0=>fun v f n s _ _ _ hk=>(Cb _ _ _ hk).elim
 |D+1=>fun v f n s hl h0 hn hk=>by
  have hm:=Ahj (Abp D) (shape:=f.msg) (e:=v.at_+n) (r:=Ag v (E2 f n)) hl (by show v.at_≤v.at_+n;omega) h0
  simp only[Jg] at hk ⊢
  split
  ·rename_i h;exact hm h
  ·rename_i h;rw[if_neg h] at hk;exact hm hk
theorem Yy {D:Nat} {shape e:Int} {r:Mr} (hl:r.at_≤(r.s.length:Int)) (he:r.at_≤e) (h0:r.fail.kind=0) (hk:(Hq D shape e r).fail.kind=0):(Hq D shape e r).at_=e:=Ahj (Abp D) hl he h0 hk
/-! ### Whole inputs -/
def mr0 (p:Pln) (s:List UInt8) (a:Int):Mr:=⟨p,s,a,[],ev0⟩
def D0 (n:Int):Ev:=⟨1,0,0,n,[],0,0⟩
def frameEndEv:Ev:=⟨8,0,0,0,[],0,0⟩
def Ahk (a:Int):Ev:=⟨9,0,0,0,[],0,a⟩
def maxI:Int:=9223372036854775807
def Lz (r:Mr):Mr:=Hq (Int.toNat (r.plan.deep-1)) r.plan.root ((Az r maxI).at_+A5 r maxI) (Ag (Az r maxI) (D0 (A5 r maxI)))
def De (r:Mr):Mr:=
 if Bs r maxI=false then Az r maxI
 else if r.plan.most<A5 r maxI then Cw (Az r maxI) 7 r.at_
 else if (Lz r).fail.kind=0 then Ag (Lz r) frameEndEv else Lz r
theorem Qy {r:Mr} (hl:r.at_≤(r.s.length:Int)) (h0:r.fail.kind=0):Adv1 r (De r):=by
 obtain ⟨hv,hv2,hv3⟩:=E3 (e:=maxI) hl
 unfold De
 split
 ·exact hv
 ·rename_i hok
  have hok:Bs r maxI=true:=by simpa using hok
  have hk:(Az r maxI).fail.kind=0:=by rw[D9 h0] at hok;simpa using hok
  have ha:=hv.1.at_ hk
  have hs:=congrArg List.length hv.1.s
  have hl':(Az r maxI).at_≤((Az r maxI).s.length:Int):=by omega
  have hr:=(Adv.refl (Az r maxI) hl').b
  have hm0:AdvB 0 (Ag (Az r maxI) (D0 (A5 r maxI))) (Lz r):=(Yw (r:=Ag (Az r maxI) (D0 (A5 r maxI))) hl').b
  have hm:AdvB (0+1+0) (Az r maxI) (Lz r):=(hr.tell (D0 (A5 r maxI))).trans hk hm0
  split
  ·exact hv.after hv3 hk (hr.failed _ _) (by decide)
  split
  ·exact hv.after hv3 hk (hm.tell _) (by decide)
  ·exact hv.after hv3 hk hm (by decide)
structure Wh where
 r:Mr
 ends:List Int
def Ae4 (w:Wh):Bool:=Lg (w.r.s.length:Int) w.r
def Ga (w:Wh):Wh:=⟨De w.r,if (De w.r).fail.kind=0 then w.ends++[(De w.r).at_] else w.ends⟩
def Aj1 (w:Wh):Wh:=E6 Ae4 Ga (Lu w.r) w
def wh0 (p:Pln) (s:List UInt8):Wh:=⟨mr0 p s 0,[0]⟩
def G4 (p:Pln) (s:List UInt8):Wh:=Aj1 (wh0 p s)
def E7 (p:Pln) (s:List UInt8):List Ev:=(G4 p s).r.out++[if (G4 p s).r.fail.kind=0 then Ahk (s.length:Int) else (G4 p s).r.fail]
structure WInv (w0 q:Wh):Prop where
 adv:Adv w0.r q.r
 ends:q.r.fail.kind=0→(q.ends.length:Int)≤1+q.r.at_
 run:Aj1 q=Aj1 w0
theorem WInv.refl {p:Pln} {s:List UInt8} :WInv (wh0 p s) (wh0 p s):=⟨Adv.refl _ (by simp[wh0,mr0]),fun _=>by simp[wh0,mr0],rfl⟩
theorem WInv.room {p:Pln} {s:List UInt8} {q:Wh} (h:WInv (wh0 p s) q) (hk:q.r.fail.kind=0):q.r.s=s∧q.r.plan=p∧0≤q.r.at_∧q.r.at_≤(s.length:Int)∧(q.r.out.length:Int)+4*((s.length:Int)-q.r.at_)≤4*(s.length:Int)∧q.r.fail=ev0:=by
 have:=h.adv.at_ hk
 have hr:=h.adv.room hk
 refine⟨h.adv.s,h.adv.plan,this.1,this.2,?_,h.adv.fail hk⟩
 simpa [wh0,mr0] using hr
theorem WInv.next {p:Pln} {s:List UInt8} {q x:Wh} (h:WInv (wh0 p s) q) (hg:q.r.at_<(s.length:Int)) (hk:q.r.fail.kind=0) (hx:Ga q=x):WInv (wh0 p s) x∧Lu x.r<Lu q.r:=by
 subst hx
 obtain ⟨h1,h2,h3,h4,h5,_⟩:=h.room hk
 have hl:q.r.at_≤(q.r.s.length:Int):=by rw[h1];exact h4
 have hf:=Qy hl hk
 have hgo:Ae4 q=true:=by simp[Ae4,Lg,h1,hg,hk]
 refine⟨⟨h.adv.trans hk hf.1,fun hk2=>?_,?_⟩,R9 hl hk hf⟩
 ·have:=h.ends hk
  have:=hf.2 hk2
  have hk3:(De q.r).fail.kind=0:=hk2
  simp only[Ga,if_pos hk3,List.length_append,List.length_cons,List.length_nil];omega
 ·rw[←h.run]
  refine(Yu (fun w:Wh=>w.r.at_≤(w.r.s.length:Int)∨w.r.fail.kind≠0) (fun w=>Lu w.r) (fun a hi hg=>?_) (.inl hl) hgo).symm
  have hk':a.r.fail.kind=0:=Kb hg
  have hl:a.r.at_≤(a.r.s.length:Int):=hi.resolve_right (fun h=>h hk')
  have hf:=Qy hl hk'
  refine⟨?_,R9 hl hk' hf⟩
  by_cases hk2:(De a.r).fail.kind=0
  ·left
   show (De a.r).at_≤((De a.r).s.length:Int)
   rw[hf.1.s];exact(hf.1.at_ hk2).2
  ·exact .inr hk2
theorem WInv.stop {w0 q:Wh} (h:WInv w0 q) (hg:Ae4 q=false):Aj1 w0=q:=by rw[←h.run];exact C7 hg
theorem WInv.end_ {p:Pln} {s:List UInt8} {q:Wh} (h:WInv (wh0 p s) q) (hg: ¬q.r.at_<(s.length:Int)):G4 p s=q:=h.stop (by
 have:q.r.s=s:=h.adv.s
 simp[Ae4,Lg,this];omega)
theorem WInv.leave {p:Pln} {s:List UInt8} {q x:Wh} (h:WInv (wh0 p s) q) (hg:q.r.at_<(s.length:Int)) (hk:q.r.fail.kind=0) (hx:Ga q=x) (hx2:x.r.fail.kind≠0):G4 p s=x:=
 (h.next hg hk hx).1.stop (by simp[Ae4,Lg,hx2])
theorem Ahm {s:List UInt8} {a e e':Int} (he:(s.length:Int)<e) (he':(s.length:Int)<e'): ∀(f:Nat) (k u:Int),a+k≤(s.length:Int)→vwA s a e f k u=vwA s a e' f k u
 |0,k,u,_=>rfl
 |f+1,k,u,h=>by
  rw[vwA,vwA,if_neg (show¬e≤a+k by omega),if_neg (show¬e'≤a+k by omega)]
  split
  ·rfl
  split
  ·rfl
  split
  ·rfl
  ·exact Ahm he he' f (k+1) _ (by omega)
theorem Yz {s:List UInt8} {a e e':Int} (he:(s.length:Int)<e) (he':(s.length:Int)<e'):Ae s a e=Ae s a e':=by
 unfold Ae
 split
 ·rename_i hw
  have:=Aw hw
  rw[Ahm he he' 10 0 0 (by omega)]
 ·rfl
def Xs (p:Pln) (shape:Int) (s:List UInt8) (a e deep:Int):Bool:=Br p&&Ai shape 0 ((p.shapes.length:Int)-1)&&Ai a 0 (s.length:Int)&&decide (a≤e)&&Ai deep 1 p.deep
def Bw (p:Pln) (shape:Int) (s:List UInt8) (a e deep:Int):Mr:=if Xs p shape s a e deep then Hq (Int.toNat (p.deep-deep)) shape e (mr0 p s a) else mr0 p s a
theorem Ap1 {s:List UInt8} (hl:s.length≤4000) (a:Int):Ae s a 8000=Ae s a maxI:=Yz (by omega) (by unfold maxI;omega)
theorem Vu {p:Pln} {s:List UInt8} {a:Int} {o:List Ev} (hl:s.length≤4000):Bs ⟨p,s,a,o,ev0⟩ maxI=decide ((Ae s a 8000).2.2=0):=by rw[Ap1 hl];rfl
theorem Se {p:Pln} {s:List UInt8} {a:Int} {o:List Ev} (hl:s.length≤4000) (h:(Ae s a 8000).2.2=0):Bs ⟨p,s,a,o,ev0⟩ maxI=true∧Az ⟨p,s,a,o,ev0⟩ maxI=⟨p,s,(Ae s a 8000).2.1,o,ev0⟩∧A5 ⟨p,s,a,o,ev0⟩ maxI=(Ae s a 8000).1:=by
 have hok:Bs ⟨p,s,a,o,ev0⟩ maxI=true:=by rw[Vu hl];simpa using h
 refine⟨hok,?_,?_⟩
 ·rw[Pw hok,Ap1 hl];rfl
 ·unfold A5;rw[if_pos hok,Ap1 hl]
theorem Ape {p:Pln} {s:List UInt8} {a:Int} {o:List Ev} {e:List Int} (hl:s.length≤4000) (h: ¬(Ae s a 8000).2.2=0):Ga ⟨⟨p,s,a,o,ev0⟩,e⟩=⟨⟨p,s,a,o,Bj (Ae s a 8000).2.2 (Ae s a 8000).2.1⟩,e⟩:=by
 have hok:Bs ⟨p,s,a,o,ev0⟩ maxI=false:=by rw[Vu hl];simpa using h
 have hv:=J9 hok
 have hf:De ⟨p,s,a,o,ev0⟩=Az ⟨p,s,a,o,ev0⟩ maxI:=by unfold De;rw[if_pos hok]
 unfold Ga
 simp only[hf,hv]
 rw[if_neg (Cb _ _ _),Ap1 hl]
 rfl
theorem Ans {p:Pln} {s:List UInt8} {a:Int} {o:List Ev} {e:List Int} (hl:s.length≤4000) (h:(Ae s a 8000).2.2=0) (hm:p.most<(Ae s a 8000).1):Ga ⟨⟨p,s,a,o,ev0⟩,e⟩=⟨⟨p,s,(Ae s a 8000).2.1,o,Bj 7 a⟩,e⟩:=by
 obtain ⟨h1,h2,h3⟩:=Se (p:=p) (o:=o) hl h
 have hf:De ⟨p,s,a,o,ev0⟩=Cw ⟨p,s,(Ae s a 8000).2.1,o,ev0⟩ 7 a:=by
  unfold De;rw[if_neg (by simp[h1]),h3,if_pos hm,h2]
 unfold Ga
 simp only[hf]
 rw[if_neg (Cb _ _ _)]
 rfl
theorem Sf {p:Pln} {s:List UInt8} {a:Int} {o:List Ev} (hp:Br p=true) (hl:s.length≤4000) (h:(Ae s a 8000).2.2=0):Lz ⟨p,s,a,o,ev0⟩=Cs (o++[D0 (Ae s a 8000).1]) (Bw p p.root s (Ae s a 8000).2.1 ((Ae s a 8000).2.1+(Ae s a 8000).1) 1):=by
 obtain ⟨h1,h2,h3⟩:=Se (p:=p) (o:=o) hl h
 have hw:=Fn h
 have hb:=J1 s a 8000
 have ht:=B8 hp
 have hr:Xs p p.root s (Ae s a 8000).2.1 ((Ae s a 8000).2.1+(Ae s a 8000).1) 1=true:=by
  simp only[Xs,Ai,Bool.and_eq_true,decide_eq_true_eq]
  exact⟨⟨⟨⟨hp,by omega,by omega⟩,by omega,by omega⟩,by omega⟩,by omega,by omega⟩
 unfold Lz Bw
 rw[if_pos hr,h2,h3,←Aei]
 simp[Ag,Cs,mr0]
theorem Apf {p:Pln} {s:List UInt8} {a:Int} {o:List Ev} {e:List Int} (hp:Br p=true) (hl:s.length≤4000) (h:(Ae s a 8000).2.2=0) (hm: ¬p.most<(Ae s a 8000).1) (hk: ¬(Bw p p.root s (Ae s a 8000).2.1 ((Ae s a 8000).2.1+(Ae s a 8000).1) 1).fail.kind=0):
  Ga ⟨⟨p,s,a,o,ev0⟩,e⟩=⟨Cs (o++[D0 (Ae s a 8000).1]) (Bw p p.root s (Ae s a 8000).2.1 ((Ae s a 8000).2.1+(Ae s a 8000).1) 1),e⟩:=by
 obtain ⟨h1,h2,h3⟩:=Se (p:=p) (o:=o) hl h
 have hf:De ⟨p,s,a,o,ev0⟩=Lz ⟨p,s,a,o,ev0⟩:=by
  unfold De;rw[if_neg (by simp[h1]),h3,if_neg hm,Sf hp hl h,if_neg (show¬(Cs (o++[D0 (Ae s a 8000).1]) (Bw p p.root s (Ae s a 8000).2.1 ((Ae s a 8000).2.1+(Ae s a 8000).1) 1)).fail.kind=0 from hk)]
 unfold Ga
 simp only[hf,Sf hp hl h]
 rw[if_neg (show¬(Cs (o++[D0 (Ae s a 8000).1]) (Bw p p.root s (Ae s a 8000).2.1 ((Ae s a 8000).2.1+(Ae s a 8000).1) 1)).fail.kind=0 from hk)]
theorem Vv {p:Pln} {shape:Int} {s:List UInt8} {a e d:Int} (hl:a≤(s.length:Int)):Adv (mr0 p s a) (Bw p shape s a e d):=by
 unfold Bw;split
 ·exact Yw (r:=mr0 p s a) hl
 ·exact Adv.refl (mr0 p s a) hl
theorem Apg {p:Pln} {s:List UInt8} {a:Int} {o:List Ev} {e:List Int} (hp:Br p=true) (hl:s.length≤4000) (h:(Ae s a 8000).2.2=0) (hm: ¬p.most<(Ae s a 8000).1) (hk:(Bw p p.root s (Ae s a 8000).2.1 ((Ae s a 8000).2.1+(Ae s a 8000).1) 1).fail.kind=0):
  Ga ⟨⟨p,s,a,o,ev0⟩,e⟩=⟨⟨p,s,(Ae s a 8000).2.1+(Ae s a 8000).1,((o++[D0 (Ae s a 8000).1])++(Bw p p.root s (Ae s a 8000).2.1 ((Ae s a 8000).2.1+(Ae s a 8000).1) 1).out)++[frameEndEv],ev0⟩,e++[(Ae s a 8000).2.1+(Ae s a 8000).1]⟩:=by
 obtain ⟨h1,h2,h3⟩:=Se (p:=p) (o:=o) hl h
 have hw:=Fn h
 have hb:=J1 s a 8000
 have hf:De ⟨p,s,a,o,ev0⟩=Ag (Lz ⟨p,s,a,o,ev0⟩) frameEndEv:=by
  unfold De;rw[if_neg (by simp[h1]),h3,if_neg hm,Sf hp hl h,if_pos (show (Cs (o++[D0 (Ae s a 8000).1]) (Bw p p.root s (Ae s a 8000).2.1 ((Ae s a 8000).2.1+(Ae s a 8000).1) 1)).fail.kind=0 from hk)]
 have hadv:=Vv (p:=p) (shape:=p.root) (s:=s) (a:=(Ae s a 8000).2.1) (e:=(Ae s a 8000).2.1+(Ae s a 8000).1) (d:=1) (by omega)
 have hat:(Bw p p.root s (Ae s a 8000).2.1 ((Ae s a 8000).2.1+(Ae s a 8000).1) 1).at_=(Ae s a 8000).2.1+(Ae s a 8000).1:=by
  have hfr:=Sf (o:=o) hp hl h
  have hk2:(Lz ⟨p,s,a,o,ev0⟩).fail.kind=0:=by rw[hfr];exact hk
  have hat2:(Lz ⟨p,s,a,o,ev0⟩).at_=(Az ⟨p,s,a,o,ev0⟩ maxI).at_+A5 ⟨p,s,a,o,ev0⟩ maxI:=by
   refine Yy ?_ ?_ ?_ hk2
   ·rw[h2];show (Ae s a 8000).2.1≤(s.length:Int);omega
   ·rw[h2,h3];show (Ae s a 8000).2.1≤(Ae s a 8000).2.1+(Ae s a 8000).1;omega
   ·rw[h2];rfl
  rw[hfr,h2,h3] at hat2
  exact hat2
 have hfa:(Bw p p.root s (Ae s a 8000).2.1 ((Ae s a 8000).2.1+(Ae s a 8000).1) 1).fail=ev0:=hadv.fail hk
 have hpl:(Bw p p.root s (Ae s a 8000).2.1 ((Ae s a 8000).2.1+(Ae s a 8000).1) 1).plan=p:=hadv.plan
 have hs:(Bw p p.root s (Ae s a 8000).2.1 ((Ae s a 8000).2.1+(Ae s a 8000).1) 1).s=s:=hadv.s
 unfold Ga
 simp only[hf,Sf hp hl h]
 rw[if_pos (show (Ag (Cs (o++[D0 (Ae s a 8000).1]) (Bw p p.root s (Ae s a 8000).2.1 ((Ae s a 8000).2.1+(Ae s a 8000).1) 1)) frameEndEv).fail.kind=0 from hk)]
 simp only[Ag,Cs,hat,hfa,hpl,hs]
def K8 (p:Pln) (s:List UInt8):List Ev:=if Br p=true∧s.length≤4000 then E7 p s else []
theorem Aek {p:Pln} {s:List UInt8} (hs:s.length≤4000):(E7 p s).length≤16001:=by
 suffices h:((G4 p s).r.out.length:Int)≤16000 by
  unfold E7;rw[List.length_append];simp only[List.length_cons,List.length_nil];omega
 have key: ∀(k:Nat) (w:Wh),w.r.at_≤(w.r.s.length:Int)→Adv w.r (E6 Ae4 Ga k w).r:=by
  intro k
  induction k with
  |zero=>intro w h;exact Adv.refl _ h
  |succ k ih=>
   intro w h
   unfold E6
   cases hg:Ae4 w with
   |false=>exact Adv.refl _ h
   |true=>
    have hk:w.r.fail.kind=0:=Kb hg
    have hf:=Qy h hk
    simp only[if_true]
    by_cases hk2:(De w.r).fail.kind=0
    ·exact hf.1.trans hk2 (ih (Ga w) (by show (De w.r).at_≤((De w.r).s.length:Int);rw[hf.1.s];exact(hf.1.at_ hk2).2))
    ·have:E6 Ae4 Ga k (Ga w)=Ga w:=C7 (by
      cases hg':Ae4 (Ga w) with
      |false=>rfl
      |true=>exact(hk2 (Kb hg')).elim)
     rw[this];exact hf.1
 have:=(key (Lu (wh0 p s).r) (wh0 p s) (by simp[wh0,mr0])).most
 have e:(G4 p s)=E6 Ae4 Ga (Lu (wh0 p s).r) (wh0 p s):=rfl
 rw[e]
 simp only[wh0,mr0,List.length_nil] at this ⊢
 omega
theorem Ahn (p:Pln) (shape:Int) (s:List UInt8) (at_:Int) (end_:Int) (deep:Int) (hp1:s.length≤1048576) (hp2:end_≤9223372036854775807):Fun Tryz.prog 21 [.agg (Fh p),vI shape,vT s,vI at_,vI end_,vI deep] [] (.tup [vO 0,.agg (cEv (Bw p shape s at_ end_ deep).fail)]) [.lst .ev (Bw p shape s at_ end_ deep).out]:=by
 have hN:Bk=274877906944:=rfl
 refine Ar Tryz.func21 Q4 Q4 (w:=let zi:Int→C:= .int .i64;let z1:List C:=[zi 0,zi 0,.int .u64 0,zi 0,.str [],zi 0,zi 0];let z4:=(p.shapes.length:Int)-1;let z5:=Bw p shape s at_ end_ deep;let z6:=Ai at_ 0 (s.length:Int);let z8:=([]:List Ev);let z7:=(⟨p,s,at_,z8,(⟨0,0,0,0,[],0,0⟩:Ev)⟩:Mr);let z2:=Hq (Int.toNat ((z7).plan.deep-deep)) shape end_ z7;let z9:=Ai deep 1 p.deep;let z10:List Blk:=[.cells (Eh 2 z2),.dead,.lst .ev z2.out];let z11:=Ai shape 0 z4;let z12:S:= .tup [vO 0,.agg (cEv z5.fail)];let z3:=Lf (.tup [vO 0,.agg z1]) z12 [.lst .ev z8] [.lst .ev z5.out];(.seg [.call [] (.v (vB (Br p))) []] (.br (.seg [.ty .ev] (.leaf () [2])) (.seg [.as 24 (.v (vI z4)),.call [] (.v (vB z11)) []] (.br (.seg [.ty .ev] (.leaf () [2])) (.seg [.call [] (.v (vB z6)) []] (.br (.seg [.ty .ev] (.leaf () [2])) (.br (.seg [.ty .ev] (.leaf () [2])) (.seg [.call [] (.v (vB z9)) []] (.br (.seg [.ty .ev] (.leaf () [2])) (.seg [.at 5,.mk 2 6 .ev,.call [2,3] (.tup []) z10,.ord [(1,true),(2,true),(3,true),(4,true),(6,true),(7,true),(8,true),(9,true),(0,false),(5,false),(10,true),(11,false)] [4],.ty .ev,.ty .ev] (.leaf () [6])))))))))),(Fp 42 [.agg (Fh p)] [] (.v (vB (Br p))) [])∧Bc (!(Br p)) z3 ((wI z4)∧(Fp 71 [vI shape,vI 0,vI z4] [] (.v (vB z11)) [])∧Bc (!z11) z3 ((Fp 71 [vI at_,vI 0,vI (s.length:Int)] [] (.v (vB z6)) [])∧Bc (!z6) z3 (Bc (decide (end_<at_)) z3 ((Fp 71 [vI deep,vI 1,vI p.deep] [] (.v (vB z9)) [])∧Bc (!z9) z3 ((Fp 72 [vP 0,vI shape,vI end_,vI deep] [.cells (.seq .shp p.shapes::zi p.root::zi p.deep::zi p.most:: .str s::zi at_:: .own 1::z1),.lst .ev z8] (.tup []) z10)∧(z8.length+z2.out.length≤Bk)∧Lf (.tup [vO 0,.agg (cEv z2.fail)]) z12 [.lst .ev (z8++z2.out)] [.lst .ev z5.out]))))))) Q4 ?_
 refine⟨(Ue p),fun h1=>have q1:=Aq h1;?_,fun h1=>have q1:=Ap h1;have p1:=B8 q1;?_⟩
 refine zD ((Bw p shape s at_ end_ deep).fail) (⟨0,0,0,0,[],0,0⟩:Ev) ((Bw p shape s at_ end_ deep).out) ([]:List Ev) (fun hm1 hm2=>⟨(congrArg S.tup (Ac rfl (Ac (congrArg V.agg (Ac (congrArg (C.int .i64) ?_) (Ac (congrArg (C.int .i64) ?_) (Ac (congrArg (C.int .u64) ?_) (Ac (congrArg (C.int .i64) ?_) (Ac (congrArg C.str ?_) (Ac (congrArg (C.int .i64) ?_) (Ac (congrArg (C.int .i64) ?_) rfl)))))))) rfl))),(by rw[hm2]<;>rfl)⟩) ?_ ?_
 rotate_left 9
 have hpt:=B8 q1
 refine⟨(Af Q2 Q2),(By _ _ _),fun h2=>have q2:=Aq h2;have p2:=A7 q2;?_,fun h2=>have q2:=Ap h2;have p2:=Aw q2;?_⟩
 refine zD ((Bw p shape s at_ end_ deep).fail) (⟨0,0,0,0,[],0,0⟩:Ev) ((Bw p shape s at_ end_ deep).out) ([]:List Ev) (fun hm1 hm2=>⟨(congrArg S.tup (Ac rfl (Ac (congrArg V.agg (Ac (congrArg (C.int .i64) ?_) (Ac (congrArg (C.int .i64) ?_) (Ac (congrArg (C.int .u64) ?_) (Ac (congrArg (C.int .i64) ?_) (Ac (congrArg C.str ?_) (Ac (congrArg (C.int .i64) ?_) (Ac (congrArg (C.int .i64) ?_) rfl)))))))) rfl))),(by rw[hm2]<;>rfl)⟩) ?_ ?_
 rotate_left 9
 refine⟨(By _ _ _),fun h3=>have q3:=Aq h3;have p3:=A7 q3;?_,fun h3=>have q3:=Ap h3;have p3:=Aw q3;?_⟩
 refine zD ((Bw p shape s at_ end_ deep).fail) (⟨0,0,0,0,[],0,0⟩:Ev) ((Bw p shape s at_ end_ deep).out) ([]:List Ev) (fun hm1 hm2=>⟨(congrArg S.tup (Ac rfl (Ac (congrArg V.agg (Ac (congrArg (C.int .i64) ?_) (Ac (congrArg (C.int .i64) ?_) (Ac (congrArg (C.int .u64) ?_) (Ac (congrArg (C.int .i64) ?_) (Ac (congrArg C.str ?_) (Ac (congrArg (C.int .i64) ?_) (Ac (congrArg (C.int .i64) ?_) rfl)))))))) rfl))),(by rw[hm2]<;>rfl)⟩) ?_ ?_
 rotate_left 9
 refine dsp (fun h4 p4=>?_) fun h4 p4=>?_
 refine zD ((Bw p shape s at_ end_ deep).fail) (⟨0,0,0,0,[],0,0⟩:Ev) ((Bw p shape s at_ end_ deep).out) ([]:List Ev) (fun hm1 hm2=>⟨(congrArg S.tup (Ac rfl (Ac (congrArg V.agg (Ac (congrArg (C.int .i64) ?_) (Ac (congrArg (C.int .i64) ?_) (Ac (congrArg (C.int .u64) ?_) (Ac (congrArg (C.int .i64) ?_) (Ac (congrArg C.str ?_) (Ac (congrArg (C.int .i64) ?_) (Ac (congrArg (C.int .i64) ?_) rfl)))))))) rfl))),(by rw[hm2]<;>rfl)⟩) ?_ ?_
 rotate_left 9
 refine⟨(By _ _ _),fun h5=>have q5:=Aq h5;have p5:=A7 q5;?_,fun h5=>have q5:=Ap h5;have p5:=Aw q5;?_⟩
 refine zD ((Bw p shape s at_ end_ deep).fail) (⟨0,0,0,0,[],0,0⟩:Ev) ((Bw p shape s at_ end_ deep).out) ([]:List Ev) (fun hm1 hm2=>⟨(congrArg S.tup (Ac rfl (Ac (congrArg V.agg (Ac (congrArg (C.int .i64) ?_) (Ac (congrArg (C.int .i64) ?_) (Ac (congrArg (C.int .u64) ?_) (Ac (congrArg (C.int .i64) ?_) (Ac (congrArg C.str ?_) (Ac (congrArg (C.int .i64) ?_) (Ac (congrArg (C.int .i64) ?_) rfl)))))))) rfl))),(by rw[hm2]<;>rfl)⟩) ?_ ?_
 rotate_left 9
 refine zD ((Bw p shape s at_ end_ deep).fail) ((Hq (Int.toNat (((⟨p,s,at_,([]:List Ev),(⟨0,0,0,0,[],0,0⟩:Ev)⟩:Mr)).plan.deep-deep)) shape end_ (⟨p,s,at_,([]:List Ev),(⟨0,0,0,0,[],0,0⟩:Ev)⟩:Mr)).fail) ((Bw p shape s at_ end_ deep).out) (([]:List Ev)++(Hq (Int.toNat (((⟨p,s,at_,([]:List Ev),(⟨0,0,0,0,[],0,0⟩:Ev)⟩:Mr)).plan.deep-deep)) shape end_ (⟨p,s,at_,([]:List Ev),(⟨0,0,0,0,[],0,0⟩:Ev)⟩:Mr)).out) (fun hm1 hm2=>⟨(Aqb (⟨p,s,at_,([]:List Ev),(⟨0,0,0,0,[],0,0⟩:Ev)⟩:Mr) _ _ _ Q27 Q27 Q27 Q27 Q27 Q2 (by simp_all) Q27),(Nat.le_trans (Nat.le_of_eq (Nat.zero_add _)) (Xq (by dsimp only;omega) (by simp only[List.length_nil];omega))),(congrArg S.tup (Ac rfl (Ac (congrArg V.agg (Ac (congrArg (C.int .i64) ?_) (Ac (congrArg (C.int .i64) ?_) (Ac (congrArg (C.int .u64) ?_) (Ac (congrArg (C.int .i64) ?_) (Ac (congrArg C.str ?_) (Ac (congrArg (C.int .i64) ?_) (Ac (congrArg (C.int .i64) ?_) rfl)))))))) rfl))),(by rw[hm2]<;>rfl)⟩) ?_ ?_
 rotate_left 9
 all_goals first|(simp_all[Bw,Xs,mr0,ev0,Ai];done)|(grind[Bw,Xs,mr0,ev0])|(grind[Bw,Xs,mr0,ev0,Ai])
structure Uk where
 out:List Ev
 places:List Int
 at_:Int
def Um (p:Pln) (s:List UInt8):Fam:=⟨Uk,fun q1=>[(1,.v (vT s)),(2,.v (vP 0)),(6,.v (vO 1)),(7,.v (vO 2)),(8,.v (vI q1.at_))],fun q1=>[.cells (Fh p),.lst .ev q1.out,.lst .int q1.places],fun q1=>WInv (wh0 p s) ⟨⟨p,s,q1.at_,q1.out,ev0⟩,q1.places⟩,fun q1=>Lu ⟨p,s,q1.at_,q1.out,ev0⟩⟩
theorem Aqc (p:Pln) (s:List UInt8) (hp1:Br p=true) (hp2:s.length≤4000):Fun Tryz.prog 59 [.agg (Fh p),vT s] [] (.tup [vO 0,vO 1]) [.lst .ev (E7 p s),.lst .int (G4 p s).ends]:=by
 have hN:Bk=274877906944:=rfl
 have hpt:=B8 hp1
 refine Ar Tryz.func59 Q4 Q4 (w:=let z5:List Blk:=[.lst .ev (E7 p s),.lst .int (G4 p s).ends];let z6:S:= .tup [vO 0,vO 1];let z7:=(⟨9,0,0,0,[],0,(s.length:Int)⟩:Ev);let z8:=Um p s;(.seg [.ty .ev,.ty .int,.at 0,.keep [1,2,6,7,8],.sel [0,1,2]] (.loop z8 fun q1=>let z1:=Ae s q1.at_ 8000;.br (.seg [.call [] (.tup [.c (.int .u64 z1.1),vI z1.2.1,vI z1.2.2]) []] (.br (.seg [.call [] (.v (.agg (cEv (Bj z1.2.2 z1.2.1)))) [],.ty .ev,.ty .ev] (.leaf () [4,2])) (.seg [.as 40 (.v (.c (.int .u64 p.most)))] (.br (.seg [.call [] (.v (.agg (cEv (Bj 7 q1.at_)))) [],.ty .ev,.ty .ev] (.leaf () [4,2])) (.seg [.as 49 (.v (vI z1.1)),.ty .ev,.ty .ev,.as 63 (.v (vI (z1.2.1+z1.1))),.call [] (.tup [vO 0,.agg (cEv (Bw p p.root s z1.2.1 (z1.2.1+z1.1) 1).fail)]) [.lst .ev (Bw p p.root s z1.2.1 (z1.2.1+z1.1) 1).out],.ty .ev] (.br (.seg [.ty .ev,.ty .ev] (.leaf () [9,2])) (.seg [.ty .ev,.ty .ev,.as 84 (.v (vI (z1.2.1+z1.1))),.ty .int,.ty .int,.at 0,.keep [1,2,6,7,8],.sel [0,9,11]] (.next)))))))) (.seg [.ty .ev,.ty .ev] (.leaf () [4,2]))),z8.Has [(1,.v (vT s)),(2,.v (vP 0)),(6,.v (vO 1)),(7,.v (vO 2)),(8,.v (vI 0))] [.cells (Fh p),.lst .ev ([]:List Ev),.lst .int [0]]∧∀q1,z8.inv q1→(let z2:=Ae s q1.at_ 8000;let z4:=q1.out++[(⟨1,0,0,z2.1,[],0,0⟩:Ev)];let z3:=z4++(Bw p p.root s z2.2.1 (z2.2.1+z2.1) 1).out;Bc (decide (q1.at_<(s.length:Int))) ((Fp 112 [vT s,vI q1.at_,vI 8000] [] (.tup [.c (.int .u64 z2.1),vI z2.2.1,vI z2.2.2]) [])∧Bc (!decide (z2.2.2=0)) ((Fp 113 [vI z2.2.2,vI z2.2.1] [] (.v (.agg (cEv (Bj z2.2.2 z2.2.1)))) [])∧(q1.out.length+List.length [(Bj z2.2.2 z2.2.1)]≤Bk)∧Lf z6 z6 [.lst .ev (q1.out++[(Bj z2.2.2 z2.2.1)]),.lst .int q1.places] z5) ((wU (p.most))∧Bc (decide (p.most<z2.1)) ((Fp 113 [vI 7,vI q1.at_] [] (.v (.agg (cEv (Bj 7 q1.at_)))) [])∧(q1.out.length+List.length [(Bj 7 q1.at_)]≤Bk)∧Lf z6 z6 [.lst .ev (q1.out++[(Bj 7 q1.at_)]),.lst .int q1.places] z5) ((wI (z2.1))∧(q1.out.length+List.length [(⟨1,0,0,z2.1,[],0,0⟩:Ev)]≤Bk)∧(wI (z2.2.1+z2.1))∧(Fp 21 [.agg (Fh p),vI p.root,vT s,vI z2.2.1,vI (z2.2.1+z2.1),vI 1] [] (.tup [vO 0,.agg (cEv (Bw p p.root s z2.2.1 (z2.2.1+z2.1) 1).fail)]) [.lst .ev (Bw p p.root s z2.2.1 (z2.2.1+z2.1) 1).out])∧(z4.length+List.length (Bw p p.root s z2.2.1 (z2.2.1+z2.1) 1).out≤Bk)∧Bc (!decide ((Bw p p.root s z2.2.1 (z2.2.1+z2.1) 1).fail.kind=0)) ((z3.length+List.length [(Bw p p.root s z2.2.1 (z2.2.1+z2.1) 1).fail]≤Bk)∧Lf z6 z6 [.lst .ev (z3++[(Bw p p.root s z2.2.1 (z2.2.1+z2.1) 1).fail]),.lst .int q1.places] z5) ((z3.length+List.length [(⟨8,0,0,0,[],0,0⟩:Ev)]≤Bk)∧(wI (z2.2.1+z2.1))∧(q1.places.length+List.length [z2.2.1+z2.1]≤Bk)∧z8.Nxt q1 [(1,.v (vT s)),(2,.v (vP 0)),(6,.v (vO 1)),(7,.v (vO 2)),(8,.v (vI (z2.2.1+z2.1)))] [.cells (Fh p),.lst .ev (z3++[(⟨8,0,0,0,[],0,0⟩:Ev)]),.lst .int (q1.places++[z2.2.1+z2.1])])))) ((q1.out.length+List.length [z7]≤Bk)∧Lf z6 z6 [.lst .ev (q1.out++[z7]),.lst .int q1.places] z5)))) Q4 ?_
 refine⟨Cn (j:=(⟨([]:List Ev),[0],0⟩:Uk)) rfl rfl (by dsimp only[Um];exact WInv.refl),fun (q1:Uk) hq_q1=>?_⟩
 have hi_q1:WInv (wh0 p s) ⟨⟨p,s,q1.at_,q1.out,ev0⟩,q1.places⟩:=hq_q1
 have hrm:=hi_q1.room rfl
 dsimp only at hrm
 have hen:=hi_q1.ends rfl
 dsimp only at hen
 have hvb:=J1 s q1.at_ 8000
 refine dsp (fun h1 p1=>?_) fun h1 p1=>?_
 refine⟨(Vj _ _ _ Q2),fun h2=>have q2:=Aq h2;have p2:=of_decide_eq_false q2;?_,fun h2=>have q2:=Ap h2;have p2:=of_decide_eq_true q2;?_⟩
 refine⟨(C6 _ _),Q5,rfl,(Ac (congrArg (Blk.lst .ev) ?_) (Ac (congrArg (Blk.lst .int) ?_) rfl))⟩
 rotate_left 2
 have hw:=Fn p2
 have hra:((Bw p p.root s (Ae s q1.at_ 8000).2.1 ((Ae s q1.at_ 8000).2.1+(Ae s q1.at_ 8000).1) 1).out.length:Int)≤4*4000:=by have:=(Vv (p:=p) (shape:=p.root) (s:=s) (a:=(Ae s q1.at_ 8000).2.1) (e:=(Ae s q1.at_ 8000).2.1+(Ae s q1.at_ 8000).1) (d:=1) (by omega)).most;simp only[mr0,List.length_nil] at this;omega
 refine⟨(Bu Q2 Q2),dsp (fun h3 p3=>?_) fun h3 p3=>?_⟩
 refine⟨(C6 _ _),Q5,rfl,(Ac (congrArg (Blk.lst .ev) ?_) (Ac (congrArg (Blk.lst .int) ?_) rfl))⟩
 rotate_left 2
 refine⟨(Af Q2 Q2),Q5,(Af Q2 Q2),(Ahn p _ _ _ _ _ Q2 Q2),Q28,fun h4=>have q4:=Aq h4;have p4:=of_decide_eq_false q4;?_,fun h4=>have q4:=Ap h4;have p4:=of_decide_eq_true q4;?_⟩
 refine⟨Q28,rfl,(Ac (congrArg (Blk.lst .ev) ?_) (Ac (congrArg (Blk.lst .int) ?_) rfl))⟩
 rotate_left 2
 exact⟨Q28,(Af Q2 Q2),Q5,Be (j:=(⟨((q1.out++[(⟨1,0,0,(Ae s q1.at_ 8000).1,[],0,0⟩:Ev)])++(Bw p p.root s (Ae s q1.at_ 8000).2.1 ((Ae s q1.at_ 8000).2.1+(Ae s q1.at_ 8000).1) 1).out)++[(⟨8,0,0,0,[],0,0⟩:Ev)],q1.places++[(Ae s q1.at_ 8000).2.1+(Ae s q1.at_ 8000).1],_⟩:Uk)) rfl rfl (by dsimp only[Um];exact(hi_q1.next (by show q1.at_<_;omega) rfl (Apg hp1 hp2 (by assumption) (by assumption) (by assumption))).1) (by dsimp only[Um];exact(hi_q1.next (by show q1.at_<_;omega) rfl (Apg hp1 hp2 (by assumption) (by assumption) (by assumption))).2)⟩
 refine⟨Q5,rfl,(Ac (congrArg (Blk.lst .ev) ?_) (Ac (congrArg (Blk.lst .int) ?_) rfl))⟩
 rotate_left 2
 all_goals first|((have hw:=hi_q1.end_ (by show¬q1.at_<_;omega);first|(rw[E7,hw];simp[ev0,Ahk];done)|(rw[hw];done)))|((have hw:=hi_q1.leave (by show q1.at_<_;omega) rfl (Ape hp2 (by assumption)) (by first|assumption|simp[Bj]);first|(rw[E7,hw];simp[Bj,Cs,D0, *];done)|(rw[hw];done)))|((have hw:=hi_q1.leave (by show q1.at_<_;omega) rfl (Ans hp2 (by assumption) (by assumption)) (by first|assumption|simp[Bj]);first|(rw[E7,hw];simp[Bj,Cs,D0, *];done)|(rw[hw];done)))|((have hw:=hi_q1.leave (by show q1.at_<_;omega) rfl (Apf hp1 hp2 (by assumption) (by assumption) (by assumption)) (by first|assumption|simp[Bj]);first|(rw[E7,hw];simp[Bj,Cs,D0, *];done)|(rw[hw];done)))
theorem Ant (p:Pln) (s:List UInt8) (hp1:s.length≤1048576):Fun Tryz.prog 25 [.agg (Fh p),vT s] [] (.v (vO 0)) [.lst .ev (K8 p s)]:=by
 have hN:Bk=274877906944:=rfl
 refine Ar Tryz.func25 Q4 Q4 (w:=let z1:=Lf (.v (vO 0)) (.v (vO 0)) [.lst .ev ([]:List Ev)] [.lst .ev (K8 p s)];let z2:List Blk:=[.lst .ev (E7 p s),.lst .int (G4 p s).ends];(.seg [.call [] (.v (vB (Br p))) []] (.br (.seg [.ty .ev] (.leaf () [1])) (.br (.seg [.ty .ev] (.leaf () [1])) (.seg [.call [] (.tup [vO 0,vO 1]) z2] (.leaf () [1])))),(Fp 42 [.agg (Fh p)] [] (.v (vB (Br p))) [])∧Bc (!(Br p)) z1 (Bc (decide (4000<(s.length:Int))) z1 ((Fp 59 [.agg (Fh p),vT s] [] (.tup [vO 0,vO 1]) z2)∧Lf (.v (vO 0)) (.v (vO 0)) [.lst .ev (E7 p s)] [.lst .ev (K8 p s)])))) Q4 ?_
 refine⟨(Ue p),fun h1=>have q1:=Aq h1;?_,fun h1=>have q1:=Ap h1;have p1:=B8 q1;?_⟩
 refine⟨rfl,(Ac (congrArg (Blk.lst .ev) ?_) rfl)⟩
 rotate_left
 refine dsp (fun h2 p2=>?_) fun h2 p2=>?_
 refine⟨rfl,(Ac (congrArg (Blk.lst .ev) ?_) rfl)⟩
 rotate_left
 have hwl:K8 p s=E7 p s:=by unfold K8;rw[if_pos ⟨by simp_all,by omega⟩]
 refine⟨(Aqc p _ Q2 Q2),rfl,(Ac (congrArg (Blk.lst .ev) ?_) rfl)⟩
 rotate_left
 all_goals first|(simp_all[K8];done)|(grind[K8])
structure Cur where
 b:List Int
 i:Int
 h:Int
def A0 (c:Cur):Prop:=0≤c.i∧c.b.length≤1048576
def Cm (x:Cur):List C:=[.seq .u8 x.b,.int .i64 x.i,.int .i64 x.h]
abbrev Kc (c:Cur):List Blk:=[.cells (Cm c)]
structure L0 where
 x:Int
 c1:Cur
def Gq (c:Cur) (o:L0):Prop:=Fun Tryz.prog 115 [vP 0] [.cells (Cm c)] (.v (vI o.x)) [.cells (Cm o.c1)]
def D3 (c:Cur) (o:L0):Prop:=(((0:Int)≤o.x∧o.x≤255)∧(A0 o.c1))∧Gq c o
theorem Mz (c:Cur) (hp1:A0 c): ∃o:L0,D3 c o:=by
 have hN:Bk=274877906944:=rfl
 have hcb:=hp1.1
 have hcl:=hp1.2
 refine B5 Tryz.func115 Q4 Q4 (w:=let z5:=(IntKind.i64.wrap (c.h*6364136223846793005))+1442695040888963407;let z3:=IntKind.i64.wrap z5;let z8:=(.v (vI (Int.fdiv z3 (2 ^ 33))):S)= .v (vI (z3 / 8589934592));let z10:List Blk:=[.cells [.seq .u8 c.b,.int .i64 (c.i+1),.int .i64 z3]];let z11:List Blk:=[.cells [.seq .u8 c.b,.int .i64 c.i,.int .i64 z3]];let z12:=z3 / 35184372088832;let z4:=IntKind.i64.wrap (((BitVec.ofInt 64 (z3 / 8589934592) ^^^ BitVec.ofInt 64 z12).toNat:Nat));let z7:=(.v (vI (Int.fdiv z3 (2 ^ 45))):S)= .v (vI z12);let z9:=z4 % 256;let z6:=(.v (vI (IntKind.i64.wrap (((BitVec.ofInt 64 z4&&&BitVec.ofInt 64 255).toNat:Nat)))):S)= .v (vI z9);(.seg [.ord (os 13 []) [],.as 17 (.v (vI (z3 / 8589934592))),.as 22 (.v (vI z12)),.as 24 (.v (vI z9)),.ord (os 10 []) []] (.br (.intro (Sx (c.b[Int.toNat c.i]?)) fun x1=>let z1:=IntKind.i64.wrap (z9+(IntKind.i64.wrap (x1)));.seg [.ord (os 15 []) [],.el .u8 x1,.as 48 (.v (vI (z1 % 256))),.as 54 (.v (vI (c.i+1)))] (.leaf (⟨z1 % 256,(⟨c.b,c.i+1,IntKind.i64.wrap z5⟩:Cur)⟩:L0) [0])) (.leaf (⟨z4 % 256,(⟨c.b,c.i,IntKind.i64.wrap z5⟩:Cur)⟩:L0) [0])),((0:Int)≤33)∧((0:Int)≤33)∧z8∧z8∧((0:Int)≤45)∧((0:Int)≤45)∧z7∧z7∧z6∧z6∧Bc (decide (c.i<((List.length c.b:Nat):Int))) (El (c.b[Int.toNat c.i]?) fun x1=>(let z2:=IntKind.i64.wrap (z9+(IntKind.i64.wrap (x1)));(c.b[Int.toNat c.i]? =some x1)∧((0:Int)≤c.i)∧(c.b[Int.toNat c.i]? =some x1)∧((0:Int)≤c.i)∧((.v (vI (IntKind.i64.wrap (((BitVec.ofInt 64 z2&&&BitVec.ofInt 64 255).toNat:Nat)))):S)= .v (vI (z2 % 256)))∧((.v (vI (IntKind.i64.wrap (((BitVec.ofInt 64 z2&&&BitVec.ofInt 64 255).toNat:Nat)))):S)= .v (vI (z2 % 256)))∧(wI (c.i+1))∧(((0:Int)≤(z2 % 256)∧(z2 % 256)≤255)∧(A0 (⟨c.b,c.i+1,IntKind.i64.wrap z5⟩:Cur)))∧Lf (.v (vI (z2 % 256))) (.v (vI (z2 % 256))) z10 z10)) ((((0:Int)≤z9∧z9≤255)∧(A0 (⟨c.b,c.i,IntKind.i64.wrap z5⟩:Cur)))∧Lf (.v (vI z9)) (.v (vI z9)) z11 z11))) Q4 ?_
 refine⟨Q18,Q18,(W1 (k:=33) Q18 Q18),(W1 (k:=33) Q18 Q18),Q18,Q18,(W1 (k:=45) Q18 Q18),(W1 (k:=45) Q18 Q18),(Gf (k:=8) Q18 Q18),(Gf (k:=8) Q18 Q18),dsp (fun h1 p1=>?_) fun h1 p1=>?_⟩
 refine⟨(Bp (l:=c.b) (i:=Int.toNat c.i) Q2),fun x1 hx1=>?_⟩
 exact⟨hx1,Q2,hx1,Q2,(Gf (k:=8) Q18 Q18),(Gf (k:=8) Q18 Q18),(Af Q2 Q2),⟨Q2,Q0⟩,rfl,rfl⟩
 exact⟨⟨Q2,Q0⟩,rfl,rfl⟩
structure C8 where
 x:Int
 c1:Cur
def Aj (c:Cur) (n:Int) (o:C8):Prop:=Fun Tryz.prog 63 [vP 0,vI n] [.cells (Cm c)] (.v (vI o.x)) [.cells (Cm o.c1)]
def Aa (c:Cur) (n:Int) (o:C8):Prop:=(((0:Int)≤o.x)∧((1:Int)≤n→o.x<n)∧(n≤(0:Int)→o.x=(0:Int))∧(A0 o.c1))∧Aj c n o
theorem Av (c:Cur) (n:Int) (hp1:A0 c): ∃o:C8,Aa c n o:=by
 have hN:Bk=274877906944:=rfl
 refine B5 Tryz.func63 Q4 Q4 (w:=let z8:=D3 c;(.br (.leaf (⟨0,c⟩:C8) [0]) (.br (.intro z8 fun o1=> .seg [.call [0] (.v (vI o1.x)) (Kc o1.c1)] (.leaf (⟨Int.tmod o1.x n,o1.c1⟩:C8) [0])) (.intro z8 fun o1=> .seg [.call [0] (.v (vI o1.x)) (Kc o1.c1)] (.intro (D3 o1.c1) fun o2=>let z6:=(o1.x*16777216)+(o2.x*65536);.seg [.call [0] (.v (vI o2.x)) (Kc o2.c1)] (.intro (D3 o2.c1) fun o3=>let z4:=z6+(o3.x*256);.seg [.call [0] (.v (vI o3.x)) (Kc o3.c1)] (.intro (D3 o3.c1) fun o4=>let z2:=z4+o4.x;.seg [.call [0] (.v (vI o4.x)) (Kc o4.c1),.as 26 (.v (vI (o1.x*16777216))),.as 28 (.v (vI (o2.x*65536))),.as 29 (.v (vI z6)),.as 31 (.v (vI (o3.x*256))),.as 32 (.v (vI z4)),.as 34 (.v (vI z2))] (.leaf (⟨Int.tmod z2 n,o4.c1⟩:C8) [0])))))),Bc (decide (n≤0)) ((((0:Int)≤0)∧((1:Int)≤n→0<n)∧(n≤(0:Int)→0=(0:Int))∧(A0 c))∧Lf (.v (vI 0)) (.v (vI 0)) (Kc c) (Kc c)) (Bc (decide (n≤256)) (In z8 fun o1=>(let z1:=Int.tmod o1.x n;(Gq c o1)∧(n≠0)∧(((0:Int)≤z1)∧((1:Int)≤n→z1<n)∧(n≤(0:Int)→z1=(0:Int))∧(A0 o1.c1))∧Lf (.v (vI z1)) (.v (vI z1)) (Kc o1.c1) (Kc o1.c1))) (In z8 fun o1=>((Gq c o1)∧In (D3 o1.c1) fun o2=>(let z7:=(o1.x*16777216)+(o2.x*65536);(Gq o1.c1 o2)∧In (D3 o2.c1) fun o3=>(let z5:=z7+(o3.x*256);(Gq o2.c1 o3)∧In (D3 o3.c1) fun o4=>(let z3:=z5+o4.x;(Gq o3.c1 o4)∧(wI (o1.x*16777216))∧(wI (o2.x*65536))∧(wI z7)∧(wI (o3.x*256))∧(wI z5)∧(wI z3)∧(n≠0)∧(((0:Int)≤(Int.tmod z3 n))∧((1:Int)≤n→(Int.tmod z3 n)<n)∧(n≤(0:Int)→(Int.tmod z3 n)=(0:Int))∧(A0 o4.c1))∧Lf (.v (vI (Int.tmod z3 n))) (.v (vI (Int.tmod z3 n))) (Kc o4.c1) (Kc o4.c1))))))))) Q4 ?_
 refine dsp (fun h1 p1=>?_) fun h1 p1=>?_
 exact⟨⟨Q2,Q2,Q2,Q0⟩,rfl,rfl⟩
 refine dsp (fun h2 p2=>?_) fun h2 p2=>?_
 refine⟨(Mz c Q0),fun o1 ho_o1=>?_⟩
 obtain ⟨⟨hp_o1_0,hp_o1_1⟩,hf_o1⟩:=ho_o1
 exact⟨hf_o1,Q2,⟨(by have:=U5 o1.x n;omega),(by have:=U5 o1.x n;omega),(by have:=U5 o1.x n;omega),Q0⟩,rfl,rfl⟩
 refine⟨(Mz c Q0),fun o1 ho_o1=>?_⟩
 obtain ⟨⟨hp_o1_0,hp_o1_1⟩,hf_o1⟩:=ho_o1
 refine⟨hf_o1,(Mz o1.c1 Q0),fun o2 ho_o2=>?_⟩
 obtain ⟨⟨hp_o2_0,hp_o2_1⟩,hf_o2⟩:=ho_o2
 refine⟨hf_o2,(Mz o2.c1 Q0),fun o3 ho_o3=>?_⟩
 obtain ⟨⟨hp_o3_0,hp_o3_1⟩,hf_o3⟩:=ho_o3
 refine⟨hf_o3,(Mz o3.c1 Q0),fun o4 ho_o4=>?_⟩
 obtain ⟨⟨hp_o4_0,hp_o4_1⟩,hf_o4⟩:=ho_o4
 exact⟨hf_o4,(Af Q2 Q2),(Af Q2 Q2),(Af Q2 Q2),(Af Q2 Q2),(Af Q2 Q2),(Af Q2 Q2),Q2,⟨Q48,Q48,Q48,Q0⟩,rfl,rfl⟩
structure Px where
 p:Bool
 c1:Cur
def Bg (c:Cur) (n:Int) (o:Px):Prop:=Fun Tryz.prog 73 [vP 0,vI n] [.cells (Cm c)] (.v (vB o.p)) [.cells (Cm o.c1)]
def Am (c:Cur) (n:Int) (o:Px):Prop:=((A0 o.c1))∧Bg c n o
theorem Bz (c:Cur) (n:Int) (hp1:A0 c): ∃o:Px,Am c n o:=by
 have hN:Bk=274877906944:=rfl
 refine B5 Tryz.func73 Q4 Q4 (w:=(.intro (Aa c n) fun o1=> .seg [.call [0] (.v (vI o1.x)) (Kc o1.c1)] (.leaf (⟨decide (o1.x=0),o1.c1⟩:Px) [0]),In (Aa c n) fun o1=>((Aj c n o1)∧((A0 o1.c1))∧Lf (.v (vB (decide (o1.x=0)))) (.v (vB (decide (o1.x=0)))) (Kc o1.c1) (Kc o1.c1)))) Q4 ?_
 refine⟨(Av c n Q0),fun o1 ho_o1=>?_⟩
 obtain ⟨⟨hp_o1_0,hp_o1_1,hp_o1_2,hp_o1_3⟩,hf_o1⟩:=ho_o1
 exact⟨hf_o1,Q0,rfl,rfl⟩
structure Jm where
 x:Int
 c1:Cur
def Dk (c:Cur) (l:List Int) (o:Jm):Prop:=Fun Tryz.prog 67 [vP 0,.c (.seq .int l)] [.cells (Cm c)] (.v (vI o.x)) [.cells (Cm o.c1)]
def B4 (c:Cur) (l:List Int) (o:Jm):Prop:=((o.x∈l)∧(A0 o.c1))∧Dk c l o
theorem Fo (c:Cur) (l:List Int) (hp1:A0 c) (hp2:1≤List.length l) (hp3:List.length l≤1000): ∃o:Jm,B4 c l o:=by
 have hN:Bk=274877906944:=rfl
 refine B5 Tryz.func67 Q4 Q4 (w:=let z1:=((List.length l:Nat):Int);(.intro (Aa c z1) fun o1=> .seg [.call [0] (.v (vI o1.x)) (Kc o1.c1)] (.intro (Sx (l[Int.toNat o1.x]?)) fun x1=> .seg [.el .int x1] (.leaf (⟨x1,o1.c1⟩:Jm) [0])),In (Aa c z1) fun o1=>((Aj c z1 o1)∧El (l[Int.toNat o1.x]?) fun x1=>((l[Int.toNat o1.x]? =some x1)∧((0:Int)≤o1.x)∧((x1∈l)∧(A0 o1.c1))∧Lf (.v (vI x1)) (.v (vI x1)) (Kc o1.c1) (Kc o1.c1))))) Q4 ?_
 refine⟨(Av c ((List.length l:Nat):Int) Q0),fun o1 ho_o1=>?_⟩
 obtain ⟨⟨hp_o1_0,hp_o1_1,hp_o1_2,hp_o1_3⟩,hf_o1⟩:=ho_o1
 refine⟨hf_o1,(Bp (l:=l) (i:=Int.toNat o1.x) Q2),fun x1 hx1=>?_⟩
 exact⟨hx1,Q2,⟨(List.mem_of_getElem? hx1),Q0⟩,rfl,rfl⟩
structure Anu where
 x:Int
 c1:Cur
structure Pc where
 c1:Cur
def Aaf (b:List Int) (o:Pc):Prop:=Fun Tryz.prog 61 [.c (.seq .u8 b)] [] (.v (vP 0)) [.cells (Cm o.c1)]
def Vw (b:List Int) (o:Pc):Prop:=((A0 o.c1))∧Aaf b o
structure Py where
 h:Int
 i:Nat
def Pz (b:List Int):Fam:=⟨Py,fun q1=>[(0,.v (.c (.seq .u8 b))),(3,.v (vI q1.h)),(4,.v (vI ((q1.i:Nat):Int)))],fun _=>[],fun q1=>q1.i≤List.length b∧(0:Int)≤q1.h∧q1.h≤1073741823,fun q1=>List.length b-q1.i⟩
theorem Anv (b:List Int) (hp1:List.length b≤1048576): ∃o:Pc,Vw b o:=by
 have hN:Bk=274877906944:=rfl
 refine B5 Tryz.func61 Q4 Q4 (w:=let z5:=((List.length b:Nat):Int);let z6:=Pz b;(.seg [.as 7 (.v (vI (28433+z5))),.at 0,.keep [0,3,4],.sel []] (.loop z6 fun q1=> .br (.br (.seg [.as 19 (.v (vI (q1.h*131)))] (.intro (Sx (b[q1.i]?)) fun x1=> .seg [.el .u8 x1,.as 27 (.v (vI ((IntKind.i64.wrap ((IntKind.i64.wrap ((q1.h*131)+(IntKind.i64.wrap (x1))))+7)) % 1073741824))),.as 17 (.v (vI (((q1.i:Nat):Int)+1))),.at 0,.keep [0,3,4],.sel []] (.next))) (.leaf (⟨(⟨b,0,q1.h⟩:Cur)⟩:Pc) [0])) (.leaf (⟨(⟨b,0,q1.h⟩:Cur)⟩:Pc) [0])),(wI (28433+z5))∧z6.Has [(0,.v (.c (.seq .u8 b))),(3,.v (vI (28433+z5))),(4,.v (vI 0))] []∧∀q1,z6.inv q1→(let z3:=((q1.i:Nat):Int);let z4:List Blk:=[.cells [.seq .u8 b,.int .i64 0,.int .i64 q1.h]];let z2:=((A0 (⟨b,0,q1.h⟩:Cur)))∧Lf (.v (vP 0)) (.v (vP 0)) z4 z4;Bc (decide (z3<z5)) (Bc (decide (z3<4000)) ((wI (q1.h*131))∧El (b[q1.i]?) fun x1=>(let z1:=IntKind.i64.wrap ((IntKind.i64.wrap ((q1.h*131)+(IntKind.i64.wrap (x1))))+7);(b[q1.i]? =some x1)∧((0:Int)≤z3)∧((.v (vI (IntKind.i64.wrap (((BitVec.ofInt 64 z1&&&BitVec.ofInt 64 1073741823).toNat:Nat)))):S)= .v (vI (z1 % 1073741824)))∧(wI (z3+1))∧z6.Nxt q1 [(0,.v (.c (.seq .u8 b))),(3,.v (vI (z1 % 1073741824))),(4,.v (vI (z3+1)))] [])) z2) z2))) Q4 ?_
 refine⟨(Af Q2 Q2),Cn (j:=(⟨28433+((List.length b:Nat):Int),0⟩:Py)) Q9 rfl (by dsimp only[Pz];exact⟨by omega,by omega,by omega⟩),fun (q1:Py) hq_q1=>?_⟩
 have hi_q1:q1.i≤List.length b∧(0:Int)≤q1.h∧q1.h≤1073741823:=hq_q1
 obtain ⟨v1,v2,v3⟩:=hi_q1
 refine dsp (fun h1 p1=>?_) fun h1 p1=>?_
 refine dsp (fun h2 p2=>?_) fun h2 p2=>?_
 refine⟨(Af Q2 Q2),(Bp (l:=b) (i:=q1.i) Q2),fun x1 hx1=>?_⟩
 exact⟨hx1,Q2,(Gf (k:=30) Q18 Q18),(Af Q2 Q2),Be (j:=(⟨(IntKind.i64.wrap ((IntKind.i64.wrap ((q1.h*131)+(IntKind.i64.wrap (x1))))+7)) % 1073741824,q1.i+1⟩:Py)) Q9 rfl (by dsimp only[Pz];exact⟨by omega,by omega,by omega⟩) (by dsimp only[Pz];omega)⟩
 exact⟨(⟨by dsimp only;omega,hp1⟩),rfl,rfl⟩
 exact⟨(⟨by dsimp only;omega,hp1⟩),rfl,rfl⟩
structure M0 where
 l:List Int
 c1:Cur
def C2 (c:Cur) (n:Int) (o:M0):Prop:=Fun Tryz.prog 65 [vP 0,vI n] [.cells (Cm c)] (.v (vO 1)) [.cells (Cm o.c1),.lst .u8 o.l]
def Bq (c:Cur) (n:Int) (o:M0):Prop:=((List.length o.l≤Int.toNat n)∧(A0 o.c1))∧C2 c n o
structure K9 where
 c:Cur
 b:List Int
 i:Nat
def La (n:Int):Fam:=⟨K9,fun q1=>[(0,.v (vP 0)),(1,.v (vI n)),(5,.v (vO 1)),(6,.v (vI ((q1.i:Nat):Int)))],fun q1=>[.cells (Cm q1.c),.lst .u8 q1.b],fun q1=>A0 q1.c∧List.length q1.b=q1.i∧(q1.i=0∨((q1.i:Nat):Int)≤n),fun q1=>Int.toNat n-q1.i⟩
theorem Ee (c:Cur) (n:Int) (hp1:A0 c) (hp2:n≤100000): ∃o:M0,Bq c n o:=by
 have hN:Bk=274877906944:=rfl
 refine B5 Tryz.func65 Q4 Q4 (w:=let z2:=La n;(.seg [.ty .u8,.at 0,.keep [0,1,5,6],.sel [0,1]] (.loop z2 fun q1=> .br (.intro (D3 q1.c) fun o1=> .seg [.call [0] (.v (vI o1.x)) (Kc o1.c1),.as 16 (.v (.c (.int .u8 o1.x))),.ty .u8,.ty .u8,.as 12 (.v (vI (((q1.i:Nat):Int)+1))),.at 0,.keep [0,1,5,6],.sel [0,3]] (.next)) (.leaf (⟨q1.b,q1.c⟩:M0) [0,1])),z2.Has [(0,.v (vP 0)),(1,.v (vI n)),(5,.v (vO 1)),(6,.v (vI 0))] [.cells (Cm c),.lst .u8 ([]:List Int)]∧∀q1,z2.inv q1→(let z1:=((q1.i:Nat):Int);Bc (decide (z1<n)) (In (D3 q1.c) fun o1=>((Gq q1.c o1)∧((.v (.c (.int .u8 (IntKind.u8.wrap (o1.x)))):S)= .v (.c (.int .u8 o1.x)))∧(List.length q1.b+List.length [o1.x]≤Bk)∧(wI (z1+1))∧z2.Nxt q1 [(0,.v (vP 0)),(1,.v (vI n)),(5,.v (vO 1)),(6,.v (vI (z1+1)))] [.cells (Cm o1.c1),.lst .u8 (q1.b++[o1.x])])) (((List.length q1.b≤Int.toNat n)∧(A0 q1.c))∧Lf (.v (vO 1)) (.v (vO 1)) [.cells (Cm q1.c),.lst .u8 q1.b] [.cells (Cm q1.c),.lst .u8 q1.b])))) Q4 ?_
 refine⟨Cn (j:=(⟨c,([]:List Int),0⟩:K9)) Q9 rfl (by dsimp only[La];exact⟨hp1,rfl,.inl rfl⟩),fun (q1:K9) hq_q1=>?_⟩
 have hi_q1:A0 q1.c∧List.length q1.b=q1.i∧(q1.i=0∨((q1.i:Nat):Int)≤n):=hq_q1
 obtain ⟨v1,v2,v3⟩:=hi_q1
 refine dsp (fun h1 p1=>?_) fun h1 p1=>?_
 refine⟨(Mz q1.c Q0),fun o1 ho_o1=>?_⟩
 obtain ⟨⟨hp_o1_0,hp_o1_1⟩,hf_o1⟩:=ho_o1
 exact⟨hf_o1,(P9 Q2 Q2),Q5,(Af Q2 Q2),Be (j:=(⟨o1.c1,q1.b++[o1.x],q1.i+1⟩:K9)) Q9 rfl (by dsimp only[La];exact⟨by assumption,by simp;omega,by omega⟩) (by dsimp only[La];omega)⟩
 exact⟨⟨Q2,Q0⟩,rfl,rfl⟩
structure Raw where
 msgs:List Shp
structure Vio where
 code:Int
 msg:Int
 field:Int
structure Aqp (ids:List Int) (f:Fld):Prop where
 num:Db f.number=true
 kd:1≤f.kind∧f.kind≤8
 pk:f.packed=true→f.rep=true∧f.kind≤5
 ref:f.kind=8→f.msg∈ids
 no:f.kind≠8→f.msg=0
def Aik (fs:List Fld):List Int:=fs.map fun f=>f.number
def G5 (l:List Shp):List Int:=l.map fun m=>m.id
def Pd (l:List Shp) (id:Int):Bool:=l.any fun m=>decide (m.id=id)
def Cc (l:List Fld) (n:Int):Bool:=l.any fun f=>decide (f.number=n)
structure FldsG (ids:List Int) (fs:List Fld):Prop where
 len:fs.length≤5
 num:(Aik fs).Nodup
 all: ∀f∈fs,Aqp ids f
structure RawK (n:Nat) (l:List Shp):Prop where
 len:l.length=n
 pos:1≤n∧n≤3
 ids:G5 l=[5,1,99].take n
 flds: ∀m∈l,FldsG (G5 l) m.fields
theorem Ac8 {l:List Fld} {n:Int} :Cc l n=false↔∀f∈l,f.number≠n:=by
 simp[Cc]
theorem Abq {l:List Shp} {x:Int} :Pd l x=true↔x∈G5 l:=by
 simp[Pd,G5]
theorem Xt {l:List Int} (h:l.Nodup) {i:Nat} {x:Int} (hx:l[i]? =some x):x ∉ l.take i:=by
 intro hm
 obtain ⟨j,hj,he⟩:=List.mem_take_iff_getElem.1 hm
 have hi:=(List.getElem?_eq_some_iff.1 hx)
 obtain ⟨hi1,hi2⟩:=hi
 exact List.pairwise_iff_getElem.1 h j i Q2 hi1 Q2 (by rw[hi2,he])
theorem RawK.nodup {n:Nat} {l:List Shp} (h:RawK n l):(G5 l).Nodup:=by
 rw[h.ids]
 have h2:=h.pos
 have:n=1∨n=2∨n=3:=by omega
 rcases this with rfl|rfl|rfl<;>decide
theorem RawK.noId {n:Nat} {l:List Shp} (h:RawK n l) {i:Nat} {m:Shp} (hm:l[i]? =some m):Pd (l.take i) m.id=false:=by
 cases hc:Pd (l.take i) m.id with
 |false=>rfl
 |true=>
  have:=Abq.1 hc
  unfold G5 at this
  rw[List.map_take] at this
  exact absurd this (Xt (l:=G5 l) h.nodup (by unfold G5;rw[List.getElem?_map,hm];rfl))
theorem FldsG.noNum {ids:List Int} {fs:List Fld} (h:FldsG ids fs) {i:Nat} {f:Fld} (hf:fs[i]? =some f):Cc (fs.take i) f.number=false:=by
 rw[Ac8]
 intro g hg he
 have:f.number∈(Aik fs).take i:=by
  unfold Aik
  rw[←List.map_take]
  exact List.mem_map.2 ⟨g,hg,he⟩
 exact absurd this (Xt (l:=Aik fs) h.num (by unfold Aik;rw[List.getElem?_map,hf];rfl))
theorem RawK.id_ok {n:Nat} {l:List Shp} (h:RawK n l) {m:Shp} (hm:m∈l):1≤m.id∧m.id≤99:=by
 have hx:m.id∈G5 l:=List.mem_map.2 ⟨m,hm,rfl⟩
 rw[h.ids] at hx
 have:=List.mem_of_mem_take hx
 simp at this
 omega
theorem Aho {l:List Shp} {i:Nat} {m:Shp} {fs:List Fld} (h:l[i]? =some m):G5 (l.set i ⟨m.id,fs⟩)=G5 l:=by
 unfold G5
 apply List.ext_getElem?
 intro j
 rw[List.getElem?_map,List.getElem?_map,List.getElem?_set]
 split
 ·rename_i hij
  subst hij
  have hl:=(List.getElem?_eq_some_iff.1 h).1
  rw[if_pos hl,h]
  rfl
 ·rfl
theorem Aj2 (fs:List Fld) (f:Fld):Aik (fs++[f])=Aik fs++[f.number]:=by simp[Aik]
theorem RawK.add {n:Nat} {l:List Shp} (h:RawK n l) {i:Nat} {m:Shp} {f:Fld} (hm:l[i]? =some m) (hf:Aqp (G5 l) f) (hn:Cc m.fields f.number=false) (hk:m.fields.length≤4):RawK n (l.set i ⟨m.id,m.fields++[f]⟩):=by
 have hM:=h.flds m (List.mem_of_getElem? hm)
 refine⟨by rw[List.length_set];exact h.len,h.pos,by rw[Aho hm];exact h.ids,fun x hx=>?_⟩
 rw[Aho hm]
 rcases List.mem_or_eq_of_mem_set hx with hx|rfl
 ·exact h.flds x hx
 ·refine⟨by rw[List.length_append];simp;omega,?_,fun g hg=>?_⟩
  ·show (Aik (m.fields++[f])).Nodup
   rw[Aj2,List.nodup_append]
   refine⟨hM.num,by simp,fun a ha b hb=>?_⟩
   simp at hb
   subst hb
   intro e
   subst e
   obtain ⟨g,hg,he⟩:=List.mem_map.1 ha
   exact Ac8.1 hn g hg he
  ·rcases List.mem_append.1 hg with hg|hg
   ·exact hM.all g hg
   ·simp at hg;subst hg;exact hf
def Vx (l:List Shp) (id:Int):Nat:=(l.filter fun m=>decide (m.id<id)).length
theorem Aag {l:List Shp} {i:Nat} {m:Shp} {id:Int} (h:l[i]? =some m):Vx (l.take (i+1)) id=Vx (l.take i) id+(if m.id<id then 1 else 0):=by
 have ht:l.take (i+1)=l.take i++[m]:=by rw[List.take_add_one,h];rfl
 unfold Vx
 rw[ht,List.filter_append,List.length_append]
 split<;>simp[*]
theorem Anw (l:List Shp) (id:Int):Vx l id≤l.length:=List.length_filter_le _ _
theorem Ahp {l:List Shp} {id:Int} (h:id∈G5 l):Vx l id<l.length:=by
 obtain ⟨m,hm,rfl⟩:=List.mem_map.1 h
 unfold Vx
 rcases Nat.lt_or_ge (l.filter fun x=>decide (x.id<m.id)).length l.length with h|h
 ·exact h
 ·have:=List.length_filter_eq_length_iff.1 (Nat.le_antisymm (List.length_filter_le _ _) h) m hm
  simp at this
def Ami (n:Nat) (fs:List Fld):Prop:=fs.length≤5∧∀f∈fs,1≤f.kind∧f.kind≤8∧(f.kind=8→0≤f.msg∧f.msg<(n:Int))
def SchG (l:List Shp):Prop:=(1≤l.length∧l.length≤3)∧∀e∈l,Ami l.length e.fields
structure PlnG (p:Pln):Prop where
 sch:SchG p.shapes
 root:0≤p.root∧p.root<(p.shapes.length:Int)
 deep:1≤p.deep∧p.deep≤4
 most:0≤p.most∧p.most≤2000
def Ae5 (p:Pln):Prop:=p.shapes.length≤7∧∀e∈p.shapes,e.fields.length≤6
theorem PlnG.b {p:Pln} (h:PlnG p):Ae5 p:=⟨by have:=h.sch.1;omega,fun e he=>by have:=(h.sch.2 e he).1;omega⟩
theorem Aah {α:Type} {l:List α} {i:Nat} {x:α} (h:l[i]? =some x):l.take (i+1)=l.take i++[x]:=by rw[List.take_add_one,h];rfl
theorem Aem {l:List Shp} {i:Nat} {m:Shp} {id:Int} (h:l[i]? =some m):Pd (l.take (i+1)) id=(Pd (l.take i) id||decide (m.id=id)):=by
 rw[Aah h];simp[Pd]
theorem Abr {l:List Fld} {i:Nat} {f:Fld} {n:Int} (h:l[i]? =some f):Cc (l.take (i+1)) n=(Cc (l.take i) n||decide (f.number=n)):=by
 rw[Aah h];simp[Cc]
theorem Aen {l:List Shp} {i:Nat} {m:Shp} {id:Int} {k:Nat} (h:l[i]? =some m) (hi:i<k) (he:m.id=id):Pd (l.take k) id=true:=by
 rw[Pd,List.any_eq_true]
 exact⟨m,List.mem_of_getElem? (by rw[List.getElem?_take,if_pos hi];exact h),by simpa using he⟩
theorem Abs {l:List Fld} {i:Nat} {f:Fld} {n:Int} (h:l[i]? =some f) (he:f.number=n):Cc l n=true:=by
 rw[Cc,List.any_eq_true]
 exact⟨f,List.mem_of_getElem? h,by simpa using he⟩
structure P1 where
 i:Nat
def P2 (r:Raw) (id:Int) (n:Int):Fam:=⟨P1,fun q1=>[(1,.v (vI id)),(2,.v (vI n)),(3,.v (vP 0)),(7,.v (vI ((q1.i:Nat):Int)))],fun _=>[.cells [.seq .shp r.msgs]],fun q1=>((q1.i:Nat):Int)≤n∧Pd (List.take q1.i r.msgs) id=false,fun q1=>Int.toNat n-q1.i⟩
theorem Abt (r:Raw) (id:Int) (n:Int) (hp1:(0:Int)≤n∧n≤((List.length (r).msgs:Nat):Int)) (hp2:List.length (r).msgs≤1000):Fun Tryz.prog 291 [.agg [.seq .shp r.msgs],vI id,vI n] [] (.v (vB (Pd (List.take (Int.toNat n) (r).msgs) id))) []:=by
 have hN:Bk=274877906944:=rfl
 refine Ar Tryz.func291 Q4 Q4 (w:=let z2:S:= .v (vB (Pd (List.take (Int.toNat n) (r).msgs) id));let z3:=P2 r id n;(.seg [.at 0,.keep [1,2,3,7],.sel [0]] (.loop z3 fun q1=> .br (.intro (Sx (r.msgs[q1.i]?)) fun x1=> .seg [.el .shp x1] (.br (.leaf () []) (.seg [.as 12 (.v (vI (((q1.i:Nat):Int)+1))),.at 0,.keep [1,2,3,7],.sel [0]] (.next)))) (.leaf () [])),z3.Has [(1,.v (vI id)),(2,.v (vI n)),(3,.v (vP 0)),(7,.v (vI 0))] [.cells [.seq .shp r.msgs]]∧∀q1,z3.inv q1→(let z1:=((q1.i:Nat):Int);Bc (decide (z1<n)) (El (r.msgs[q1.i]?) fun x1=>((r.msgs[q1.i]? =some x1)∧((0:Int)≤z1)∧Bc (decide (x1.id=id)) (Lf (.v (vB true)) z2 [] []) ((wI (z1+1))∧z3.Nxt q1 [(1,.v (vI id)),(2,.v (vI n)),(3,.v (vP 0)),(7,.v (vI (z1+1)))] [.cells [.seq .shp r.msgs]]))) (Lf (.v (vB false)) z2 [] [])))) Q4 ?_
 refine⟨Cn (j:=(⟨0⟩:P1)) Q9 rfl (by dsimp only[P2];exact⟨by omega,rfl⟩),fun (q1:P1) hq_q1=>?_⟩
 have hi_q1:((q1.i:Nat):Int)≤n∧Pd (List.take q1.i r.msgs) id=false:=hq_q1
 obtain ⟨v1,v2⟩:=hi_q1
 refine dsp (fun h1 p1=>?_) fun h1 p1=>?_
 refine⟨(Bp (l:=r.msgs) (i:=q1.i) Q2),fun x1 hx1=>?_⟩
 refine⟨hx1,Q2,dsp (fun h2 p2=>?_) fun h2 p2=>?_⟩
 refine⟨(sB ?_),rfl⟩
 rotate_left
 exact⟨(Af Q2 Q2),Be (j:=(⟨q1.i+1⟩:P1)) Q9 rfl (by dsimp only[P2];exact⟨by omega,by rw[Aem hx1,v2];simpa using by assumption⟩) (by dsimp only[P2];omega)⟩
 have hin:Int.toNat n=q1.i:=by omega
 refine⟨(sB ?_),rfl⟩
 rotate_left
 all_goals first|((rw[hin,v2];done))|((rw[Aen hx1 (by omega) (by assumption)];done))|(grind)
structure M1 where
 i:Nat
def M2 (l:List Fld) (n:Int):Fam:=⟨M1,fun q1=>[(0,.v (.c (.seq .fld l))),(1,.v (vI n)),(5,.v (vI ((q1.i:Nat):Int)))],fun _=>[],fun q1=>q1.i≤List.length l∧Cc (List.take q1.i l) n=false,fun q1=>List.length l-q1.i⟩
theorem F2 (l:List Fld) (n:Int) (hp1:List.length l≤1000):Fun Tryz.prog 237 [.c (.seq .fld l),vI n] [] (.v (vB (Cc l n))) []:=by
 have hN:Bk=274877906944:=rfl
 refine Ar Tryz.func237 Q4 Q4 (w:=let z2:=M2 l n;(.seg [.at 0,.keep [0,1,5],.sel []] (.loop z2 fun q1=> .br (.intro (Sx (l[q1.i]?)) fun x1=> .seg [.el .fld x1] (.br (.leaf () []) (.seg [.as 11 (.v (vI (((q1.i:Nat):Int)+1))),.at 0,.keep [0,1,5],.sel []] (.next)))) (.leaf () [])),z2.Has [(0,.v (.c (.seq .fld l))),(1,.v (vI n)),(5,.v (vI 0))] []∧∀q1,z2.inv q1→(let z1:=((q1.i:Nat):Int);Bc (decide (z1<((List.length l:Nat):Int))) (El (l[q1.i]?) fun x1=>((l[q1.i]? =some x1)∧((0:Int)≤z1)∧Bc (decide (x1.number=n)) (Lf (.v (vB true)) (.v (vB (Cc l n))) [] []) ((wI (z1+1))∧z2.Nxt q1 [(0,.v (.c (.seq .fld l))),(1,.v (vI n)),(5,.v (vI (z1+1)))] []))) (Lf (.v (vB false)) (.v (vB (Cc l n))) [] [])))) Q4 ?_
 refine⟨Cn (j:=(⟨0⟩:M1)) Q9 rfl (by dsimp only[M2];exact⟨by omega,rfl⟩),fun (q1:M1) hq_q1=>?_⟩
 have hi_q1:q1.i≤List.length l∧Cc (List.take q1.i l) n=false:=hq_q1
 obtain ⟨v1,v2⟩:=hi_q1
 refine dsp (fun h1 p1=>?_) fun h1 p1=>?_
 refine⟨(Bp (l:=l) (i:=q1.i) Q2),fun x1 hx1=>?_⟩
 refine⟨hx1,Q2,dsp (fun h2 p2=>?_) fun h2 p2=>?_⟩
 refine⟨(sB ?_),rfl⟩
 rotate_left
 exact⟨(Af Q2 Q2),Be (j:=(⟨q1.i+1⟩:M1)) Q9 rfl (by dsimp only[M2];exact⟨by omega,by rw[Abr hx1,v2];simpa using by assumption⟩) (by dsimp only[M2];omega)⟩
 have hin:List.take q1.i l=l:=List.take_of_length_le (by omega)
 rw[hin] at v2
 refine⟨(sB ?_),rfl⟩
 rotate_left
 all_goals first|((rw[v2];done))|((rw[Abs hx1 (by assumption)];done))|(grind)
theorem Ahq (r:Raw) (msg:Int) (hp1:RawK (List.length (r).msgs) (r).msgs) (hp2:(0:Int)≤msg∧msg<((List.length (r).msgs:Nat):Int)):Fun Tryz.prog 272 [.agg [.seq .shp r.msgs],vI msg] [] (.v (vI 0)) []:=by
 have hN:Bk=274877906944:=rfl
 have hpos:=hp1.pos
 refine Ar Tryz.func272 Q4 Q4 (w:=let z2:=((List.length r.msgs:Nat):Int)-1;let z3:=List.take (Int.toNat msg) (r).msgs;let z4:S:= .v (vI 0);(.seg [.as 10 (.v (vI z2)),.call [] (.v (vB (Ai msg 0 z2))) []] (.br (.leaf () []) (.intro (Sx (r.msgs[Int.toNat msg]?)) fun x1=> .seg [.el .shp x1,.call [] (.v (vB (Ai x1.id 1 99))) []] (.br (.leaf () []) (.seg [.call [] (.v (vB (Pd z3 x1.id))) [],.br false,.br false] (.leaf () []))))),(wI z2)∧(Fp 71 [vI msg,vI 0,vI z2] [] (.v (vB (Ai msg 0 z2))) [])∧Bc (!(Ai msg 0 z2)) (Lf z4 z4 [] []) (El (r.msgs[Int.toNat msg]?) fun x1=>(let z1:=Pd z3 x1.id;(r.msgs[Int.toNat msg]? =some x1)∧((0:Int)≤msg)∧(Fp 71 [vI x1.id,vI 1,vI 99] [] (.v (vB (Ai x1.id 1 99))) [])∧Bc (!(Ai x1.id 1 99)) (Lf (.v (vI 2)) z4 [] []) ((Fp 291 [.agg [.seq .shp r.msgs],vI x1.id,vI msg] [] (.v (vB z1)) [])∧(z1=false)∧((decide (8<((List.length x1.fields:Nat):Int)))=false)∧Lf z4 z4 [] []))))) Q4 ?_
 refine⟨(Af Q2 Q2),(By _ _ _),fun h1=>have q1:=Aq h1;have p1:=A7 q1;?_,fun h1=>have q1:=Ap h1;have p1:=Aw q1;?_⟩
 exact⟨rfl,rfl⟩
 refine⟨(Bp (l:=r.msgs) (i:=Int.toNat msg) Q2),fun x1 hx1=>?_⟩
 have hid:=hp1.id_ok (List.mem_of_getElem? hx1)
 have hfl:=(hp1.flds _ (List.mem_of_getElem? hx1)).len
 have hno:=hp1.noId hx1
 refine⟨hx1,Q2,(By _ _ _),fun h2=>have q2:=Aq h2;have p2:=A7 q2;?_,fun h2=>have q2:=Ap h2;have p2:=Aw q2;?_⟩
 refine⟨(sI ?_),rfl⟩
 rotate_left
 exact⟨(Abt r _ _ Q2 Q2),hno,(decide_eq_false Q2),rfl,rfl⟩
 all_goals first|(rfl)|((exfalso;omega))|((exfalso;simp_all;done))|(grind)
theorem Abu (r:Raw) (msg:Int) (field:Int) (hp1:RawK (List.length (r).msgs) (r).msgs) (hp2:(0:Int)≤msg∧msg<((List.length (r).msgs:Nat):Int)) (hp3: ∀m,(r).msgs[Int.toNat msg]? =some m→(0:Int)≤field∧field<((List.length m.fields:Nat):Int)):Fun Tryz.prog 273 [.agg [.seq .shp r.msgs],vI msg,vI field] [] (.v (vI 0)) []:=by
 have hN:Bk=274877906944:=rfl
 have hpos:=hp1.pos
 refine Ar Tryz.func273 Q4 Q4 (w:=let z9:=((List.length r.msgs:Nat):Int);let z10:S:= .v (vI 0);let z11:=Lf (.v (vI 9)) z10 [] [];let z12:=Lf z10 z10 [] [];let z13:=Ai msg 0 (z9-1);let z14:=List.take (Int.toNat z9) (r).msgs;let z15:=(0:Int)≤field;(.seg [.as 13 (.v (vI (z9-1))),.call [] (.v (vB z13)) []] (.br (.leaf () []) (.intro (Sx (r.msgs[Int.toNat msg]?)) fun x1=>let z5:=((List.length x1.fields:Nat):Int)-1;.seg [.el .shp x1,.as 25 (.v (vI z5)),.call [] (.v (vB (Ai field 0 z5))) []] (.br (.leaf () []) (.seg [.el .shp x1] (.intro (Sx (x1.fields[Int.toNat field]?)) fun x2=>let z1:S:= .v (vB (Pd z14 x2.msg));.seg [.el .fld x2,.call [] (.v (vB (Db x2.number))) []] (.br (.leaf () []) (.seg [.ord (os 7 [5]) [],.call [] (.v (vB (Cc (List.take (Int.toNat field) x1.fields) x2.number))) [],.br false,.call [] (.v (vB (Dx x2.kind))) []] (.br (.leaf () []) (.br (.br (.leaf () []) (.seg [.call [] (.v (vB (Cg x2.kind))) []] (.br (.leaf () []) (.br (.seg [.call [] z1 []] (.br (.leaf () []) (.br (.br (.leaf () []) (.leaf () [])) (.leaf () [])))) (.br (.br (.leaf () []) (.leaf () [])) (.leaf () [])))))) (.br (.seg [.call [] z1 []] (.br (.leaf () []) (.br (.br (.leaf () []) (.leaf () [])) (.leaf () [])))) (.br (.br (.leaf () []) (.leaf () [])) (.leaf () [])))))))))))),(wI (z9-1))∧(Fp 71 [vI msg,vI 0,vI (z9-1)] [] (.v (vB z13)) [])∧Bc (!z13) z12 (El (r.msgs[Int.toNat msg]?) fun x1=>(let z6:=((List.length x1.fields:Nat):Int);let z7:=List.take (Int.toNat field) x1.fields;let z8:=r.msgs[Int.toNat msg]? =some x1;z8∧((0:Int)≤msg)∧(wI (z6-1))∧(Fp 71 [vI field,vI 0,vI (z6-1)] [] (.v (vB (Ai field 0 (z6-1)))) [])∧Bc (!(Ai field 0 (z6-1))) z12 (z8∧((0:Int)≤msg)∧El (x1.fields[Int.toNat field]?) fun x2=>(let z2:=Bc (!decide (x2.kind=8)) (Bc (!decide (x2.msg=0)) z11 z12) z12;let z3:=Pd z14 x2.msg;let z4:=Cc z7 x2.number;(x1.fields[Int.toNat field]? =some x2)∧z15∧(Fp 206 [vI x2.number] [] (.v (vB (Db x2.number))) [])∧Bc (!(Db x2.number)) (Lf (.v (vI 5)) z10 [] []) ((field≤z6)∧z15∧(field≤z6)∧z15∧(Fp 237 [.c (.seq .fld z7),vI x2.number] [] (.v (vB z4)) [])∧(z4=false)∧(Fp 191 [vI x2.kind] [] (.v (vB (Dx x2.kind))) [])∧Bc (!(Dx x2.kind)) (Lf (.v (vI 7)) z10 [] []) (Bc x2.packed (Bc (!x2.rep) (Lf (.v (vI 8)) z10 [] []) ((Fp 207 [vI x2.kind] [] (.v (vB (Cg x2.kind))) [])∧Bc (!(Cg x2.kind)) (Lf (.v (vI 8)) z10 [] []) (Bc (decide (x2.kind=8)) ((Fp 291 [.agg [.seq .shp r.msgs],vI x2.msg,vI z9] [] (.v (vB z3)) [])∧Bc (!z3) z11 z2) z2))) (Bc (decide (x2.kind=8)) ((Fp 291 [.agg [.seq .shp r.msgs],vI x2.msg,vI z9] [] (.v (vB z3)) [])∧Bc (!z3) z11 z2) z2))))))))) Q4 ?_
 refine⟨(Af Q2 Q2),(By _ _ _),fun h1=>have q1:=Aq h1;have p1:=A7 q1;?_,fun h1=>have q1:=Ap h1;have p1:=Aw q1;?_⟩
 exact⟨rfl,rfl⟩
 refine⟨(Bp (l:=r.msgs) (i:=Int.toNat msg) Q2),fun x1 hx1=>?_⟩
 have hfb:=hp3 _ hx1
 have hfg:=hp1.flds _ (List.mem_of_getElem? hx1)
 have hfl:=hfg.len
 refine⟨hx1,Q2,(Af Q2 Q2),(By _ _ _),fun h2=>have q2:=Aq h2;have p2:=A7 q2;?_,fun h2=>have q2:=Ap h2;have p2:=Aw q2;?_⟩
 exact⟨rfl,rfl⟩
 refine⟨hx1,Q2,(Bp (l:=x1.fields) (i:=Int.toNat field) Q2),fun x2 hx2=>?_⟩
 have hg:=hfg.all _ (List.mem_of_getElem? hx2)
 have hnn:=hfg.noNum hx2
 have hgk:=hg.kd
 have hgm:=hg.num
 have hgo:Dx x2.kind=true:=by simp only[Dx,Ai,Bool.and_eq_true,decide_eq_true_eq];omega
 have hgp:=hg.pk
 have hgn:=hg.no
 refine⟨hx2,Q2,(Xd _),fun h3=>have q3:=Aq h3;?_,fun h3=>have q3:=Ap h3;?_⟩
 refine⟨(sI ?_),rfl⟩
 rotate_left
 refine⟨Q2,Q2,Q2,Q2,(F2 _ _ (by simp only[List.length_take];omega)),hnn,(Uc _),fun h4=>have q4:=Aq h4;have p4:=A7 q4;?_,fun h4=>have q4:=Ap h4;have p4:=Aw q4;?_⟩
 refine⟨(sI ?_),rfl⟩
 rotate_left
 refine⟨fun h5=>?_,fun h5=>?_⟩
 refine⟨fun h6=>have q6:=Aq h6;?_,fun h6=>have q6:=Ap h6;?_⟩
 refine⟨(sI ?_),rfl⟩
 rotate_left
 refine⟨(Ln _),fun h7=>have q7:=Aq h7;have p7:=A7 q7;?_,fun h7=>have q7:=Ap h7;have p7:=Aw q7;?_⟩
 refine⟨(sI ?_),rfl⟩
 rotate_left
 refine dsp (fun h8 p8=>?_) fun h8 p8=>?_
 have hir:=(Abq (l:=r.msgs)).2 (hg.ref (by omega))
 refine⟨(Abt r _ _ Q2 Q2),fun h9=>have q9:=Aq h9;?_,fun h9=>have q9:=Ap h9;?_⟩
 refine⟨(sI ?_),rfl⟩
 rotate_left
 refine⟨fun h10=>have q10:=Aq h10;have p10:=of_decide_eq_false q10;?_,fun h10=>have q10:=Ap h10;have p10:=of_decide_eq_true q10;?_⟩
 refine⟨fun h11=>have q11:=Aq h11;have p11:=of_decide_eq_false q11;?_,fun h11=>have q11:=Ap h11;have p11:=of_decide_eq_true q11;?_⟩
 refine⟨(sI ?_),rfl⟩
 rotate_left
 exact⟨rfl,rfl⟩
 exact⟨rfl,rfl⟩
 refine⟨fun h9=>have q9:=Aq h9;have p9:=of_decide_eq_false q9;?_,fun h9=>have q9:=Ap h9;have p9:=of_decide_eq_true q9;?_⟩
 refine⟨fun h10=>have q10:=Aq h10;have p10:=of_decide_eq_false q10;?_,fun h10=>have q10:=Ap h10;have p10:=of_decide_eq_true q10;?_⟩
 refine⟨(sI ?_),rfl⟩
 rotate_left
 exact⟨rfl,rfl⟩
 exact⟨rfl,rfl⟩
 refine dsp (fun h6 p6=>?_) fun h6 p6=>?_
 have hir:=(Abq (l:=r.msgs)).2 (hg.ref (by omega))
 refine⟨(Abt r _ _ Q2 Q2),fun h7=>have q7:=Aq h7;?_,fun h7=>have q7:=Ap h7;?_⟩
 refine⟨(sI ?_),rfl⟩
 rotate_left
 refine⟨fun h8=>have q8:=Aq h8;have p8:=of_decide_eq_false q8;?_,fun h8=>have q8:=Ap h8;have p8:=of_decide_eq_true q8;?_⟩
 refine⟨fun h9=>have q9:=Aq h9;have p9:=of_decide_eq_false q9;?_,fun h9=>have q9:=Ap h9;have p9:=of_decide_eq_true q9;?_⟩
 refine⟨(sI ?_),rfl⟩
 rotate_left
 exact⟨rfl,rfl⟩
 exact⟨rfl,rfl⟩
 refine⟨fun h7=>have q7:=Aq h7;have p7:=of_decide_eq_false q7;?_,fun h7=>have q7:=Ap h7;have p7:=of_decide_eq_true q7;?_⟩
 refine⟨fun h8=>have q8:=Aq h8;have p8:=of_decide_eq_false q8;?_,fun h8=>have q8:=Ap h8;have p8:=of_decide_eq_true q8;?_⟩
 refine⟨(sI ?_),rfl⟩
 rotate_left
 exact⟨rfl,rfl⟩
 exact⟨rfl,rfl⟩
 all_goals first|(rfl)|((exfalso;simp_all[Cg,Ai];omega))|((exfalso;simp_all[Cg,Ai];done))|((exfalso;omega))|(grind)
structure L3 where
 i:Nat
def P3 (r:Raw):Fam:=⟨L3,fun q1=>[(1,.v (vP 0)),(2,.v (vP 1)),(3,.v (vI ((q1.i:Nat):Int)))],fun _=>[.cells [.seq .shp r.msgs],.cells [.int .i64 0,.int .i64 0,.int .i64 0]],fun q1=>q1.i≤List.length r.msgs,fun q1=>List.length r.msgs-q1.i⟩
structure P4 where
 k:Nat
def Hr (r:Raw) (q1:L3):Fam:=⟨P4,fun q2=>[(1,.v (vP 0)),(2,.v (vP 1)),(3,.v (vI ((q1.i:Nat):Int))),(5,.v (vI ((q2.k:Nat):Int)))],fun _=>[.cells [.seq .shp r.msgs],.cells [.int .i64 0,.int .i64 0,.int .i64 0]],fun q2=>q2.k≤5,fun q2=>5-q2.k⟩
theorem Anx (r:Raw) (hp1:RawK (List.length (r).msgs) (r).msgs):Fun Tryz.prog 234 [.agg [.seq .shp r.msgs]] [] (.v (.agg [.int .i64 0,.int .i64 0,.int .i64 0])) []:=by
 have hN:Bk=274877906944:=rfl
 have hpos:=hp1.pos
 refine Ar Tryz.func234 Q4 Q4 (w:=let zi:Int→C:= .int .i64;let z3:List Blk:=[.cells [.seq .shp r.msgs],.cells [zi 0,zi 0,zi 0]];let z4:S:= .v (.agg [zi 0,zi 0,zi 0]);let z5:=P3 r;let z6:=((List.length r.msgs:Nat):Int);(.br (.leaf () []) (.seg [.at 0,.keep [1,2,3],.sel [0,1]] (.loop z5 fun q1=> .br (.seg [.call [] (.v (vI 0)) [],.br false,.at 0,.keep [1,2,3,5],.sel [0,1]] (.loop (Hr r q1) fun q2=> .intro (Sx (r.msgs[q1.i]?)) fun x1=> .seg [.el .shp x1] (.br (.seg [.call [] (.v (vI 0)) [],.br false,.as 36 (.v (vI (((q2.k:Nat):Int)+1))),.at 0,.keep [1,2,3,5],.sel [0,1]] (.next)) (.seg [.as 17 (.v (vI (((q1.i:Nat):Int)+1))),.at 0,.keep [1,2,3],.sel [0,1]] (.next))))) (.leaf () []))),Bc (decide (6<z6)) (Lf (.v (.agg [zi 1,zi 6,zi (-1)])) z4 [] []) (z5.Has [(1,.v (vP 0)),(2,.v (vP 1)),(3,.v (vI 0))] z3∧∀q1,z5.inv q1→(let z2:=((q1.i:Nat):Int);Bc (decide (z2<z6)) ((Fp 272 [.agg [.seq .shp r.msgs],vI z2] [] (.v (vI 0)) [])∧((!decide (0=0))=false)∧(Hr r q1).Has [(1,.v (vP 0)),(2,.v (vP 1)),(3,.v (vI z2)),(5,.v (vI 0))] z3∧∀q2,(Hr r q1).inv q2→(let z1:=((q2.k:Nat):Int);El (r.msgs[q1.i]?) fun x1=>((r.msgs[q1.i]? =some x1)∧((0:Int)≤z2)∧Bc (decide (z1<((List.length x1.fields:Nat):Int))) ((Fp 273 [.agg [.seq .shp r.msgs],vI z2,vI z1] [] (.v (vI 0)) [])∧((!decide (0=0))=false)∧(wI (z1+1))∧(Hr r q1).Nxt q2 [(1,.v (vP 0)),(2,.v (vP 1)),(3,.v (vI z2)),(5,.v (vI (z1+1)))] z3) ((wI (z2+1))∧z5.Nxt q1 [(1,.v (vP 0)),(2,.v (vP 1)),(3,.v (vI (z2+1)))] z3)))) (Lf z4 z4 [] []))))) Q4 ?_
 refine dsp (fun h1 p1=>?_) fun h1 p1=>?_
 refine⟨(congrArg S.v (congrArg V.agg (Ac (congrArg (C.int .i64) ?_) (Ac (congrArg (C.int .i64) ?_) (Ac (congrArg (C.int .i64) ?_) rfl))))),rfl⟩
 rotate_left 3
 refine⟨Cn (j:=(⟨0⟩:L3)) Q9 rfl (by dsimp only[P3];omega),fun (q1:L3) hq_q1=>?_⟩
 have hi_q1:q1.i≤List.length r.msgs:=hq_q1
 have v1:=hi_q1
 refine dsp (fun h2 p2=>?_) fun h2 p2=>?_
 refine⟨(Ahq r _ Q2 Q2),Q18,Cn (j:=(⟨0⟩:P4)) Q9 rfl (by dsimp only[Hr];omega),fun (q2:P4) hq_q2=>?_⟩
 have hi_q2:q2.k≤5:=hq_q2
 have w1:=hi_q2
 refine⟨(Bp (l:=r.msgs) (i:=q1.i) Q2),fun x1 hx1=>?_⟩
 have hfl:=(hp1.flds _ (List.mem_of_getElem? hx1)).len
 refine⟨hx1,Q2,dsp (fun h3 p3=>?_) fun h3 p3=>?_⟩
 exact⟨(Abu r _ _ Q2 Q2 (fun m hm=>by (try simp only[Int.toNat_natCast] at hm);rw[hx1] at hm;cases hm;omega)),Q18,(Af Q2 Q2),Be (j:=(⟨q2.k+1⟩:P4)) Q9 rfl (by dsimp only[Hr];omega) (by dsimp only[Hr];omega)⟩
 exact⟨(Af Q2 Q2),Be (j:=(⟨q1.i+1⟩:L3)) Q9 rfl (by dsimp only[P3];omega) (by dsimp only[P3];omega)⟩
 exact⟨rfl,rfl⟩
 all_goals first|(rfl)|((exfalso;simp_all[Cg,Ai];omega))|((exfalso;simp_all[Cg,Ai];done))|((exfalso;omega))|(grind)
structure Pe where
 n:Int
 i:Nat
def L4 (r:Raw) (id:Int):Fam:=⟨Pe,fun q1=>[(1,.v (vI id)),(2,.v (vP 0)),(5,.v (vI q1.n)),(6,.v (vI ((q1.i:Nat):Int)))],fun _=>[.cells [.seq .shp r.msgs]],fun q1=>q1.i≤List.length r.msgs∧q1.n=((Vx (List.take q1.i r.msgs) id:Nat):Int),fun q1=>List.length r.msgs-q1.i⟩
theorem Amj (r:Raw) (id:Int) (hp1:List.length (r).msgs≤1000):Fun Tryz.prog 235 [.agg [.seq .shp r.msgs],vI id] [] (.v (vI ((Vx (r).msgs id:Nat):Int))) []:=by
 have hN:Bk=274877906944:=rfl
 refine Ar Tryz.func235 Q4 Q4 (w:=let z3:=L4 r id;let z4:List Blk:=[.cells [.seq .shp r.msgs]];(.seg [.at 0,.keep [1,2,5,6],.sel [0]] (.loop z3 fun q1=>let z1:S:= .v (vI (((q1.i:Nat):Int)+1));.br (.intro (Sx (r.msgs[q1.i]?)) fun x1=> .seg [.el .shp x1] (.br (.seg [.as 23 (.v (vI (q1.n+1))),.as 13 z1,.at 0,.keep [1,2,5,6],.sel [0]] (.next)) (.seg [.as 13 z1,.at 0,.keep [1,2,5,6],.sel [0]] (.next)))) (.leaf () [])),z3.Has [(1,.v (vI id)),(2,.v (vP 0)),(5,.v (vI 0)),(6,.v (vI 0))] z4∧∀q1,z3.inv q1→(let z2:=((q1.i:Nat):Int);Bc (decide (z2<((List.length r.msgs:Nat):Int))) (El (r.msgs[q1.i]?) fun x1=>((r.msgs[q1.i]? =some x1)∧((0:Int)≤z2)∧Bc (decide (x1.id<id)) ((wI (q1.n+1))∧(wI (z2+1))∧z3.Nxt q1 [(1,.v (vI id)),(2,.v (vP 0)),(5,.v (vI (q1.n+1))),(6,.v (vI (z2+1)))] z4) ((wI (z2+1))∧z3.Nxt q1 [(1,.v (vI id)),(2,.v (vP 0)),(5,.v (vI q1.n)),(6,.v (vI (z2+1)))] z4))) (Lf (.v (vI q1.n)) (.v (vI ((Vx (r).msgs id:Nat):Int))) [] [])))) Q4 ?_
 refine⟨Cn (j:=(⟨0,0⟩:Pe)) Q9 rfl (by dsimp only[L4];exact⟨by omega,by simp[Vx]⟩),fun (q1:Pe) hq_q1=>?_⟩
 have hi_q1:q1.i≤List.length r.msgs∧q1.n=((Vx (List.take q1.i r.msgs) id:Nat):Int):=hq_q1
 obtain ⟨v1,v2⟩:=hi_q1
 refine dsp (fun h1 p1=>?_) fun h1 p1=>?_
 refine⟨(Bp (l:=r.msgs) (i:=q1.i) Q2),fun x1 hx1=>?_⟩
 have hrk:=Anw (List.take q1.i r.msgs) id
 have hrl:(List.take q1.i r.msgs).length≤q1.i:=by rw[List.length_take];omega
 refine⟨hx1,Q2,dsp (fun h2 p2=>?_) fun h2 p2=>?_⟩
 exact⟨(Af Q2 Q2),(Af Q2 Q2),Be (j:=(⟨q1.n+1,q1.i+1⟩:Pe)) Q9 rfl (by dsimp only[L4];exact⟨by omega,by rw[Aag hx1];split<;>omega⟩) (by dsimp only[L4];omega)⟩
 exact⟨(Af Q2 Q2),Be (j:=(⟨q1.n,q1.i+1⟩:Pe)) Q9 rfl (by dsimp only[L4];exact⟨by omega,by rw[Aag hx1];split<;>omega⟩) (by dsimp only[L4];omega)⟩
 have hin:List.take q1.i r.msgs=r.msgs:=List.take_of_length_le (by omega)
 rw[hin] at v2
 refine⟨(sI ?_),rfl⟩
 rotate_left
 all_goals first|((rw[v2];done))|((exact v2))|(omega)
theorem Ahr {l:List Fld} {f g:Fld} {k:Nat} (h:g∈(([]++List.take k l)++[f])++List.drop k l):g=f∨g∈l:=by
 simp only[List.nil_append,List.mem_append,List.mem_singleton] at h
 rcases h with (h|h)|h
 ·exact .inr (List.mem_of_mem_take h)
 ·exact .inl h
 ·exact .inr (List.mem_of_mem_drop h)
structure Vy where
 o:List Fld
def Abv (l:List Fld) (f:Fld) (o:Vy):Prop:=Fun Tryz.prog 236 [.c (.seq .fld l),.agg (Fw f)] [] (.v (vO 0)) [.lst .fld o.o]
def Vz (l:List Fld) (f:Fld) (o:Vy):Prop:=((List.length o.o=List.length l+1)∧(∀g∈o.o,g=f∨g∈l))∧Abv l f o
structure Un where
 k:Nat
def Uo (l:List Fld) (f:Fld):Fam:=⟨Un,fun q1=>[(0,.v (.c (.seq .fld l))),(3,.v (vP 0)),(5,.v (vI ((q1.k:Nat):Int)))],fun _=>[.cells (Fw f)],fun q1=>q1.k≤List.length l,fun q1=>List.length l-q1.k⟩
theorem Aph (l:List Fld) (f:Fld) (hp1:List.length l≤1000): ∃o:Vy,Vz l f o:=by
 have hN:Bk=274877906944:=rfl
 refine B5 Tryz.func236 Q4 Q4 (w:=let z7:=((List.length l:Nat):Int);let z8:=Uo l f;(.seg [.at 0,.keep [0,3,5],.sel [0]] (.loop z8 fun q1=>let z1:=(([]:List Fld)++(List.take q1.k l))++[f];.case (decide (((q1.k:Nat):Int)<z7)) (.intro (Sx (l[q1.k]?)) fun x1=> .seg [.ord (os 14 []) [],.br true,.el .fld x1] (.br (.seg [.as 22 (.v (vI (((q1.k:Nat):Int)+1))),.at 0,.keep [0,3,5],.sel [0]] (.next)) (.seg [.ty .fld,.ty .fld,.ord [(0,true),(1,true),(4,true),(5,true),(6,true),(2,false),(3,false),(7,false),(8,true)] [2],.ty .fld,.ty .fld,.ty .fld] (.leaf (⟨z1++(List.drop q1.k l)⟩:Vy) [5])))) (.seg [.ord (os 14 []) [],.br false,.ty .fld,.ty .fld,.ord [(0,true),(1,true),(4,true),(5,true),(6,true),(2,false),(3,false),(7,false),(8,true)] [2],.ty .fld,.ty .fld,.ty .fld] (.leaf (⟨z1++(List.drop q1.k l)⟩:Vy) [5]))),z8.Has [(0,.v (.c (.seq .fld l))),(3,.v (vP 0)),(5,.v (vI 0))] [.cells (Fw f)]∧∀q1,z8.inv q1→(let z3:=((q1.k:Nat):Int);let z4:=([]:List Fld)++(List.take q1.k l);let z2:=(z4++[f])++(List.drop q1.k l);let z5:=List.length ([]:List Fld)+List.length (List.take q1.k l)≤Bk;let z6:=List.length (z4++[f])+List.length (List.drop q1.k l)≤Bk;Bc (decide (z3<z7)) (El (l[q1.k]?) fun x1=>(((decide (z3<z7))=true)∧(l[q1.k]? =some x1)∧((0:Int)≤z3)∧(l[q1.k]? =some x1)∧((0:Int)≤z3)∧Bc (decide (x1.number<f.number)) ((wI (z3+1))∧z8.Nxt q1 [(0,.v (.c (.seq .fld l))),(3,.v (vP 0)),(5,.v (vI (z3+1)))] [.cells (Fw f)]) ((z3≤z7)∧((0:Int)≤z3)∧z5∧(z3≤z7)∧((0:Int)≤z3)∧(z3≤z7)∧((0:Int)≤z3)∧(List.length z4+List.length [f]≤Bk)∧z6∧((List.length z2=List.length l+1)∧(∀g∈z2,g=f∨g∈l))∧Lf (.v (vO 0)) (.v (vO 0)) [.lst .fld z2] [.lst .fld z2]))) (((decide (z3<z7))=false)∧(z3≤z7)∧((0:Int)≤z3)∧z5∧(z3≤z7)∧((0:Int)≤z3)∧(z3≤z7)∧((0:Int)≤z3)∧(List.length z4+List.length [f]≤Bk)∧z6∧((List.length z2=List.length l+1)∧(∀g∈z2,g=f∨g∈l))∧Lf (.v (vO 0)) (.v (vO 0)) [.lst .fld z2] [.lst .fld z2])))) Q4 ?_
 refine⟨Cn (j:=(⟨0⟩:Un)) Q9 rfl (by dsimp only[Uo];omega),fun (q1:Un) hq_q1=>?_⟩
 have hi_q1:q1.k≤List.length l:=hq_q1
 have v1:=hi_q1
 refine dsp (fun h1 p1=>?_) fun h1 p1=>?_
 refine⟨(Bp (l:=l) (i:=q1.k) Q2),fun x1 hx1=>?_⟩
 refine⟨h1,hx1,Q2,hx1,Q2,dsp (fun h2 p2=>?_) fun h2 p2=>?_⟩
 exact⟨(Af Q2 Q2),Be (j:=(⟨q1.k+1⟩:Un)) Q9 rfl (by dsimp only[Uo];omega) (by dsimp only[Uo];omega)⟩
 exact⟨Q2,Q2,(by simp only[List.length_take,List.length_cons,List.length_nil];omega),Q2,Q2,Q2,Q2,(by simp;omega),(by simp;omega),⟨(by simp;omega),(fun g hg=>Ahr hg)⟩,rfl,rfl⟩
 exact⟨h1,Q2,Q2,(by simp only[List.length_take,List.length_cons,List.length_nil];omega),Q2,Q2,Q2,Q2,(by simp;omega),(by simp;omega),⟨(by simp;omega),(fun g hg=>Ahr hg)⟩,rfl,rfl⟩
end Go.Proofs.YtijacopaadmncaaGreat.Ax
