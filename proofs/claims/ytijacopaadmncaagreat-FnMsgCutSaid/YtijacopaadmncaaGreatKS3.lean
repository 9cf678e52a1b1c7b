/- The grammar: values with a length. The grammar: messages. Models: Ce inputs. Whole inputs: what is said of them. What is too long to draw from. Readings of own, comparisons. Draws of numbers, bytes, scripts. -/
import Derived.Test.YtijacopaadmncaaGreatKS2
import Derived.Test.YtijacopaadmncaaGreatKS1
set_option linter.unusedSimpArgs false
set_option linter.unusedVariables false
namespace Go.Proofs.YtijacopaadmncaaGreat.Ax
open Go.RowKit
def Ae0 (K:Nat):Prop:= ∀(r:Mr) (shape:Int) (end_:Int) (deep:Int) (hp1:List.length (r).s≤1048576) (hp2:(r).at_≤((List.length (r).s:Nat):Int)) (hp3:(r).fail.kind=0) (hp4:((List.length (r).out:Nat):Int)+4*(((List.length (r).s:Nat):Int)-(r).at_)≤100000000) (hp5:(0:Int)≤(r).at_) (hp6: -1000000000≤end_∧end_≤9223372036854775807) (hp7:Bo (r).plan=true) (hp8:(1:Int)≤deep∧deep≤(r).plan.deep) (hp9:Int.toNat ((r).plan.deep-deep)<K),Fun Tryz.prog 70 [vP 0,vI shape,vI end_,vI deep] [.cells (Bp 1 r),.lst .ev r.out] (.v (vB (decide ((Cj (Int.toNat ((r).plan.deep-deep)) shape end_ r).fail.kind=0)))) [.cells (Bp 2 (Cj (Int.toNat ((r).plan.deep-deep)) shape end_ r)),.dead,.lst .ev (Cj (Int.toNat ((r).plan.deep-deep)) shape end_ r).out]
theorem Aik (K:Nat) (hM:Ae0 K) (r:Mr) (f:Fld) (known:Bool) (end_:Int) (deep:Int) (hp1:List.length (r).s≤1048576) (hp2:(r).at_≤((List.length (r).s:Nat):Int)) (hp3:(r).fail.kind=0) (hp4:((List.length (r).out:Nat):Int)+4*(((List.length (r).s:Nat):Int)-(r).at_)≤100000000) (hp5:(0:Int)≤(r).at_) (hp6: -1000000000≤end_∧end_≤9223372036854775807) (hp7:Bo (r).plan=true) (hp8:(1:Int)≤deep∧deep≤(r).plan.deep) (hp9:known=true→1≤(f).number) (hp10:known=true→1≤(f).kind∧(f).kind≤8) (hp11:Int.toNat ((r).plan.deep-deep)≤K):Fun Tryz.prog 124 [vP 0,.agg (Ew f),vB known,vI end_,vI deep] [.cells (Bp 1 r),.lst .ev r.out] (.v (vB (decide ((Au (Do (Int.toNat ((r).plan.deep-deep))) r f (known) end_).fail.kind=0)))) [.cells (Bp 2 (Au (Do (Int.toNat ((r).plan.deep-deep))) r f (known) end_)),.dead,.lst .ev (Au (Do (Int.toNat ((r).plan.deep-deep))) r f (known) end_).out]:=by
 have hN:Bg=274877906944:=rfl
 have hpt:=C3 hp7
 obtain ⟨hv,hv2,hv3⟩:=Ck (e:=end_) hp2
 have hvk:=Bz (r:=r) (e:=end_) hp3
 have hu:=Em r end_
 have hvs:=congrArg List.length hv.1.s
 have hvo:=congrArg List.length hv3
 have hvp:=hv.1.plan
 have hvd:(Aa r end_).plan.deep=r.plan.deep:=by rw[hvp]
 have hnm:Bw f.kind=true↔1≤f.kind∧f.kind≤5:=by simp[Bw,Ak]
 refine Ap Tryz.func124 Q5 Q5 (w:=let zi:Int→C:= .int .i64;let z2:=Au (Do (Int.toNat ((r).plan.deep-deep))) r f (known) end_;let z3:=Aa r end_;let z5:List Blk:=[.cells (Bp 2 z2),.dead,.lst .ev z2.out];let z6:=(z3.s.length:Int);let z7:S:= .v (vB (decide (z2.fail.kind=0)));let z9:List Blk:=[.cells (Bp 1 z3),.lst .ev z3.out];let z10:=(⟨6,f.number,0,Ae r end_,[],0,0⟩:Ev);let z12:S:= .v (vB false);let z14:=Ay z3 8 r.at_;let z15:=Ay z3 6 r.at_;let z18:=Ae r end_;let z4:=z3.at_+z18;let z8:=A0 z3 f z18;let z11:List Blk:=[.cells (Bp 2 (Gm z3 f z4)),.dead,.lst .ev (Gm z3 f z4).out];let z13:S:= .v (vB (decide ((Gm z3 f z4).fail.kind=0)));let z17:List Blk:=[.cells (Bp 2 z8),.dead,.lst .ev z8.out];let z19:=Ay z3 10 z6;let z20:S:= .v (vB (decide (z8.fail.kind=0)));let z21:=(⟨z3.plan,z3.s,z3.at_,z3.out++[z10],z3.fail⟩:Mr);let z1:=Cj (Int.toNat ((z21).plan.deep-(deep+1))) f.msg z4 z21;let z16:List Blk:=[.cells (Bp 2 z1),.dead,.lst .ev z1.out];let z22:=decide (z1.fail.kind=0);let z23:S:= .tup [.c (.int .u64 z18),vB (Aw r end_)];let z24:=end_-z3.at_;(.seg [.call [0,1] z23 z9] (.br (.seg [.at 0,.cut 0 6] (.leaf () [0,1,3])) (.seg [.as 35 (.v (vI z24)),.as 36 (.v (.c (.int .u64 z24)))] (.br (.seg [.call [0,1] z12 [.cells (Bp 1 z14),.lst .ev z14.out],.at 0,.cut 0 6] (.leaf () [0,1,3])) (.seg [.as 42 (.v (vI z18))] (.br (.seg [.ord (os 12 []) [],.as 56 (.v (vI (z6-z3.at_)))] (.br (.seg [.call [0,1] z12 [.cells (Bp 1 z19),.lst .ev z19.out],.at 0,.cut 0 6] (.leaf () [0,1,3])) (.seg [.as 70 (.v (vI z4)),.at 0,.cut 0 6] (.leaf () [0,1,3])))) (.br (.br (.seg [.call [0,1] z12 [.cells (Bp 1 z15),.lst .ev z15.out],.at 0,.cut 0 6] (.leaf () [0,1,3])) (.seg [.ord (os 14 [9,10,13]) [1],.ty .ev,.ty .ev,.tree (fr (.one 11 (.first 12 (.done))) 0 11) 11 [],.as 108 (.v (vI z4)),.as 110 (.v (vI (deep+1))),.call [0,4] (.v (vB z22)) z16] (.br (.leaf () [0,1,5]) (.seg [.ty .ev,.ty .ev] (.leaf () [0,1,7]))))) (.seg [.call [] (.v (vB (Bw f.kind))) []] (.br (.seg [.tree (fr (.one 8 (.first 9 (.done))) 0 8) 8 [],.as 134 (.v (vI z4)),.call [0,1] z13 z11] (.leaf () [0,1,3])) (.seg [.call [0,1] z20 z17] (.leaf () [0,1,3])))))))))),(Fp 110 [vP 0,vI end_] [.cells (Bp 1 r),.lst .ev r.out] z23 z9)∧Bc (!(Aw r end_)) (Lf z12 z7 [.cells (Bp 2 z3),.dead,.lst .ev z3.out] z5) ((wI z24)∧(wU z24)∧Bc (decide (end_-z3.at_<Ae r end_)) ((Fp 111 [vP 0,vI 8,vI r.at_] z9 z12 [.cells (Bp 1 z14),.lst .ev z14.out])∧Lf z12 z7 [.cells (Bp 2 z14),.dead,.lst .ev z14.out] z5) ((wI z18)∧Bc (!known) ((wI (z6-z3.at_))∧(wI (z6-z3.at_))∧Bc (decide (z6-z3.at_<Ae r end_)) ((Fp 111 [vP 0,vI 10,vI z6] z9 z12 [.cells (Bp 1 z19),.lst .ev z19.out])∧Lf z12 z7 [.cells (Bp 2 z19),.dead,.lst .ev z19.out] z5) ((wI z4)∧Lf (.v (vB true)) z7 [.cells [.seq .shp z3.plan.shapes,zi z3.plan.root,zi z3.plan.deep,zi z3.plan.most,.str z3.s,zi z4,.own 2,zi z3.fail.kind,zi z3.fail.field,.int .u64 z3.fail.bits,zi z3.fail.len,.str z3.fail.text,zi z3.fail.code,zi z3.fail.at_],.dead,.lst .ev z3.out] z5)) (Bc (decide (f.kind=8)) (Bc (decide (deep=z3.plan.deep)) ((Fp 111 [vP 0,vI 6,vI r.at_] z9 z12 [.cells (Bp 1 z15),.lst .ev z15.out])∧Lf z12 z7 [.cells (Bp 2 z15),.dead,.lst .ev z15.out] z5) ((z3.out.length+List.length [z10]≤Bg)∧(wI z4)∧(wI z4)∧(wI (deep+1))∧(wI (deep+1))∧(Fp 70 [vP 0,vI f.msg,vI z4,vI (deep+1)] [.cells (Bp 1 z3),.lst .ev (z3.out++[z10])] (.v (vB z22)) z16)∧Bc (!z22) (Lf z12 z7 z16 z5) ((z1.out.length+List.length [(⟨7,0,0,0,[],0,0⟩:Ev)]≤Bg)∧Lf (.v (vB true)) z7 [.cells (Bp 2 z1),.dead,.lst .ev (z1.out++[(⟨7,0,0,0,[],0,0⟩:Ev)])] z5))) ((Fp 186 [vI f.kind] [] (.v (vB (Bw f.kind))) [])∧Bc (Bw f.kind) ((wI z4)∧(wI z4)∧(Fp 187 [vP 0,.agg (Ew f),vI z4] z9 z13 z11)∧Lf z13 z7 z11 z5) ((Fp 188 [vP 0,.agg (Ew f),vI z18] z9 z20 z17)∧Lf z20 z7 z17 z5))))))) Q5 ?_
 refine⟨(Jn r _ Q2),fun h1=>have q1:=As h1;?_,fun h1=>have q1:=Aq h1;?_⟩
 have hok:=q1
 refine zE (Au (Do (Int.toNat ((r).plan.deep-deep))) r f (known) end_) (Aa r end_) (fun hm1=>⟨(sB ?_),Q9⟩) ?_
 rotate_left 2
 have hok:=q1
 have hk:(Aa r end_).fail.kind=0:=by rw[hvk] at hok;simpa using hok
 have ha:=hv.1.at_ hk
 have hb:=hv.2 hk
 have h2:=hv2 hok
 refine⟨(Ac Q2 Q2),(Bx Q2 Q2),dsp (fun h2 p2=>?_) fun h2 p2=>?_⟩
 refine zE (Au (Do (Int.toNat ((r).plan.deep-deep))) r f (known) end_) (Ay (Aa r end_) 8 r.at_) (fun hm1=>⟨(Fo (Aa r end_) _ _),(sB ?_),Q9⟩) ?_
 rotate_left 2
 refine⟨(Ac Q2 Q2),fun h3=>have q3:=As h3;?_,fun h3=>have q3:=Aq h3;?_⟩
 refine⟨(Ac Q2 Q2),(Ac Q2 Q2),dsp (fun h4 p4=>?_) fun h4 p4=>?_⟩
 refine zE (Au (Do (Int.toNat ((r).plan.deep-deep))) r f (known) end_) (Ay (Aa r end_) 10 ((List.length (Aa r end_).s:Nat):Int)) (fun hm1=>⟨(Fo (Aa r end_) _ _),(sB ?_),Q9⟩) ?_
 rotate_left 2
 refine zE (Au (Do (Int.toNat ((r).plan.deep-deep))) r f (known) end_) (⟨(Aa r end_).plan,(Aa r end_).s,(Aa r end_).at_+(Ae r end_),(Aa r end_).out,(Aa r end_).fail⟩:Mr) (fun hm1=>⟨(Ac Q2 Q2),(sB ?_),Q9⟩) ?_
 rotate_left 2
 refine dsp (fun h4 p4=>?_) fun h4 p4=>?_
 refine dsp (fun h5 p5=>?_) fun h5 p5=>?_
 have hsub: ∀(v:Mr) (n s:Int),Do (Int.toNat (r.plan.deep-deep)) v f n s=Ay v 6 s:=fun v n s=>by rw[show Int.toNat (r.plan.deep-deep)=0 by omega];rfl
 refine zE (Au (Do (Int.toNat ((r).plan.deep-deep))) r f (known) end_) (Ay (Aa r end_) 6 r.at_) (fun hm1=>⟨(Fo (Aa r end_) _ _),(sB ?_),Q9⟩) ?_
 rotate_left 2
 have hsub: ∀(v:Mr) (n s:Int),Do (Int.toNat (r.plan.deep-deep)) v f n s=if (Cj (Int.toNat (r.plan.deep-(deep+1))) f.msg (v.at_+n) (Ag v (Ci f n))).fail.kind=0 then Ag (Cj (Int.toNat (r.plan.deep-(deep+1))) f.msg (v.at_+n) (Ag v (Ci f n))) Xy else (Cj (Int.toNat (r.plan.deep-(deep+1))) f.msg (v.at_+n) (Ag v (Ci f n))):=fun v n s=>by rw[show Int.toNat (r.plan.deep-deep)=Int.toNat (r.plan.deep-(deep+1))+1 by omega];rfl
 refine⟨Q6,(Ac Q2 Q2),(Ac Q2 Q2),(Ac Q2 Q2),(Ac Q2 Q2),(hM (⟨(Aa r end_).plan,(Aa r end_).s,(Aa r end_).at_,(Aa r end_).out++[(⟨6,f.number,0,Ae r end_,[],0,0⟩:Ev)],(Aa r end_).fail⟩:Mr) _ _ _ Q6 Q6 Q46 Q6 Q6 Q2 (by simpa [Ag,hvp] using hp7) (by simp only[Ag,hvp];omega) (by simp only[Ag,hvp];omega)),fun h6=>have q6:=As h6;have p6:=of_decide_eq_false q6;?_,fun h6=>have q6:=Aq h6;have p6:=of_decide_eq_true q6;?_⟩
 refine zE (Au (Do (Int.toNat ((r).plan.deep-deep))) r f (known) end_) (Cj (Int.toNat (((⟨(Aa r end_).plan,(Aa r end_).s,(Aa r end_).at_,(Aa r end_).out++[(⟨6,f.number,0,Ae r end_,[],0,0⟩:Ev)],(Aa r end_).fail⟩:Mr)).plan.deep-(deep+1))) f.msg ((Aa r end_).at_+(Ae r end_)) (⟨(Aa r end_).plan,(Aa r end_).s,(Aa r end_).at_,(Aa r end_).out++[(⟨6,f.number,0,Ae r end_,[],0,0⟩:Ev)],(Aa r end_).fail⟩:Mr)) (fun hm1=>⟨(sB ?_),Q9⟩) ?_
 rotate_left 2
 refine zE (Au (Do (Int.toNat ((r).plan.deep-deep))) r f (known) end_) (⟨(Cj (Int.toNat (((⟨(Aa r end_).plan,(Aa r end_).s,(Aa r end_).at_,(Aa r end_).out++[(⟨6,f.number,0,Ae r end_,[],0,0⟩:Ev)],(Aa r end_).fail⟩:Mr)).plan.deep-(deep+1))) f.msg ((Aa r end_).at_+(Ae r end_)) (⟨(Aa r end_).plan,(Aa r end_).s,(Aa r end_).at_,(Aa r end_).out++[(⟨6,f.number,0,Ae r end_,[],0,0⟩:Ev)],(Aa r end_).fail⟩:Mr)).plan,(Cj (Int.toNat (((⟨(Aa r end_).plan,(Aa r end_).s,(Aa r end_).at_,(Aa r end_).out++[(⟨6,f.number,0,Ae r end_,[],0,0⟩:Ev)],(Aa r end_).fail⟩:Mr)).plan.deep-(deep+1))) f.msg ((Aa r end_).at_+(Ae r end_)) (⟨(Aa r end_).plan,(Aa r end_).s,(Aa r end_).at_,(Aa r end_).out++[(⟨6,f.number,0,Ae r end_,[],0,0⟩:Ev)],(Aa r end_).fail⟩:Mr)).s,(Cj (Int.toNat (((⟨(Aa r end_).plan,(Aa r end_).s,(Aa r end_).at_,(Aa r end_).out++[(⟨6,f.number,0,Ae r end_,[],0,0⟩:Ev)],(Aa r end_).fail⟩:Mr)).plan.deep-(deep+1))) f.msg ((Aa r end_).at_+(Ae r end_)) (⟨(Aa r end_).plan,(Aa r end_).s,(Aa r end_).at_,(Aa r end_).out++[(⟨6,f.number,0,Ae r end_,[],0,0⟩:Ev)],(Aa r end_).fail⟩:Mr)).at_,(Cj (Int.toNat (((⟨(Aa r end_).plan,(Aa r end_).s,(Aa r end_).at_,(Aa r end_).out++[(⟨6,f.number,0,Ae r end_,[],0,0⟩:Ev)],(Aa r end_).fail⟩:Mr)).plan.deep-(deep+1))) f.msg ((Aa r end_).at_+(Ae r end_)) (⟨(Aa r end_).plan,(Aa r end_).s,(Aa r end_).at_,(Aa r end_).out++[(⟨6,f.number,0,Ae r end_,[],0,0⟩:Ev)],(Aa r end_).fail⟩:Mr)).out++[(⟨7,0,0,0,[],0,0⟩:Ev)],(Cj (Int.toNat (((⟨(Aa r end_).plan,(Aa r end_).s,(Aa r end_).at_,(Aa r end_).out++[(⟨6,f.number,0,Ae r end_,[],0,0⟩:Ev)],(Aa r end_).fail⟩:Mr)).plan.deep-(deep+1))) f.msg ((Aa r end_).at_+(Ae r end_)) (⟨(Aa r end_).plan,(Aa r end_).s,(Aa r end_).at_,(Aa r end_).out++[(⟨6,f.number,0,Ae r end_,[],0,0⟩:Ev)],(Aa r end_).fail⟩:Mr)).fail⟩:Mr) (fun hm1=>⟨(Ef Q6 Q6),(sB ?_),Q9⟩) ?_
 rotate_left 2
 refine⟨(Qv _),fun h5=>have p5:=Bb h5;?_,fun h5=>have p5:=Bf h5;?_⟩
 refine zE (Au (Do (Int.toNat ((r).plan.deep-deep))) r f (known) end_) (Gm (Aa r end_) f ((Aa r end_).at_+(Ae r end_))) (fun hm1=>⟨(Ac Q2 Q2),(Ac Q2 Q2),(Anr (Aa r end_) f _ Q2 Q2 Q46 Q2 Q2 Q2 (by grind)),(sB ?_),Q9⟩) ?_
 rotate_left 2
 refine zE (Au (Do (Int.toNat ((r).plan.deep-deep))) r f (known) end_) (A0 (Aa r end_) f (Ae r end_)) (fun hm1=>⟨(Ami (Aa r end_) f _ Q2 Q2 Q46 Q2 Q2 Q2),(sB ?_),Q9⟩) ?_
 rotate_left 2
 all_goals first|(grind (ematch:=20) (gen:=20) [Au,Ag,M1,Ay,Ci,Xy,Bd])
def Ae1 (K:Nat):Prop:= ∀(r:Mr) (shape:Int) (end_:Int) (deep:Int) (hp1:List.length (r).s≤1048576) (hp2:(r).at_≤((List.length (r).s:Nat):Int)) (hp3:(r).fail.kind=0) (hp4:((List.length (r).out:Nat):Int)+4*(((List.length (r).s:Nat):Int)-(r).at_)≤100000000) (hp5:(0:Int)≤(r).at_) (hp6: -1000000000≤end_∧end_≤9223372036854775807) (hp7:Bo (r).plan=true) (hp8:(1:Int)≤deep∧deep≤(r).plan.deep) (hp9:Int.toNat ((r).plan.deep-deep)<K),Fun Tryz.prog 72 [vP 0,vI shape,vI end_,vI deep] [.cells (Bp 1 r),.lst .ev r.out] (.tup []) [.cells (Bp 2 (Cj (Int.toNat ((r).plan.deep-deep)) shape end_ r)),.dead,.lst .ev (Cj (Int.toNat ((r).plan.deep-deep)) shape end_ r).out]
structure Qz where
 r:Mr
def Ra (r:Mr) (f:Fld) (end_:Int):Fam:=⟨Qz,fun q1=>[(0,.v (vP 0)),(5,.v (vP 3)),(11,.v (vI ((Aa r end_).at_+(Ae r end_))))],fun q1=>[.cells (Bp 2 q1.r),.dead,.lst .ev q1.r.out,.cells (Ew f)],fun q1=>LInv (fun x=>A6 x f (Bn f.kind) ((Aa r end_).at_+Ae r end_)) ((Aa r end_).at_+Ae r end_) (Aa r end_) q1.r,fun q1=>Fi q1.r⟩
theorem Aim (K:Nat) (hM:Ae1 K) (r:Mr) (f:Fld) (end_:Int) (deep:Int) (hp1:List.length (r).s≤1048576) (hp2:(r).at_≤((List.length (r).s:Nat):Int)) (hp3:(r).fail.kind=0) (hp4:((List.length (r).out:Nat):Int)+4*(((List.length (r).s:Nat):Int)-(r).at_)≤100000000) (hp5:(0:Int)≤(r).at_) (hp6: -1000000000≤end_∧end_≤9223372036854775807) (hp7:Bo (r).plan=true) (hp8:(1:Int)≤deep∧deep≤(r).plan.deep) (hp9:(0:Int)≤(f).number) (hp10:(f).number=0∨1≤(f).kind∧(f).kind≤8) (hp11:Int.toNat ((r).plan.deep-deep)≤K):Fun Tryz.prog 132 [vP 0,.agg (Ew f),vI end_,vI deep] [.cells (Bp 1 r),.lst .ev r.out] (.tup []) [.cells (Bp 2 (Au (Do (Int.toNat ((r).plan.deep-deep))) r f (decide ((f).number≠0)) end_)),.dead,.lst .ev (Au (Do (Int.toNat ((r).plan.deep-deep))) r f (decide ((f).number≠0)) end_).out]:=by
 have hN:Bg=274877906944:=rfl
 have hpt:=C3 hp7
 obtain ⟨hv,hv2,hv3⟩:=Ck (e:=end_) hp2
 have hvk:=Bz (r:=r) (e:=end_) hp3
 have hu:=Em r end_
 have hvs:=congrArg List.length hv.1.s
 have hvo:=congrArg List.length hv3
 have hvp:=hv.1.plan
 have hvd:(Aa r end_).plan.deep=r.plan.deep:=by rw[hvp]
 have hnm:Bw f.kind=true↔1≤f.kind∧f.kind≤5:=by simp[Bw,Ak]
 refine Ap Tryz.func132 Q5 Q5 (w:=let zi:Int→C:= .int .i64;let z6:=Aa r end_;let z7:=Ag z6 (⟨6,f.number,0,Ae r end_,[],0,0⟩:Ev);let z9:=(z6.s.length:Int);let z10:=Ae r end_;let z8:List Blk:=[.cells (Bp 2 (A0 z6 f z10)),.dead,.lst .ev (A0 z6 f z10).out];let z12:List Blk:=[.cells (Bp 1 z6),.lst .ev z6.out];let z13:=Bd 8 r.at_;let z14:=Bd 6 r.at_;let z15:=z6.at_+z10;let z16:=Bd 10 z9;let z17:=Au (Do (Int.toNat ((r).plan.deep-deep))) r f (decide ((f).number≠0)) end_;let z5:List Blk:=[.cells (Bp 2 z17),.dead,.lst .ev z17.out];let z19:=Ra r f end_;let z20:=Bn f.kind;let z21:=z7.at_+z10;let z4:=Cj (Int.toNat ((z7).plan.deep-(deep+1))) f.msg z21 z7;let z18:List Blk:=[.cells (Bp 2 z4),.dead,.lst .ev z4.out];let z22:=Ag z4 (⟨7,0,0,0,[],0,0⟩:Ev);let z11:List Blk:=[.cells (Bp 2 z22),.dead,.lst .ev z22.out];let z23:=end_-z6.at_;let z24:List Blk:=[.cells (Bp 2 z7),.dead,.lst .ev z7.out];(.seg [.call [0,1] (.v (.c (.int .u64 z10))) z12] (.br (.seg [.at 0,.cut 0 6] (.leaf () [0,1,3])) (.seg [.as 31 (.v (vI z23)),.as 32 (.v (.c (.int .u64 z23)))] (.br (.seg [.call [] (.v (.agg (cEv z13))) [],.at 0,.cut 0 6] (.leaf () [0,1,3])) (.seg [.as 40 (.v (vI z10))] (.br (.seg [.ord (os 12 []) [],.as 81 (.v (vI (z9-z6.at_)))] (.br (.seg [.call [] (.v (.agg (cEv z16))) [],.at 0,.cut 0 6] (.leaf () [0,1,3])) (.seg [.as 99 (.v (vI z15)),.at 0,.cut 0 6] (.leaf () [0,1,3])))) (.br (.br (.seg [.call [] (.v (.agg (cEv z14))) [],.at 0,.cut 0 6] (.leaf () [0,1,3])) (.seg [.call [0,1] (.tup []) z24,.ord (os 12 [11]) [],.as 132 (.v (vI z21)),.as 134 (.v (vI (deep+1))),.call [0,3] (.tup []) z18] (.br (.seg [.call [0,4] (.tup []) z11] (.leaf () [0,1,5])) (.leaf () [0,1,4])))) (.br (.seg [.call [0,1] (.tup []) z8] (.leaf () [0,1,3])) (.br (.seg [.call [0,1] (.tup []) z8] (.leaf () [0,1,3])) (.seg [.as 46 (.v (vI z15)),.at 0,.cut 0 6,.keep [0,5,11],.sel [0,1,3,2]] (.loop z19 fun q1=>let z1:=A6 q1.r f z20 z15;.br (.br (.seg [.ord [(0,true),(1,true),(2,true),(3,true),(5,true),(4,false),(6,false)] [],.call [] (.v (vI z20)) [],.call [0,2] (.tup []) [.cells (Bp 2 z1),.dead,.lst .ev z1.out],.at 0,.keep [0,5,11],.sel [0,1,4,3]] (.next)) (.leaf () [0,1,2])) (.leaf () [0,1,2]))))))))))),(Fp 127 [vP 0,vI end_] [.cells (Bp 1 r),.lst .ev r.out] (.v (.c (.int .u64 z10))) z12)∧Bc (!decide (z6.fail.kind=0)) (Lf (.tup []) (.tup []) [.cells (Bp 2 z6),.dead,.lst .ev z6.out] z5) ((wI z23)∧(wU z23)∧Bc (decide (end_-z6.at_<Ae r end_)) ((Fp 113 [vI 8,vI r.at_] [] (.v (.agg (cEv z13))) [])∧Lf (.tup []) (.tup []) [.cells [.seq .shp z6.plan.shapes,zi z6.plan.root,zi z6.plan.deep,zi z6.plan.most,.str z6.s,zi z6.at_,.own 2,zi z13.kind,zi z13.field,.int .u64 z13.bits,zi z13.len,.str z13.text,zi z13.code,zi z13.at_],.dead,.lst .ev z6.out] z5) ((wI z10)∧Bc (decide (f.number=0)) ((wI (z9-z6.at_))∧(wI (z9-z6.at_))∧Bc (decide (z9-z6.at_<Ae r end_)) ((Fp 113 [vI 10,vI z9] [] (.v (.agg (cEv z16))) [])∧Lf (.tup []) (.tup []) [.cells [.seq .shp z6.plan.shapes,zi z6.plan.root,zi z6.plan.deep,zi z6.plan.most,.str z6.s,zi z6.at_,.own 2,zi z16.kind,zi z16.field,.int .u64 z16.bits,zi z16.len,.str z16.text,zi z16.code,zi z16.at_],.dead,.lst .ev z6.out] z5) ((wI z15)∧Lf (.tup []) (.tup []) [.cells [.seq .shp z6.plan.shapes,zi z6.plan.root,zi z6.plan.deep,zi z6.plan.most,.str z6.s,zi z15,.own 2,zi z6.fail.kind,zi z6.fail.field,.int .u64 z6.fail.bits,zi z6.fail.len,.str z6.fail.text,zi z6.fail.code,zi z6.fail.at_],.dead,.lst .ev z6.out] z5)) (Bc (decide (f.kind=8)) (Bc (decide (z6.plan.deep≤deep)) ((Fp 113 [vI 6,vI r.at_] [] (.v (.agg (cEv z14))) [])∧Lf (.tup []) (.tup []) [.cells [.seq .shp z6.plan.shapes,zi z6.plan.root,zi z6.plan.deep,zi z6.plan.most,.str z6.s,zi z6.at_,.own 2,zi z14.kind,zi z14.field,.int .u64 z14.bits,zi z14.len,.str z14.text,zi z14.code,zi z14.at_],.dead,.lst .ev z6.out] z5) ((Fp 192 [vP 0,.agg [zi 6,zi f.number,.int .u64 0,zi z10,.str [],zi 0,zi 0]] z12 (.tup []) z24)∧(wI z21)∧(wI z21)∧(wI (deep+1))∧(wI (deep+1))∧(Fp 72 [vP 0,vI f.msg,vI z21,vI (deep+1)] [.cells (Bp 1 z7),.lst .ev z7.out] (.tup []) z18)∧Bc (decide (z4.fail.kind=0)) ((Fp 192 [vP 0,.agg [zi 7,zi 0,.int .u64 0,zi 0,.str [],zi 0,zi 0]] [.cells (Bp 1 z4),.lst .ev z4.out] (.tup []) z11)∧Lf (.tup []) (.tup []) z11 z5) (Lf (.tup []) (.tup []) z18 z5))) (Bc (decide (f.kind=6)) ((Fp 193 [vP 0,.agg (Ew f),vI z10] z12 (.tup []) z8)∧Lf (.tup []) (.tup []) z8 z5) (Bc (decide (f.kind=7)) ((Fp 193 [vP 0,.agg (Ew f),vI z10] z12 (.tup []) z8)∧Lf (.tup []) (.tup []) z8 z5) ((wI z15)∧z19.Has [(0,.v (vP 0)),(5,.v (vP 3)),(11,.v (vI z15))] [.cells (Bp 2 z6),.dead,.lst .ev z6.out,.cells (Ew f)]∧∀q1,z19.inv q1→(let z2:=Lf (.tup []) (.tup []) [.cells (Bp 2 q1.r),.dead,.lst .ev q1.r.out] z5;let z3:=A6 q1.r f z20 z15;Bc (decide (q1.r.at_<z6.at_+z10)) (Bc (decide (q1.r.fail.kind=0)) ((Fp 178 [vI f.kind] [] (.v (vI z20)) [])∧(Fp 133 [vP 0,.agg (Ew f),vI z20,vI z15] [.cells (Bp 1 q1.r),.lst .ev q1.r.out] (.tup []) [.cells (Bp 2 z3),.dead,.lst .ev z3.out])∧z19.Nxt q1 [(0,.v (vP 0)),(5,.v (vP 3)),(11,.v (vI z15))] [.cells (Bp 2 z3),.dead,.lst .ev z3.out,.cells (Ew f)]) z2) z2))))))))) Q5 ?_
 refine⟨(Rz r _ Q2),fun h1=>have q1:=As h1;have p1:=of_decide_eq_false q1;?_,fun h1=>have q1:=Aq h1;have p1:=of_decide_eq_true q1;?_⟩
 have hok:Aw r end_=false:=by rw[hvk];simpa using q1
 refine zE (Au (Do (Int.toNat ((r).plan.deep-deep))) r f (decide ((f).number≠0)) end_) (Aa r end_) (fun hm1=>⟨rfl,Q9⟩) ?_
 rotate_left
 have hok:Aw r end_=true:=by rw[hvk];simpa using q1
 have hk:(Aa r end_).fail.kind=0:=by rw[hvk] at hok;simpa using hok
 have ha:=hv.1.at_ hk
 have hb:=hv.2 hk
 have h2:=hv2 hok
 refine⟨(Ac Q2 Q2),(Bx Q2 Q2),dsp (fun h2 p2=>?_) fun h2 p2=>?_⟩
 refine zE (Au (Do (Int.toNat ((r).plan.deep-deep))) r f (decide ((f).number≠0)) end_) (⟨(Aa r end_).plan,(Aa r end_).s,(Aa r end_).at_,(Aa r end_).out,(Bd 8 r.at_)⟩:Mr) (fun hm1=>⟨(Dd _ _),rfl,Q9⟩) ?_
 rotate_left
 refine⟨(Ac Q2 Q2),dsp (fun h3 p3=>?_) fun h3 p3=>?_⟩
 refine⟨(Ac Q2 Q2),(Ac Q2 Q2),dsp (fun h4 p4=>?_) fun h4 p4=>?_⟩
 refine zE (Au (Do (Int.toNat ((r).plan.deep-deep))) r f (decide ((f).number≠0)) end_) (⟨(Aa r end_).plan,(Aa r end_).s,(Aa r end_).at_,(Aa r end_).out,(Bd 10 ((List.length (Aa r end_).s:Nat):Int))⟩:Mr) (fun hm1=>⟨(Dd _ _),rfl,Q9⟩) ?_
 rotate_left
 refine zE (Au (Do (Int.toNat ((r).plan.deep-deep))) r f (decide ((f).number≠0)) end_) (⟨(Aa r end_).plan,(Aa r end_).s,(Aa r end_).at_+(Ae r end_),(Aa r end_).out,(Aa r end_).fail⟩:Mr) (fun hm1=>⟨(Ac Q2 Q2),rfl,Q9⟩) ?_
 rotate_left
 refine dsp (fun h4 p4=>?_) fun h4 p4=>?_
 refine dsp (fun h5 p5=>?_) fun h5 p5=>?_
 have hsub: ∀(v:Mr) (n s:Int),Do (Int.toNat (r.plan.deep-deep)) v f n s=Ay v 6 s:=fun v n s=>by rw[show Int.toNat (r.plan.deep-deep)=0 by omega];rfl
 refine zE (Au (Do (Int.toNat ((r).plan.deep-deep))) r f (decide ((f).number≠0)) end_) (⟨(Aa r end_).plan,(Aa r end_).s,(Aa r end_).at_,(Aa r end_).out,(Bd 6 r.at_)⟩:Mr) (fun hm1=>⟨(Dd _ _),rfl,Q9⟩) ?_
 rotate_left
 have hsub: ∀(v:Mr) (n s:Int),Do (Int.toNat (r.plan.deep-deep)) v f n s=if (Cj (Int.toNat (r.plan.deep-(deep+1))) f.msg (v.at_+n) (Ag v (Ci f n))).fail.kind=0 then Ag (Cj (Int.toNat (r.plan.deep-(deep+1))) f.msg (v.at_+n) (Ag v (Ci f n))) Xy else (Cj (Int.toNat (r.plan.deep-(deep+1))) f.msg (v.at_+n) (Ag v (Ci f n))):=fun v n s=>by rw[show Int.toNat (r.plan.deep-deep)=Int.toNat (r.plan.deep-(deep+1))+1 by omega];rfl
 refine⟨(Mu (Aa r end_) (⟨6,f.number,0,Ae r end_,[],0,0⟩:Ev) Q2),(Ac Q25 Q25),(Ac Q25 Q25),(Ac Q2 Q2),(Ac Q2 Q2),(hM (Ag (Aa r end_) (⟨6,f.number,0,Ae r end_,[],0,0⟩:Ev)) _ _ _ Q6 Q6 Q46 Q6 Q6 Q6 (by simpa [Ag,hvp] using hp7) (by simp only[Ag,hvp];omega) (by simp only[Ag,hvp];omega)),dsp (fun h6 p6=>?_) fun h6 p6=>?_⟩
 refine zE (Au (Do (Int.toNat ((r).plan.deep-deep))) r f (decide ((f).number≠0)) end_) (Ag (Cj (Int.toNat (((Ag (Aa r end_) (⟨6,f.number,0,Ae r end_,[],0,0⟩:Ev))).plan.deep-(deep+1))) f.msg ((Ag (Aa r end_) (⟨6,f.number,0,Ae r end_,[],0,0⟩:Ev)).at_+(Ae r end_)) (Ag (Aa r end_) (⟨6,f.number,0,Ae r end_,[],0,0⟩:Ev))) (⟨7,0,0,0,[],0,0⟩:Ev)) (fun hm1=>⟨(Mu (Cj (Int.toNat (((Ag (Aa r end_) (⟨6,f.number,0,Ae r end_,[],0,0⟩:Ev))).plan.deep-(deep+1))) f.msg ((Ag (Aa r end_) (⟨6,f.number,0,Ae r end_,[],0,0⟩:Ev)).at_+(Ae r end_)) (Ag (Aa r end_) (⟨6,f.number,0,Ae r end_,[],0,0⟩:Ev))) (⟨7,0,0,0,[],0,0⟩:Ev) (Wd Q6 Q6)),rfl,Q9⟩) ?_
 rotate_left
 refine zE (Au (Do (Int.toNat ((r).plan.deep-deep))) r f (decide ((f).number≠0)) end_) (Cj (Int.toNat (((Ag (Aa r end_) (⟨6,f.number,0,Ae r end_,[],0,0⟩:Ev))).plan.deep-(deep+1))) f.msg ((Ag (Aa r end_) (⟨6,f.number,0,Ae r end_,[],0,0⟩:Ev)).at_+(Ae r end_)) (Ag (Aa r end_) (⟨6,f.number,0,Ae r end_,[],0,0⟩:Ev))) (fun hm1=>⟨rfl,Q9⟩) ?_
 rotate_left
 refine dsp (fun h5 p5=>?_) fun h5 p5=>?_
 refine zE (Au (Do (Int.toNat ((r).plan.deep-deep))) r f (decide ((f).number≠0)) end_) (A0 (Aa r end_) f (Ae r end_)) (fun hm1=>⟨(Aij (Aa r end_) f _ Q2 Q2 Q46 Q2 Q2 Q2),rfl,Q9⟩) ?_
 rotate_left
 refine dsp (fun h6 p6=>?_) fun h6 p6=>?_
 refine zE (Au (Do (Int.toNat ((r).plan.deep-deep))) r f (decide ((f).number≠0)) end_) (A0 (Aa r end_) f (Ae r end_)) (fun hm1=>⟨(Aij (Aa r end_) f _ Q2 Q2 Q46 Q2 Q2 Q2),rfl,Q9⟩) ?_
 rotate_left
 refine⟨(Ac Q2 Q2),Ca (j:=(⟨(Aa r end_)⟩:Qz)) rfl rfl (by dsimp only[Ra];exact LInv.refl Q2),fun (q1:Qz) hq_q1=>?_⟩
 have hi_q1:LInv (fun x=>A6 x f (Bn f.kind) ((Aa r end_).at_+Ae r end_)) ((Aa r end_).at_+Ae r end_) (Aa r end_) q1.r:=hq_q1
 have hwf:=Acr (k:=f.kind) (by omega)
 have hlg:= @LInv.go _ (Ga f (Bn f.kind) ((Aa r end_).at_+Ae r end_)) _ _ _ hi_q1
 refine dsp (fun h7 p7=>?_) fun h7 p7=>?_
 refine dsp (fun h8 p8=>?_) fun h8 p8=>?_
 have hrm:=hi_q1.room p8
 have hat:=hi_q1.at_ p8
 exact⟨(Qw _),(Aj2 q1.r f _ _ Q2 Q2 Q46 Q2 Q2 Q2 Q2),A5 (j:=(⟨(A6 q1.r f (Bn f.kind) ((Aa r end_).at_+(Ae r end_)))⟩:Qz)) rfl rfl (by dsimp only[Ra];exact(hlg Q2 Q2).1) (by dsimp only[Ra];exact(hlg Q2 Q2).2)⟩
 have hend:Gm (Aa r end_) f ((Aa r end_).at_+Ae r end_)=q1.r:=hi_q1.bad p8
 refine zE (Au (Do (Int.toNat ((r).plan.deep-deep))) r f (decide ((f).number≠0)) end_) q1.r (fun hm1=>⟨rfl,Q9⟩) ?_
 rotate_left
 have hend:Gm (Aa r end_) f ((Aa r end_).at_+Ae r end_)=q1.r:=hi_q1.end_ p7
 refine zE (Au (Do (Int.toNat ((r).plan.deep-deep))) r f (decide ((f).number≠0)) end_) q1.r (fun hm1=>⟨rfl,Q9⟩) ?_
 rotate_left
 all_goals first|(grind (ematch:=20) (gen:=20) [Au,Ag,M1,Ay,Ci,Xy,Bd])
structure J4 where
 r:Mr
def Rb (r:Mr) (shape:Int) (end_:Int) (deep:Int):Fam:=⟨J4,fun q1=>[(0,.v (vP 0)),(1,.v (vI shape)),(2,.v (vI end_)),(3,.v (vI deep))],fun q1=>[.cells (Bp 2 q1.r),.dead,.lst .ev q1.r.out],fun q1=>LInv (B0 (Do (Int.toNat (r.plan.deep-deep))) shape end_) end_ r q1.r∧(q1.r).fail.kind=0,fun q1=>Fi q1.r⟩
theorem Amj (K:Nat) (hM:Ae0 K) (r:Mr) (shape:Int) (end_:Int) (deep:Int) (hp1:List.length (r).s≤1048576) (hp2:(r).at_≤((List.length (r).s:Nat):Int)) (hp3:(r).fail.kind=0) (hp4:((List.length (r).out:Nat):Int)+4*(((List.length (r).s:Nat):Int)-(r).at_)≤100000000) (hp5:(0:Int)≤(r).at_) (hp6: -1000000000≤end_∧end_≤9223372036854775807) (hp7:Bo (r).plan=true) (hp8:(1:Int)≤deep∧deep≤(r).plan.deep) (hp9:Int.toNat ((r).plan.deep-deep)≤K):Fun Tryz.prog 70 [vP 0,vI shape,vI end_,vI deep] [.cells (Bp 1 r),.lst .ev r.out] (.v (vB (decide ((Cj (Int.toNat ((r).plan.deep-deep)) shape end_ r).fail.kind=0)))) [.cells (Bp 2 (Cj (Int.toNat ((r).plan.deep-deep)) shape end_ r)),.dead,.lst .ev (Cj (Int.toNat ((r).plan.deep-deep)) shape end_ r).out]:=by
 have hN:Bg=274877906944:=rfl
 have hpt:=C3 hp7
 refine Ap Tryz.func70 Q5 Q5 (w:=let z15:=Cj (Int.toNat ((r).plan.deep-deep)) shape end_ r;let z16:List Blk:=[.cells (Bp 2 z15),.dead,.lst .ev z15.out];let z17:S:= .v (vB (decide (z15.fail.kind=0)));let z18:S:= .v (vB false);let z19:=Rb r shape end_ deep;(.seg [.at 0,.cut 0 6,.keep [0,1,2,3],.sel [0,1,2]] (.loop z19 fun q1=>let z4:=Aa q1.r end_;let z5:=Ae q1.r end_;let z2:=fieldAt z4.plan.shapes shape (By z5);let z1:=Au (Do (Int.toNat ((z4).plan.deep-deep))) z4 (z2.getD fld0) (z2.isSome) end_;let z3:=Bk z5;.br (.seg [.call [0,2] (.tup [.c (.int .u64 z5),vB (Aw q1.r end_)]) [.cells (Bp 1 z4),.lst .ev z4.out]] (.br (.leaf () [0,1,2]) (.seg [.call [] (.tup [vI (By z5),vI z3,vB (Ky z5)]) [],.call [] (.tup [.agg (Ew (z2.getD fld0)),vB z2.isSome]) []] (.br (.seg [.call [0,2] z18 [.cells (Bp 1 (Ay z4 2 q1.r.at_)),.lst .ev (Ay z4 2 q1.r.at_).out]] (.leaf () [0,1,2])) (.seg [.call [] (.v (vB (G4 z3))) []] (.br (.seg [.call [0,2] z18 [.cells (Bp 1 (Ay z4 3 q1.r.at_)),.lst .ev (Ay z4 3 q1.r.at_).out]] (.leaf () [0,1,2])) (.br (.seg [.call [] (.v (vB (Ez (z2.getD fld0) z3))) []] (.br (.seg [.call [0,2] z18 [.cells (Bp 1 (Ay z4 4 q1.r.at_)),.lst .ev (Ay z4 4 q1.r.at_).out]] (.leaf () [0,1,2])) (.br (.seg [.call [0,2] (.v (vB (decide (z1.fail.kind=0)))) [.cells (Bp 2 z1),.dead,.lst .ev z1.out]] (.br (.leaf () [0,1,4]) (.seg [.at 0,.keep [0,1,2,3],.sel [0,1,4]] (.next)))) (.seg [.call [0,2] (.tup [.c (.int .u64 (Cw z4 z3 end_)),vB (Cx z4 z3 end_)]) [.cells (Bp 1 (B3 z4 z3 end_)),.lst .ev (B3 z4 z3 end_).out]] (.br (.leaf () [0,1,2]) (.seg [.br true,.ord (os 13 [7,8,9,12]) [2],.call [] (.v (.agg (cEv (D9 (z2.getD fld0) (Cw z4 z3 end_))))) [],.ty .ev,.ty .ev,.at 0,.keep [0,1,2,3],.sel [0,1,5]] (.next))))))) (.br (.seg [.call [0,2] (.v (vB (decide (z1.fail.kind=0)))) [.cells (Bp 2 z1),.dead,.lst .ev z1.out]] (.br (.leaf () [0,1,4]) (.seg [.at 0,.keep [0,1,2,3],.sel [0,1,4]] (.next)))) (.seg [.call [0,2] (.tup [.c (.int .u64 (Cw z4 z3 end_)),vB (Cx z4 z3 end_)]) [.cells (Bp 1 (B3 z4 z3 end_)),.lst .ev (B3 z4 z3 end_).out]] (.br (.leaf () [0,1,2]) (.seg [.br false,.at 0,.keep [0,1,2,3],.sel [0,1,2]] (.next)))))))))))) (.leaf () [0,1,2])),z19.Has [(0,.v (vP 0)),(1,.v (vI shape)),(2,.v (vI end_)),(3,.v (vI deep))] [.cells (Bp 2 r),.dead,.lst .ev r.out]∧∀q1,z19.inv q1→(let z8:=Aa q1.r end_;let z11:=Ae q1.r end_;let z7:=fieldAt z8.plan.shapes shape (By z11);let z6:=Au (Do (Int.toNat ((z8).plan.deep-deep))) z8 (z7.getD fld0) (z7.isSome) end_;let z9:=Bk z11;let z10:=z19.Nxt q1 [(0,.v (vP 0)),(1,.v (vI shape)),(2,.v (vI end_)),(3,.v (vI deep))] [.cells (Bp 2 z6),.dead,.lst .ev z6.out];let z12:=Ay z8 2 q1.r.at_;let z13:=Ay z8 3 q1.r.at_;let z14:=Ay z8 4 q1.r.at_;Bc (decide (q1.r.at_<end_)) ((Fp 110 [vP 0,vI end_] [.cells (Bp 1 q1.r),.lst .ev q1.r.out] (.tup [.c (.int .u64 z11),vB (Aw q1.r end_)]) [.cells (Bp 1 z8),.lst .ev z8.out])∧Bc (!(Aw q1.r end_)) (Lf z18 z17 [.cells (Bp 2 z8),.dead,.lst .ev z8.out] z16) ((Fp 120 [.c (.int .u64 z11)] [] (.tup [vI (By z11),vI z9,vB (Ky z11)]) [])∧(Fp 121 [.agg [.seq .shp z8.plan.shapes],vI shape,vI (By z11)] [] (.tup [.agg (Ew (z7.getD fld0)),vB z7.isSome]) [])∧Bc (!(Ky z11)) ((Fp 111 [vP 0,vI 2,vI q1.r.at_] [.cells (Bp 1 z8),.lst .ev z8.out] z18 [.cells (Bp 1 z12),.lst .ev z12.out])∧Lf z18 z17 [.cells (Bp 2 z12),.dead,.lst .ev z12.out] z16) ((Fp 122 [vI z9] [] (.v (vB (G4 z9))) [])∧Bc (!(G4 z9)) ((Fp 111 [vP 0,vI 3,vI q1.r.at_] [.cells (Bp 1 z8),.lst .ev z8.out] z18 [.cells (Bp 1 z13),.lst .ev z13.out])∧Lf z18 z17 [.cells (Bp 2 z13),.dead,.lst .ev z13.out] z16) (Bc (z7.isSome) ((Fp 123 [.agg (Ew (z7.getD fld0)),vI z9] [] (.v (vB (Ez (z7.getD fld0) z9))) [])∧Bc (!(Ez (z7.getD fld0) z9)) ((Fp 111 [vP 0,vI 4,vI q1.r.at_] [.cells (Bp 1 z8),.lst .ev z8.out] z18 [.cells (Bp 1 z14),.lst .ev z14.out])∧Lf z18 z17 [.cells (Bp 2 z14),.dead,.lst .ev z14.out] z16) (Bc (decide (Bk z11=2)) ((Fp 124 [vP 0,.agg (Ew (z7.getD fld0)),vB z7.isSome,vI end_,vI deep] [.cells (Bp 1 z8),.lst .ev z8.out] (.v (vB (decide (z6.fail.kind=0)))) [.cells (Bp 2 z6),.dead,.lst .ev z6.out])∧Bc (!(decide (z6.fail.kind=0))) (Lf z18 z17 [.cells (Bp 2 z6),.dead,.lst .ev z6.out] z16) z10) ((Fp 125 [vP 0,vI z9,vI end_] [.cells (Bp 1 z8),.lst .ev z8.out] (.tup [.c (.int .u64 (Cw z8 z9 end_)),vB (Cx z8 z9 end_)]) [.cells (Bp 1 (B3 z8 z9 end_)),.lst .ev (B3 z8 z9 end_).out])∧Bc (!(Cx z8 z9 end_)) (Lf z18 z17 [.cells (Bp 2 (B3 z8 z9 end_)),.dead,.lst .ev (B3 z8 z9 end_).out] z16) ((z7.isSome=true)∧(Fp 126 [.agg (Ew (z7.getD fld0)),.c (.int .u64 (Cw z8 z9 end_))] [] (.v (.agg (cEv (D9 (z7.getD fld0) (Cw z8 z9 end_))))) [])∧(List.length (B3 z8 z9 end_).out+List.length [(D9 (z7.getD fld0) (Cw z8 z9 end_))]≤Bg)∧z19.Nxt q1 [(0,.v (vP 0)),(1,.v (vI shape)),(2,.v (vI end_)),(3,.v (vI deep))] [.cells (Bp 2 (B3 z8 z9 end_)),.dead,.lst .ev ((B3 z8 z9 end_).out++[(D9 (z7.getD fld0) (Cw z8 z9 end_))])])))) (Bc (decide (Bk z11=2)) ((Fp 124 [vP 0,.agg (Ew (z7.getD fld0)),vB z7.isSome,vI end_,vI deep] [.cells (Bp 1 z8),.lst .ev z8.out] (.v (vB (decide (z6.fail.kind=0)))) [.cells (Bp 2 z6),.dead,.lst .ev z6.out])∧Bc (!(decide (z6.fail.kind=0))) (Lf z18 z17 [.cells (Bp 2 z6),.dead,.lst .ev z6.out] z16) z10) ((Fp 125 [vP 0,vI z9,vI end_] [.cells (Bp 1 z8),.lst .ev z8.out] (.tup [.c (.int .u64 (Cw z8 z9 end_)),vB (Cx z8 z9 end_)]) [.cells (Bp 1 (B3 z8 z9 end_)),.lst .ev (B3 z8 z9 end_).out])∧Bc (!(Cx z8 z9 end_)) (Lf z18 z17 [.cells (Bp 2 (B3 z8 z9 end_)),.dead,.lst .ev (B3 z8 z9 end_).out] z16) ((z7.isSome=false)∧z19.Nxt q1 [(0,.v (vP 0)),(1,.v (vI shape)),(2,.v (vI end_)),(3,.v (vI deep))] [.cells (Bp 2 (B3 z8 z9 end_)),.dead,.lst .ev (B3 z8 z9 end_).out]))))))) (Lf (.v (vB true)) z17 [.cells (Bp 2 q1.r),.dead,.lst .ev q1.r.out] z16)))) Q5 ?_
 refine⟨Ca (j:=(⟨r⟩:J4)) rfl rfl (by dsimp only[Rb];exact⟨LInv.refl hp2,hp3⟩),fun (q1:J4) hq_q1=>?_⟩
 have hi_q1:LInv (B0 (Do (Int.toNat (r.plan.deep-deep))) shape end_) end_ r q1.r∧(q1.r).fail.kind=0:=hq_q1
 have hfl:=hi_q1.2
 have hat:=hi_q1.1.at_ hfl
 have hrm:=hi_q1.1.room hfl
 obtain ⟨hv,hv2,hv3⟩:=Ck (r:=q1.r) (e:=end_) hat.2
 have hvk:=Bz (r:=q1.r) (e:=end_) hfl
 have hu:=Em q1.r end_
 have hvs:=congrArg List.length hv.1.s
 have hvo:=congrArg List.length hv3
 have hvp:=hv.1.plan
 have hpl:=hvp.trans hrm.2.1
 have hsk:Cp (Aa q1.r end_).plan.shapes=true:=by rw[hpl];exact hpt.2.1
 have htw:=Yt (Ae q1.r end_)
 have hkn:=Uk (s:=shape) (n:=By (Ae q1.r end_)) hsk
 have hff:=P8 (s:=shape) (n:=By (Ae q1.r end_)) hsk
 refine dsp (fun h1 p1=>?_) fun h1 p1=>?_
 refine⟨(Jn q1.r _ Q2),fun h2=>have q2:=As h2;?_,fun h2=>have q2:=Aq h2;?_⟩
 have hok:=q2
 refine zE (Cj (Int.toNat ((r).plan.deep-deep)) shape end_ r) (Aa q1.r end_) (fun hm1=>⟨(sB ?_),Q9⟩) ?_
 rotate_left 2
 have hok:=q2
 have hk:(Aa q1.r end_).fail.kind=0:=by rw[hvk] at hok;simpa using hok
 have ha:=hv.1.at_ hk
 have hb:=hv.2 hk
 have h2:=hv2 hok
 have hvl:=Dt (r:=Aa q1.r end_) (w:=Bk (Ae q1.r end_)) (e:=end_) hk
 have hvu:=Te (Aa q1.r end_) (Bk (Ae q1.r end_)) end_
 have hvq:=congrArg List.length (Nj (r:=Aa q1.r end_) (w:=Bk (Ae q1.r end_)) (e:=end_) (by omega)).2
 refine⟨(Aju _ Q2),(Uo (Aa q1.r end_).plan.shapes _ _ Q59 (by rw[hpl];exact Gj hpt.2.1)),fun h3=>have q3:=As h3;?_,fun h3=>have q3:=Aq h3;?_⟩
 refine zE (Cj (Int.toNat ((r).plan.deep-deep)) shape end_ r) (Ay (Aa q1.r end_) 2 q1.r.at_) (fun hm1=>⟨(Fo (Aa q1.r end_) _ _),(sB ?_),Q9⟩) ?_
 rotate_left 2
 refine⟨(Ag2 _),fun h4=>have q4:=As h4;?_,fun h4=>have q4:=Aq h4;?_⟩
 refine zE (Cj (Int.toNat ((r).plan.deep-deep)) shape end_ r) (Ay (Aa q1.r end_) 3 q1.r.at_) (fun hm1=>⟨(Fo (Aa q1.r end_) _ _),(sB ?_),Q9⟩) ?_
 rotate_left 2
 refine⟨fun h5=>?_,fun h5=>?_⟩
 refine⟨(Aet ((fieldAt (Aa q1.r end_).plan.shapes shape (By (Ae q1.r end_))).getD fld0) _ Q2),fun h6=>have q6:=As h6;?_,fun h6=>have q6:=Aq h6;?_⟩
 refine zE (Cj (Int.toNat ((r).plan.deep-deep)) shape end_ r) (Ay (Aa q1.r end_) 4 q1.r.at_) (fun hm1=>⟨(Fo (Aa q1.r end_) _ _),(sB ?_),Q9⟩) ?_
 rotate_left 2
 refine dsp (fun h7 p7=>?_) fun h7 p7=>?_
 refine⟨(Aik K hM (Aa q1.r end_) ((fieldAt (Aa q1.r end_).plan.shapes shape (By (Ae q1.r end_))).getD fld0) _ _ _ Q2 Q2 (hk) Q2 Q2 Q2 (by rw[hpl];exact hp7) Q59 (by grind) (by grind) Q59),fun h8=>have q8:=As h8;have p8:=of_decide_eq_false q8;?_,fun h8=>have q8:=Aq h8;have p8:=of_decide_eq_true q8;?_⟩
 refine zE (Cj (Int.toNat ((r).plan.deep-deep)) shape end_ r) (Au (Do (Int.toNat (((Aa q1.r end_)).plan.deep-deep))) (Aa q1.r end_) ((fieldAt (Aa q1.r end_).plan.shapes shape (By (Ae q1.r end_))).getD fld0) ((fieldAt (Aa q1.r end_).plan.shapes shape (By (Ae q1.r end_))).isSome) end_) (fun hm1=>⟨(sB ?_),Q9⟩) ?_
 rotate_left 2
 exact A5 (j:=(⟨(Au (Do (Int.toNat (((Aa q1.r end_)).plan.deep-deep))) (Aa q1.r end_) ((fieldAt (Aa q1.r end_).plan.shapes shape (By (Ae q1.r end_))).getD fld0) ((fieldAt (Aa q1.r end_).plan.shapes shape (By (Ae q1.r end_))).isSome) end_)⟩:J4)) rfl rfl Q30 Q49
 refine⟨(Aj1 (Aa q1.r end_) _ _ Q2 Q2 Q2),fun h8=>have q8:=As h8;?_,fun h8=>have q8:=Aq h8;?_⟩
 refine zE (Cj (Int.toNat ((r).plan.deep-deep)) shape end_ r) (B3 (Aa q1.r end_) (Bk (Ae q1.r end_)) end_) (fun hm1=>⟨(sB ?_),Q9⟩) ?_
 rotate_left 2
 exact⟨h5,(Wf ((fieldAt (Aa q1.r end_).plan.shapes shape (By (Ae q1.r end_))).getD fld0) _ Q2),Q4,A5 (j:=(⟨(⟨(B3 (Aa q1.r end_) (Bk (Ae q1.r end_)) end_).plan,(B3 (Aa q1.r end_) (Bk (Ae q1.r end_)) end_).s,(B3 (Aa q1.r end_) (Bk (Ae q1.r end_)) end_).at_,(B3 (Aa q1.r end_) (Bk (Ae q1.r end_)) end_).out++[(D9 ((fieldAt (Aa q1.r end_).plan.shapes shape (By (Ae q1.r end_))).getD fld0) (Cw (Aa q1.r end_) (Bk (Ae q1.r end_)) end_))],(B3 (Aa q1.r end_) (Bk (Ae q1.r end_)) end_).fail⟩:Mr)⟩:J4)) rfl Q7 Q30 Q49⟩
 refine dsp (fun h6 p6=>?_) fun h6 p6=>?_
 refine⟨(Aik K hM (Aa q1.r end_) ((fieldAt (Aa q1.r end_).plan.shapes shape (By (Ae q1.r end_))).getD fld0) _ _ _ Q2 Q2 (hk) Q2 Q2 Q2 (by rw[hpl];exact hp7) Q59 (by grind) (by grind) Q59),fun h7=>have q7:=As h7;have p7:=of_decide_eq_false q7;?_,fun h7=>have q7:=Aq h7;have p7:=of_decide_eq_true q7;?_⟩
 refine zE (Cj (Int.toNat ((r).plan.deep-deep)) shape end_ r) (Au (Do (Int.toNat (((Aa q1.r end_)).plan.deep-deep))) (Aa q1.r end_) ((fieldAt (Aa q1.r end_).plan.shapes shape (By (Ae q1.r end_))).getD fld0) ((fieldAt (Aa q1.r end_).plan.shapes shape (By (Ae q1.r end_))).isSome) end_) (fun hm1=>⟨(sB ?_),Q9⟩) ?_
 rotate_left 2
 exact A5 (j:=(⟨(Au (Do (Int.toNat (((Aa q1.r end_)).plan.deep-deep))) (Aa q1.r end_) ((fieldAt (Aa q1.r end_).plan.shapes shape (By (Ae q1.r end_))).getD fld0) ((fieldAt (Aa q1.r end_).plan.shapes shape (By (Ae q1.r end_))).isSome) end_)⟩:J4)) rfl rfl Q30 Q49
 refine⟨(Aj1 (Aa q1.r end_) _ _ Q2 Q2 Q2),fun h7=>have q7:=As h7;?_,fun h7=>have q7:=Aq h7;?_⟩
 refine zE (Cj (Int.toNat ((r).plan.deep-deep)) shape end_ r) (B3 (Aa q1.r end_) (Bk (Ae q1.r end_)) end_) (fun hm1=>⟨(sB ?_),Q9⟩) ?_
 rotate_left 2
 exact⟨h5,A5 (j:=(⟨(B3 (Aa q1.r end_) (Bk (Ae q1.r end_)) end_)⟩:J4)) rfl rfl Q30 Q49⟩
 refine zE (Cj (Int.toNat ((r).plan.deep-deep)) shape end_ r) q1.r (fun hm1=>⟨(sB ?_),Q9⟩) ?_
 rotate_left 2
 all_goals first|(exact(Cr _ _ _ _).trans (hi_q1.1.end_ (by omega)))|(exact(Cr _ _ _ _).trans (hi_q1.1.bad (by assumption)))|(rw[hm1];simp[Ay,Bd, *];done)|(exact(Cr _ _ _ _).trans (hi_q1.1.leave (Ee _ _ _) (by omega) hfl (by grind (ematch:=20) (gen:=20) [B0,A6,Ag,Ay]) (by first|(exact Br _ _ _)|(simp_all;done)|(grind))))|(rw[hm1];grind)
theorem Ain: ∀K,Ae0 K
 |0=>fun r shape end_ deep hp1 hp2 hp3 hp4 hp5 hp6 hp7 hp8 hp9=>absurd hp9 (Nat.not_lt_zero _)
 |K+1=>fun r shape end_ deep hp1 hp2 hp3 hp4 hp5 hp6 hp7 hp8 hp9=>Amj K (Ain K) r shape end_ deep hp1 hp2 hp3 hp4 hp5 hp6 hp7 hp8 (Nat.le_of_lt_succ hp9)
theorem Ag6 (r:Mr) (shape:Int) (end_:Int) (deep:Int) (hp1:List.length (r).s≤1048576) (hp2:(r).at_≤((List.length (r).s:Nat):Int)) (hp3:(r).fail.kind=0) (hp4:((List.length (r).out:Nat):Int)+4*(((List.length (r).s:Nat):Int)-(r).at_)≤100000000) (hp5:(0:Int)≤(r).at_) (hp6: -1000000000≤end_∧end_≤9223372036854775807) (hp7:Bo (r).plan=true) (hp8:(1:Int)≤deep∧deep≤(r).plan.deep):Fun Tryz.prog 70 [vP 0,vI shape,vI end_,vI deep] [.cells (Bp 1 r),.lst .ev r.out] (.v (vB (decide ((Cj (Int.toNat ((r).plan.deep-deep)) shape end_ r).fail.kind=0)))) [.cells (Bp 2 (Cj (Int.toNat ((r).plan.deep-deep)) shape end_ r)),.dead,.lst .ev (Cj (Int.toNat ((r).plan.deep-deep)) shape end_ r).out]:=Ain _ r shape end_ deep hp1 hp2 hp3 hp4 hp5 hp6 hp7 hp8 (Nat.lt_succ_self _)
structure Fw where
 r:Mr
def Rc (r:Mr) (shape:Int) (end_:Int) (deep:Int):Fam:=⟨Fw,fun q1=>[(0,.v (vP 0)),(1,.v (vI shape)),(2,.v (vI end_)),(3,.v (vI deep))],fun q1=>[.cells (Bp 2 q1.r),.dead,.lst .ev q1.r.out],fun q1=>LInv (B0 (Do (Int.toNat (r.plan.deep-deep))) shape end_) end_ r q1.r,fun q1=>Fi q1.r⟩
theorem Amk (K:Nat) (hM:Ae1 K) (r:Mr) (shape:Int) (end_:Int) (deep:Int) (hp1:List.length (r).s≤1048576) (hp2:(r).at_≤((List.length (r).s:Nat):Int)) (hp3:(r).fail.kind=0) (hp4:((List.length (r).out:Nat):Int)+4*(((List.length (r).s:Nat):Int)-(r).at_)≤100000000) (hp5:(0:Int)≤(r).at_) (hp6: -1000000000≤end_∧end_≤9223372036854775807) (hp7:Bo (r).plan=true) (hp8:(1:Int)≤deep∧deep≤(r).plan.deep) (hp9:Int.toNat ((r).plan.deep-deep)≤K):Fun Tryz.prog 72 [vP 0,vI shape,vI end_,vI deep] [.cells (Bp 1 r),.lst .ev r.out] (.tup []) [.cells (Bp 2 (Cj (Int.toNat ((r).plan.deep-deep)) shape end_ r)),.dead,.lst .ev (Cj (Int.toNat ((r).plan.deep-deep)) shape end_ r).out]:=by
 have hN:Bg=274877906944:=rfl
 have hpt:=C3 hp7
 refine Ap Tryz.func72 Q5 Q5 (w:=let zi:Int→C:= .int .i64;let z13:=Rc r shape end_ deep;let z14:=Cj (Int.toNat ((r).plan.deep-deep)) shape end_ r;let z15:=vI shape;let z16:List Blk:=[.cells (Bp 2 z14),.dead,.lst .ev z14.out];(.seg [.at 0,.cut 0 6,.keep [0,1,2,3],.sel [0,1,2]] (.loop z13 fun q1=>let z4:=Ae q1.r end_;let z5:=Aa q1.r end_;let z1:=(fieldAt z5.plan.shapes shape (By z4)).getD fld0;let z2:=Au (Do (Int.toNat ((z5).plan.deep-deep))) z5 z1 (decide ((z1).number≠0)) end_;let z3:=A6 z5 z1 (Bk z4) end_;.br (.br (.seg [.call [0,2] (.v (.c (.int .u64 z4))) [.cells (Bp 1 z5),.lst .ev z5.out]] (.br (.leaf () [0,1,2]) (.seg [.call [] (.tup [vI (By z4),vI (Bk z4),vB (Ky z4)]) [],.call [] (.tup [.agg (Ew z1),vB (fieldAt z5.plan.shapes shape (By z4)).isSome]) []] (.br (.seg [.call [] (.v (.agg (cEv (Bd 2 q1.r.at_)))) [],.at 0,.keep [0,1,2,3],.sel [0,1,2]] (.next)) (.seg [.call [] (.v (vB (G4 (Bk z4)))) []] (.br (.seg [.call [] (.v (.agg (cEv (Bd 3 q1.r.at_)))) [],.at 0,.keep [0,1,2,3],.sel [0,1,2]] (.next)) (.br (.seg [.call [] (.v (vB (Ez z1 (Bk z4)))) []] (.br (.seg [.call [] (.v (.agg (cEv (Bd 4 q1.r.at_)))) [],.at 0,.keep [0,1,2,3],.sel [0,1,2]] (.next)) (.br (.seg [.call [0,2] (.tup []) [.cells (Bp 2 z2),.dead,.lst .ev z2.out],.at 0,.keep [0,1,2,3],.sel [0,1,4]] (.next)) (.seg [.call [0,2] (.tup []) [.cells (Bp 2 z3),.dead,.lst .ev z3.out],.at 0,.keep [0,1,2,3],.sel [0,1,4]] (.next))))) (.br (.seg [.call [0,2] (.tup []) [.cells (Bp 2 z2),.dead,.lst .ev z2.out],.at 0,.keep [0,1,2,3],.sel [0,1,4]] (.next)) (.seg [.call [0,2] (.tup []) [.cells (Bp 2 z3),.dead,.lst .ev z3.out],.at 0,.keep [0,1,2,3],.sel [0,1,4]] (.next)))))))))) (.leaf () [0,1,2])) (.leaf () [0,1,2])),z13.Has [(0,.v (vP 0)),(1,.v z15),(2,.v (vI end_)),(3,.v (vI deep))] [.cells (Bp 2 r),.dead,.lst .ev r.out]∧∀q1,z13.inv q1→(let z7:=Aa q1.r end_;let z8:=Ae q1.r end_;let z6:=(fieldAt z7.plan.shapes shape (By z8)).getD fld0;let z9:=Lf (.tup []) (.tup []) [.cells (Bp 2 q1.r),.dead,.lst .ev q1.r.out] z16;let z10:=Bd 2 q1.r.at_;let z11:=Bd 3 q1.r.at_;let z12:=Bd 4 q1.r.at_;Bc (decide (q1.r.at_<end_)) (Bc (decide (q1.r.fail.kind=0)) ((Fp 127 [vP 0,vI end_] [.cells (Bp 1 q1.r),.lst .ev q1.r.out] (.v (.c (.int .u64 z8))) [.cells (Bp 1 z7),.lst .ev z7.out])∧Bc (!decide (z7.fail.kind=0)) (Lf (.tup []) (.tup []) [.cells (Bp 2 z7),.dead,.lst .ev z7.out] z16) ((Fp 128 [.c (.int .u64 z8)] [] (.tup [vI (By z8),vI (Bk z8),vB (Ky z8)]) [])∧(Fp 129 [.agg [.seq .shp z7.plan.shapes],vI shape,vI (By z8)] [] (.tup [.agg (Ew z6),vB (fieldAt z7.plan.shapes shape (By z8)).isSome]) [])∧Bc (!(Ky z8)) ((Fp 113 [vI 2,vI q1.r.at_] [] (.v (.agg (cEv z10))) [])∧z13.Nxt q1 [(0,.v (vP 0)),(1,.v z15),(2,.v (vI end_)),(3,.v (vI deep))] [.cells [.seq .shp z7.plan.shapes,zi z7.plan.root,zi z7.plan.deep,zi z7.plan.most,.str z7.s,zi z7.at_,.own 2,zi z10.kind,zi z10.field,.int .u64 z10.bits,zi z10.len,.str z10.text,zi z10.code,zi z10.at_],.dead,.lst .ev z7.out]) ((Fp 130 [vI (Bk z8)] [] (.v (vB (G4 (Bk z8)))) [])∧Bc (!(G4 (Bk z8))) ((Fp 113 [vI 3,vI q1.r.at_] [] (.v (.agg (cEv z11))) [])∧z13.Nxt q1 [(0,.v (vP 0)),(1,.v z15),(2,.v (vI end_)),(3,.v (vI deep))] [.cells [.seq .shp z7.plan.shapes,zi z7.plan.root,zi z7.plan.deep,zi z7.plan.most,.str z7.s,zi z7.at_,.own 2,zi z11.kind,zi z11.field,.int .u64 z11.bits,zi z11.len,.str z11.text,zi z11.code,zi z11.at_],.dead,.lst .ev z7.out]) (Bc ((fieldAt z7.plan.shapes shape (By z8)).isSome) ((Fp 131 [.agg (Ew z6),vI (Bk z8)] [] (.v (vB (Ez z6 (Bk z8)))) [])∧Bc (!(Ez z6 (Bk z8))) ((Fp 113 [vI 4,vI q1.r.at_] [] (.v (.agg (cEv z12))) [])∧z13.Nxt q1 [(0,.v (vP 0)),(1,.v z15),(2,.v (vI end_)),(3,.v (vI deep))] [.cells [.seq .shp z7.plan.shapes,zi z7.plan.root,zi z7.plan.deep,zi z7.plan.most,.str z7.s,zi z7.at_,.own 2,zi z12.kind,zi z12.field,.int .u64 z12.bits,zi z12.len,.str z12.text,zi z12.code,zi z12.at_],.dead,.lst .ev z7.out]) (Bc (decide (Bk z8=2)) ((Fp 132 [vP 0,.agg (Ew z6),vI end_,vI deep] [.cells (Bp 1 z7),.lst .ev z7.out] (.tup []) [.cells (Bp 2 (Au (Do (Int.toNat ((z7).plan.deep-deep))) z7 z6 (decide ((z6).number≠0)) end_)),.dead,.lst .ev (Au (Do (Int.toNat ((z7).plan.deep-deep))) z7 z6 (decide ((z6).number≠0)) end_).out])∧z13.Nxt q1 [(0,.v (vP 0)),(1,.v z15),(2,.v (vI end_)),(3,.v (vI deep))] [.cells (Bp 2 (Au (Do (Int.toNat ((z7).plan.deep-deep))) z7 z6 (decide ((z6).number≠0)) end_)),.dead,.lst .ev (Au (Do (Int.toNat ((z7).plan.deep-deep))) z7 z6 (decide ((z6).number≠0)) end_).out]) ((Fp 133 [vP 0,.agg (Ew z6),vI (Bk z8),vI end_] [.cells (Bp 1 z7),.lst .ev z7.out] (.tup []) [.cells (Bp 2 (A6 z7 z6 (Bk z8) end_)),.dead,.lst .ev (A6 z7 z6 (Bk z8) end_).out])∧z13.Nxt q1 [(0,.v (vP 0)),(1,.v z15),(2,.v (vI end_)),(3,.v (vI deep))] [.cells (Bp 2 (A6 z7 z6 (Bk z8) end_)),.dead,.lst .ev (A6 z7 z6 (Bk z8) end_).out]))) (Bc (decide (Bk z8=2)) ((Fp 132 [vP 0,.agg (Ew z6),vI end_,vI deep] [.cells (Bp 1 z7),.lst .ev z7.out] (.tup []) [.cells (Bp 2 (Au (Do (Int.toNat ((z7).plan.deep-deep))) z7 z6 (decide ((z6).number≠0)) end_)),.dead,.lst .ev (Au (Do (Int.toNat ((z7).plan.deep-deep))) z7 z6 (decide ((z6).number≠0)) end_).out])∧z13.Nxt q1 [(0,.v (vP 0)),(1,.v z15),(2,.v (vI end_)),(3,.v (vI deep))] [.cells (Bp 2 (Au (Do (Int.toNat ((z7).plan.deep-deep))) z7 z6 (decide ((z6).number≠0)) end_)),.dead,.lst .ev (Au (Do (Int.toNat ((z7).plan.deep-deep))) z7 z6 (decide ((z6).number≠0)) end_).out]) ((Fp 133 [vP 0,.agg (Ew z6),vI (Bk z8),vI end_] [.cells (Bp 1 z7),.lst .ev z7.out] (.tup []) [.cells (Bp 2 (A6 z7 z6 (Bk z8) end_)),.dead,.lst .ev (A6 z7 z6 (Bk z8) end_).out])∧z13.Nxt q1 [(0,.v (vP 0)),(1,.v z15),(2,.v (vI end_)),(3,.v (vI deep))] [.cells (Bp 2 (A6 z7 z6 (Bk z8) end_)),.dead,.lst .ev (A6 z7 z6 (Bk z8) end_).out])))))) z9) z9))) Q5 ?_
 refine⟨Ca (j:=(⟨r⟩:Fw)) rfl rfl (by dsimp only[Rc];exact LInv.refl hp2),fun (q1:Fw) hq_q1=>?_⟩
 have hi_q1:LInv (B0 (Do (Int.toNat (r.plan.deep-deep))) shape end_) end_ r q1.r:=hq_q1
 refine dsp (fun h1 p1=>?_) fun h1 p1=>?_
 refine dsp (fun h2 p2=>?_) fun h2 p2=>?_
 have hfl:=p2
 have hat:=hi_q1.at_ hfl
 have hrm:=hi_q1.room hfl
 obtain ⟨hv,hv2,hv3⟩:=Ck (r:=q1.r) (e:=end_) hat.2
 have hvk:=Bz (r:=q1.r) (e:=end_) hfl
 have hu:=Em q1.r end_
 have hvs:=congrArg List.length hv.1.s
 have hvo:=congrArg List.length hv3
 have hvp:=hv.1.plan
 have hpl:=hvp.trans hrm.2.1
 have hsk:Cp (Aa q1.r end_).plan.shapes=true:=by rw[hpl];exact hpt.2.1
 have htw:=Yt (Ae q1.r end_)
 have hkn:=Uk (s:=shape) (n:=By (Ae q1.r end_)) hsk
 have hff:=P8 (s:=shape) (n:=By (Ae q1.r end_)) hsk
 refine⟨(Rz q1.r _ Q2),fun h3=>have q3:=As h3;have p3:=of_decide_eq_false q3;?_,fun h3=>have q3:=Aq h3;have p3:=of_decide_eq_true q3;?_⟩
 have hok:Aw q1.r end_=false:=by rw[hvk];simpa using q3
 refine zE (Cj (Int.toNat ((r).plan.deep-deep)) shape end_ r) (Aa q1.r end_) (fun hm1=>⟨rfl,Q9⟩) ?_
 rotate_left
 have hok:Aw q1.r end_=true:=by rw[hvk];simpa using q3
 have hk:(Aa q1.r end_).fail.kind=0:=by rw[hvk] at hok;simpa using hok
 have ha:=hv.1.at_ hk
 have hb:=hv.2 hk
 have h2:=hv2 hok
 have hvl:=Dt (r:=Aa q1.r end_) (w:=Bk (Ae q1.r end_)) (e:=end_) hk
 have hvu:=Te (Aa q1.r end_) (Bk (Ae q1.r end_)) end_
 have hvq:=congrArg List.length (Nj (r:=Aa q1.r end_) (w:=Bk (Ae q1.r end_)) (e:=end_) (by omega)).2
 refine⟨(Ajv _ Q2),(Aez (Aa q1.r end_).plan.shapes _ _ Q59 (by rw[hpl];exact Gj hpt.2.1)),fun h4=>have q4:=As h4;?_,fun h4=>have q4:=Aq h4;?_⟩
 exact⟨(Dd _ _),A5 (j:=(⟨(⟨(Aa q1.r end_).plan,(Aa q1.r end_).s,(Aa q1.r end_).at_,(Aa q1.r end_).out,(Bd 2 q1.r.at_)⟩:Mr)⟩:Fw)) rfl Q7 Q32 Q31⟩
 refine⟨(Ag3 _),fun h5=>have q5:=As h5;?_,fun h5=>have q5:=Aq h5;?_⟩
 exact⟨(Dd _ _),A5 (j:=(⟨(⟨(Aa q1.r end_).plan,(Aa q1.r end_).s,(Aa q1.r end_).at_,(Aa q1.r end_).out,(Bd 3 q1.r.at_)⟩:Mr)⟩:Fw)) rfl Q7 Q32 Q31⟩
 refine⟨fun h6=>?_,fun h6=>?_⟩
 refine⟨(Aeu ((fieldAt (Aa q1.r end_).plan.shapes shape (By (Ae q1.r end_))).getD fld0) _ Q2),fun h7=>have q7:=As h7;?_,fun h7=>have q7:=Aq h7;?_⟩
 exact⟨(Dd _ _),A5 (j:=(⟨(⟨(Aa q1.r end_).plan,(Aa q1.r end_).s,(Aa q1.r end_).at_,(Aa q1.r end_).out,(Bd 4 q1.r.at_)⟩:Mr)⟩:Fw)) rfl Q7 Q32 Q31⟩
 refine dsp (fun h8 p8=>?_) fun h8 p8=>?_
 exact⟨(Aim K hM (Aa q1.r end_) ((fieldAt (Aa q1.r end_).plan.shapes shape (By (Ae q1.r end_))).getD fld0) _ _ Q2 Q2 (hk) Q2 Q2 Q2 (by rw[hpl];exact hp7) Q59 (by grind) (by grind[G4]) Q59),A5 (j:=(⟨(Au (Do (Int.toNat (((Aa q1.r end_)).plan.deep-deep))) (Aa q1.r end_) ((fieldAt (Aa q1.r end_).plan.shapes shape (By (Ae q1.r end_))).getD fld0) (decide ((((fieldAt (Aa q1.r end_).plan.shapes shape (By (Ae q1.r end_))).getD fld0)).number≠0)) end_)⟩:Fw)) rfl rfl Q32 Q31⟩
 exact⟨(Aj2 (Aa q1.r end_) ((fieldAt (Aa q1.r end_).plan.shapes shape (By (Ae q1.r end_))).getD fld0) _ _ Q2 Q2 (hk) Q2 Q2 Q2 (by grind[G4])),A5 (j:=(⟨(A6 (Aa q1.r end_) ((fieldAt (Aa q1.r end_).plan.shapes shape (By (Ae q1.r end_))).getD fld0) (Bk (Ae q1.r end_)) end_)⟩:Fw)) rfl rfl Q32 Q31⟩
 refine dsp (fun h7 p7=>?_) fun h7 p7=>?_
 exact⟨(Aim K hM (Aa q1.r end_) ((fieldAt (Aa q1.r end_).plan.shapes shape (By (Ae q1.r end_))).getD fld0) _ _ Q2 Q2 (hk) Q2 Q2 Q2 (by rw[hpl];exact hp7) Q59 (by grind) (by grind[G4]) Q59),A5 (j:=(⟨(Au (Do (Int.toNat (((Aa q1.r end_)).plan.deep-deep))) (Aa q1.r end_) ((fieldAt (Aa q1.r end_).plan.shapes shape (By (Ae q1.r end_))).getD fld0) (decide ((((fieldAt (Aa q1.r end_).plan.shapes shape (By (Ae q1.r end_))).getD fld0)).number≠0)) end_)⟩:Fw)) rfl rfl Q32 Q31⟩
 exact⟨(Aj2 (Aa q1.r end_) ((fieldAt (Aa q1.r end_).plan.shapes shape (By (Ae q1.r end_))).getD fld0) _ _ Q2 Q2 (hk) Q2 Q2 Q2 (by grind[G4])),A5 (j:=(⟨(A6 (Aa q1.r end_) ((fieldAt (Aa q1.r end_).plan.shapes shape (By (Ae q1.r end_))).getD fld0) (Bk (Ae q1.r end_)) end_)⟩:Fw)) rfl rfl Q32 Q31⟩
 refine zE (Cj (Int.toNat ((r).plan.deep-deep)) shape end_ r) q1.r (fun hm1=>⟨rfl,Q9⟩) ?_
 rotate_left
 refine zE (Cj (Int.toNat ((r).plan.deep-deep)) shape end_ r) q1.r (fun hm1=>⟨rfl,Q9⟩) ?_
 rotate_left
 all_goals first|(exact(Cr _ _ _ _).trans (hi_q1.end_ (by omega)))|(exact(Cr _ _ _ _).trans (hi_q1.bad (by assumption)))|(rw[hm1];simp[Ay,Bd, *];done)|(exact(Cr _ _ _ _).trans (hi_q1.leave (Ee _ _ _) (by omega) hfl (by grind (ematch:=20) (gen:=20) [B0,A6,Ag,Ay]) (by first|(exact Br _ _ _)|(simp_all;done)|(grind))))|(rw[hm1];grind)
theorem Aio: ∀K,Ae1 K
 |0=>fun r shape end_ deep hp1 hp2 hp3 hp4 hp5 hp6 hp7 hp8 hp9=>absurd hp9 (Nat.not_lt_zero _)
 |K+1=>fun r shape end_ deep hp1 hp2 hp3 hp4 hp5 hp6 hp7 hp8 hp9=>Amk K (Aio K) r shape end_ deep hp1 hp2 hp3 hp4 hp5 hp6 hp7 hp8 (Nat.le_of_lt_succ hp9)
theorem Ans (r:Mr) (shape:Int) (end_:Int) (deep:Int) (hp1:List.length (r).s≤1048576) (hp2:(r).at_≤((List.length (r).s:Nat):Int)) (hp3:(r).fail.kind=0) (hp4:((List.length (r).out:Nat):Int)+4*(((List.length (r).s:Nat):Int)-(r).at_)≤100000000) (hp5:(0:Int)≤(r).at_) (hp6: -1000000000≤end_∧end_≤9223372036854775807) (hp7:Bo (r).plan=true) (hp8:(1:Int)≤deep∧deep≤(r).plan.deep):Fun Tryz.prog 72 [vP 0,vI shape,vI end_,vI deep] [.cells (Bp 1 r),.lst .ev r.out] (.tup []) [.cells (Bp 2 (Cj (Int.toNat ((r).plan.deep-deep)) shape end_ r)),.dead,.lst .ev (Cj (Int.toNat ((r).plan.deep-deep)) shape end_ r).out]:=Aio _ r shape end_ deep hp1 hp2 hp3 hp4 hp5 hp6 hp7 hp8 (Nat.lt_succ_self _)
/-! ### More told Cf -/
def Cf (o:List Ev) (r:Mr):Mr:=⟨r.plan,r.s,r.at_,o++r.out,r.fail⟩
theorem Ha (o:List Ev) (r:Mr) (e:Ev):Ag (Cf o r) e=Cf o (Ag r e):=by simp[Ag,Cf]
theorem No (o:List Ev) (r:Mr) (e:Int):Aa (Cf o r) e=Cf o (Aa r e):=by
 unfold Aa;rw[show Aw (Cf o r) e=Aw r e from rfl];split<;>rfl
theorem Ae2 (o:List Ev) (r:Mr) (w e:Int):De (Cf o r) w e=Cf o (De r w e):=by
 unfold De
 rw[show (Cf o r).at_=r.at_ from rfl,show (Cf o r).s=r.s from rfl]
 split
 ·rfl
 ·split<;>rfl
theorem Ae3 (o:List Ev) (r:Mr) (w e:Int):B3 (Cf o r) w e=Cf o (B3 r w e):=by
 unfold B3;split
 ·exact Ae2 o r _ e
 ·exact No o r e
theorem Up (o:List Ev) (r:Mr) (f:Fld) (w e:Int):A6 (Cf o r) f w e=Cf o (A6 r f w e):=by
 unfold A6
 rw[show Cx (Cf o r) w e=Cx r w e from rfl,show Cw (Cf o r) w e=Cw r w e from rfl,Ae3]
 split
 ·exact Ha o _ _
 ·rfl
theorem Pa (o:List Ev) {step:Mr→Mr} (hs: ∀r,step (Cf o r)=Cf o (step r)) (e:Int): ∀(k:Nat) (r:Mr),B5 (Du e) step k (Cf o r)=Cf o (B5 (Du e) step k r)
 |0,r=>rfl
 |k+1,r=>by
  simp only[B5]
  rw[show Du e (Cf o r)=Du e r from rfl]
  split
  ·rw[hs,Pa o hs e k]
  ·rfl
theorem Ae4 (o:List Ev) (r:Mr) (f:Fld) (e:Int):Gm (Cf o r) f e=Cf o (Gm r f e):=Pa o (fun r=>Up o r f _ e) e _ r
theorem Acz (o:List Ev) (r:Mr) (f:Fld) (n:Int):Bq (Cf o r) f n=Cf o (Bq r f n):=by
 unfold Bq
 rw[show Cy (Cf o r) f n=Cy r f n from rfl]
 split<;>simp only[Ha]
theorem Ae5 (o:List Ev) (r:Mr) (f:Fld) (n:Int):A0 (Cf o r) f n=Cf o (A0 r f n):=by
 unfold A0
 rw[show Dx (Cf o r) f n=Dx r f n from rfl,show Aj (Cf o r) n=Aj r n from rfl,show Qs (Cf o r) f n=Qs r f n from rfl,Acz,show (Cf o r).s=r.s from rfl,show (Cf o r).at_=r.at_ from rfl]
 split
 ·rfl
 split
 ·rfl
 split
 ·rfl
 ·exact Ha o (M1 (Bq r f n) (r.at_+n)) shutEv
def Tj (o:List Ev) (sub:Mr→Fld→Int→Int→Mr):Prop:= ∀(v:Mr) (f:Fld) (n s:Int),sub (Cf o v) f n s=Cf o (sub v f n s)
theorem Wi {o:List Ev} {sub:Mr→Fld→Int→Int→Mr} (hs:Tj o sub) (r:Mr) (f:Fld) (known:Bool) (e:Int):Au sub (Cf o r) f known e=Cf o (Au sub r f known e):=by
 unfold Au
 rw[show Aw (Cf o r) e=Aw r e from rfl,show Ae (Cf o r) e=Ae r e from rfl,No]
 simp only[show ∀x,(Cf o x).at_=x.at_ from fun _=>rfl,show ∀x,(Cf o x).s=x.s from fun _=>rfl]
 split
 ·rfl
 split
 ·rfl
 split
 ·split<;>rfl
 split
 ·exact hs _ _ _ _
 split
 ·exact Ae4 o _ _ _
 ·exact Ae5 o _ _ _
theorem Yw {o:List Ev} {sub:Mr→Fld→Int→Int→Mr} (hs:Tj o sub) (shape e:Int) (r:Mr):B0 sub shape e (Cf o r)=Cf o (B0 sub shape e r):=by
 unfold B0
 rw[show Aw (Cf o r) e=Aw r e from rfl,show Ae (Cf o r) e=Ae r e from rfl,No]
 simp only[show ∀x,(Cf o x).at_=x.at_ from fun _=>rfl,show ∀x,(Cf o x).plan=x.plan from fun _=>rfl]
 split
 ·rfl
 split
 ·rfl
 split
 ·rfl
 split
 ·rfl
 split
 ·exact Wi hs _ _ _ _
 ·exact Up o _ _ _ _
theorem Uq {o:List Ev} {D:Nat} (hs:Tj o (Do D)) (shape e:Int) (r:Mr):Cj D shape e (Cf o r)=Cf o (Cj D shape e r):=by
 rw[Cr,Cr]
 exact Pa o (fun r=>Yw hs shape e r) e _ r
theorem Re (o:List Ev): ∀D,Tj o (Do D)
 |0=>fun _ _ _ _=>rfl
 |D+1=>fun v f n s=>by
  simp only[Do]
  rw[show (Cf o v).at_=v.at_ from rfl,Ha,Uq (Re o D)]
  split<;>rename_i h
  ·rw[if_pos (show (Cj D f.msg (v.at_+n) (Ag v (Ci f n))).fail.kind=0 from h),Ha]
  ·rw[if_neg (show¬(Cj D f.msg (v.at_+n) (Ag v (Ci f n))).fail.kind=0 from h)]
theorem Wj (o:List Ev) (D:Nat) (shape e:Int) (r:Mr):Cj D shape e (Cf o r)=Cf o (Cj D shape e r):=Uq (Re o D) shape e r
/-! ### Where a message ends -/
theorem Abg {step:Mr→Mr} (hs:Gn step) {e:Int} (ht: ∀r:Mr,r.at_≤(r.s.length:Int)→r.fail.kind=0→(step r).fail.kind=0→(step r).at_≤e): ∀(n:Nat) (r:Mr),Fi r≤n→r.at_≤(r.s.length:Int)→r.at_≤e→r.fail.kind=0→(B5 (Du e) step (Fi r) r).fail.kind=0→(B5 (Du e) step (Fi r) r).at_=e:=by
 intro n
 induction n with
 |zero=>intro r hn hl _ h0;simp only[Fi,if_pos h0] at hn;omega
 |succ n ih=>
  intro r hn hl he h0 hk
  by_cases hg:r.at_<e
  ·have hi:=(LInv.refl (step:=step) (e:=e) hl).go hs hg h0
   rw[←hi.1.run] at hk ⊢
   by_cases h1:(step r).fail.kind=0
   ·have ha:=hi.1.at_ h1
    exact ih _ Q2 ha.2 (ht r hl h0 h1) h1 hk
   ·rw[B6 (by simp[Du,h1])] at hk
    exact(h1 hk).elim
  ·rw[B6 (by simp[Du];omega)];omega
theorem Tk {r:Mr} {e:Int} (h0:r.fail.kind=0) (hl:r.at_≤(r.s.length:Int)) (hk:(Aa r e).fail.kind=0):(Aa r e).at_≤e:=by
 have:=Bz (e:=e) h0
 rw[hk] at this
 exact((Ck hl).2.1 (by simpa using this)).2
theorem R3 {r:Mr} {f:Fld} {w e:Int} (h0:r.fail.kind=0) (hl:r.at_≤(r.s.length:Int)) (hk:(A6 r f w e).fail.kind=0):(A6 r f w e).at_≤e:=by
 have hv:(B3 r w e).fail.kind=0→(B3 r w e).at_≤e:=fun h=>by
  unfold B3 at h ⊢
  split
  ·rename_i hw
   rw[if_pos hw] at h
   unfold De at h ⊢
   split
   ·rename_i h2;rw[if_pos h2] at h;exact(Br _ _ _ h).elim
   ·rename_i h2
    rw[if_neg h2] at h
    split
    ·show r.at_+A3 w≤e;omega
    ·rename_i h3;rw[if_neg h3] at h;exact(Br _ _ _ h).elim
  ·rename_i hw
   rw[if_neg hw] at h
   exact Tk h0 hl h
 unfold A6 at hk ⊢
 split
 ·rename_i h;rw[if_pos h] at hk;exact hv hk
 ·rename_i h;rw[if_neg h] at hk;exact hv hk
def Ag7 (sub:Mr→Fld→Int→Int→Mr):Prop:= ∀(v:Mr) (f:Fld) (n s:Int),v.at_≤(v.s.length:Int)→v.fail.kind=0→0≤n→(sub v f n s).fail.kind=0→(sub v f n s).at_=v.at_+n
theorem Ac0 {r:Mr} {f:Fld} {n:Int} (hk:(A0 r f n).fail.kind=0):(A0 r f n).at_=r.at_+n:=by
 unfold A0 at hk ⊢
 split
 ·rename_i h;rw[if_pos h] at hk;exact(Br _ _ _ hk).elim
 rename_i h;rw[if_neg h] at hk
 split
 ·rename_i h;rw[if_pos h] at hk;exact(Br _ _ _ hk).elim
 rename_i h;rw[if_neg h] at hk
 split
 ·rename_i h;rw[if_pos h] at hk;exact(Br _ _ _ hk).elim
 ·rfl
theorem Z7 {sub:Mr→Fld→Int→Int→Mr} (ht:Ag7 sub) {r:Mr} {f:Fld} {known:Bool} {e:Int} (h0:r.fail.kind=0) (hl:r.at_≤(r.s.length:Int)) (hk:(Au sub r f known e).fail.kind=0):(Au sub r f known e).at_≤e:=by
 have hv:=Ck (e:=e) hl
 have hu:=Em r e
 unfold Au at hk ⊢
 split
 ·rename_i h;rw[if_pos h] at hk;exact Tk h0 hl hk
 rename_i hok;rw[if_neg hok] at hk
 have hok:Aw r e=true:=by simpa using hok
 have hvk:(Aa r e).fail.kind=0:=by rw[Bz h0] at hok;simpa using hok
 have ha:=hv.1.1.at_ hvk
 have hs:=congrArg List.length hv.1.1.s
 split
 ·rename_i h;rw[if_pos h] at hk;exact(Br _ _ _ hk).elim
 rename_i hn;rw[if_neg hn] at hk
 split
 ·rename_i h;rw[if_pos h] at hk
  split
  ·rename_i h2;rw[if_pos h2] at hk;exact(Br _ _ _ hk).elim
  ·show (Aa r e).at_+Ae r e≤e;omega
 rename_i h;rw[if_neg h] at hk
 split
 ·rename_i h2;rw[if_pos h2] at hk
  rw[ht _ _ _ _ (by omega) hvk hu.1 hk];omega
 rename_i h2;rw[if_neg h2] at hk
 split
 ·rename_i h3;rw[if_pos h3] at hk
  have:=Abg (Ga f (Bn f.kind) ((Aa r e).at_+Ae r e)) (fun r hl h0 hk=>R3 h0 hl hk) _ (Aa r e) (Nat.le_refl _) (by omega) (by omega) hvk hk
  show (Gm (Aa r e) f ((Aa r e).at_+Ae r e)).at_≤e
  unfold Gm;rw[this];omega
 ·rename_i h3;rw[if_neg h3] at hk
  rw[Ac0 hk];omega
theorem R4 {sub:Mr→Fld→Int→Int→Mr} (ht:Ag7 sub) {shape e:Int} {r:Mr} (h0:r.fail.kind=0) (hl:r.at_≤(r.s.length:Int)) (hk:(B0 sub shape e r).fail.kind=0):(B0 sub shape e r).at_≤e:=by
 have hv:=Ck (e:=e) hl
 unfold B0 at hk ⊢
 split
 ·rename_i h;rw[if_pos h] at hk;exact Tk h0 hl hk
 rename_i hok;rw[if_neg hok] at hk
 have hok:Aw r e=true:=by simpa using hok
 have hvk:(Aa r e).fail.kind=0:=by rw[Bz h0] at hok;simpa using hok
 have ha:=hv.1.1.at_ hvk
 have hs:=congrArg List.length hv.1.1.s
 split
 ·rename_i h;rw[if_pos h] at hk;exact(Br _ _ _ hk).elim
 rename_i h;rw[if_neg h] at hk
 split
 ·rename_i h;rw[if_pos h] at hk;exact(Br _ _ _ hk).elim
 rename_i h;rw[if_neg h] at hk
 split
 ·rename_i h;rw[if_pos h] at hk;exact(Br _ _ _ hk).elim
 rename_i h;rw[if_neg h] at hk
 split
 ·rename_i h;rw[if_pos h] at hk;exact Z7 ht hvk (by omega) hk
 ·rename_i h;rw[if_neg h] at hk;exact R3 hvk (by omega) hk
theorem Ae6 {D:Nat} (ht:Ag7 (Do D)) {shape e:Int} {r:Mr} (hl:r.at_≤(r.s.length:Int)) (he:r.at_≤e) (h0:r.fail.kind=0) (hk:(Cj D shape e r).fail.kind=0):(Cj D shape e r).at_=e:=by
 rw[Cr] at hk ⊢
 exact Abg (Ee D shape e) (fun r hl h0 hk=>R4 ht h0 hl hk) _ r (Nat.le_refl _) hl he h0 hk
theorem Xm: ∀D,Ag7 (Do D)
 |0=>fun v f n s _ _ _ hk=>(Br _ _ _ hk).elim
 |D+1=>fun v f n s hl h0 hn hk=>by
  have hm:=Ae6 (Xm D) (shape:=f.msg) (e:=v.at_+n) (r:=Ag v (Ci f n)) hl (by show v.at_≤v.at_+n;omega) h0
  simp only[Do] at hk ⊢
  split
  ·rename_i h;exact hm h
  ·rename_i h;rw[if_neg h] at hk;exact hm hk
theorem Xn {D:Nat} {shape e:Int} {r:Mr} (hl:r.at_≤(r.s.length:Int)) (he:r.at_≤e) (h0:r.fail.kind=0) (hk:(Cj D shape e r).fail.kind=0):(Cj D shape e r).at_=e:=Ae6 (Xm D) hl he h0 hk
/-! ### Whole inputs -/
def mr0 (p:Pln) (s:List UInt8) (a:Int):Mr:=⟨p,s,a,[],ev0⟩
def B1 (n:Int):Ev:=⟨1,0,0,n,[],0,0⟩
def frameEndEv:Ev:=⟨8,0,0,0,[],0,0⟩
def K9 (a:Int):Ev:=⟨9,0,0,0,[],0,a⟩
def maxI:Int:=9223372036854775807
def Bu (r:Mr):Mr:=Cj (Int.toNat (r.plan.deep-1)) r.plan.root ((Aa r maxI).at_+Ae r maxI) (Ag (Aa r maxI) (B1 (Ae r maxI)))
def frmStep (r:Mr):Mr:=
 if Aw r maxI=false then Aa r maxI
 else if r.plan.most<Ae r maxI then Ay (Aa r maxI) 7 r.at_
 else if (Bu r).fail.kind=0 then Ag (Bu r) frameEndEv else Bu r
theorem E9 {r:Mr} (hl:r.at_≤(r.s.length:Int)) (h0:r.fail.kind=0):Adv1 r (frmStep r):=by
 obtain ⟨hv,hv2,hv3⟩:=Ck (e:=maxI) hl
 unfold frmStep
 split
 ·exact hv
 ·rename_i hok
  have hok:Aw r maxI=true:=by simpa using hok
  have hk:(Aa r maxI).fail.kind=0:=by rw[Bz h0] at hok;simpa using hok
  have ha:=hv.1.at_ hk
  have hs:=congrArg List.length hv.1.s
  have hl':(Aa r maxI).at_≤((Aa r maxI).s.length:Int):=by omega
  have hr:=(Adv.refl (Aa r maxI) hl').b
  have hm0:AdvB 0 (Ag (Aa r maxI) (B1 (Ae r maxI))) (Bu r):=(N9 (r:=Ag (Aa r maxI) (B1 (Ae r maxI))) hl').b
  have hm:AdvB (0+1+0) (Aa r maxI) (Bu r):=(hr.tell (B1 (Ae r maxI))).trans hk hm0
  split
  ·exact hv.after hv3 hk (hr.failed _ _) (by decide)
  split
  ·exact hv.after hv3 hk (hm.tell _) (by decide)
  ·exact hv.after hv3 hk hm (by decide)
structure Wh where
 r:Mr
 ends:List Int
def S4 (w:Wh):Bool:=Du (w.r.s.length:Int) w.r
def Cd (w:Wh):Wh:=⟨frmStep w.r,if (frmStep w.r).fail.kind=0 then w.ends++[(frmStep w.r).at_] else w.ends⟩
def Ae7 (w:Wh):Wh:=B5 S4 Cd (Fi w.r) w
def wh0 (p:Pln) (s:List UInt8):Wh:=⟨mr0 p s 0,[0]⟩
def Ce (p:Pln) (s:List UInt8):Wh:=Ae7 (wh0 p s)
def Bs (p:Pln) (s:List UInt8):List Ev:=(Ce p s).r.out++[if (Ce p s).r.fail.kind=0 then K9 (s.length:Int) else (Ce p s).r.fail]
structure WInv (w0 q:Wh):Prop where
 adv:Adv w0.r q.r
 ends:q.r.fail.kind=0→(q.ends.length:Int)≤1+q.r.at_
 run:Ae7 q=Ae7 w0
theorem WInv.refl {p:Pln} {s:List UInt8} :WInv (wh0 p s) (wh0 p s):=⟨Adv.refl _ (by simp[wh0,mr0]),fun _=>by simp[wh0,mr0],rfl⟩
theorem WInv.room {p:Pln} {s:List UInt8} {q:Wh} (h:WInv (wh0 p s) q) (hk:q.r.fail.kind=0):q.r.s=s∧q.r.plan=p∧0≤q.r.at_∧q.r.at_≤(s.length:Int)∧(q.r.out.length:Int)+4*((s.length:Int)-q.r.at_)≤4*(s.length:Int)∧q.r.fail=ev0:=by
 have:=h.adv.at_ hk
 have hr:=h.adv.room hk
 refine⟨h.adv.s,h.adv.plan,this.1,this.2,?_,h.adv.fail hk⟩
 simpa [wh0,mr0] using hr
theorem WInv.next {p:Pln} {s:List UInt8} {q x:Wh} (h:WInv (wh0 p s) q) (hg:q.r.at_<(s.length:Int)) (hk:q.r.fail.kind=0) (hx:Cd q=x):WInv (wh0 p s) x∧Fi x.r<Fi q.r:=by
 subst hx
 obtain ⟨h1,h2,h3,h4,h5,_⟩:=h.room hk
 have hl:q.r.at_≤(q.r.s.length:Int):=by rw[h1];exact h4
 have hf:=E9 hl hk
 have hgo:S4 q=true:=by simp[S4,Du,h1,hg,hk]
 refine⟨⟨h.adv.trans hk hf.1,fun hk2=>?_,?_⟩,Jd hl hk hf⟩
 ·have:=h.ends hk
  have:=hf.2 hk2
  have hk3:(frmStep q.r).fail.kind=0:=hk2
  simp only[Cd,if_pos hk3,List.length_append,List.length_cons,List.length_nil];omega
 ·rw[←h.run]
  refine(Xi (fun w:Wh=>w.r.at_≤(w.r.s.length:Int)∨w.r.fail.kind≠0) (fun w=>Fi w.r) (fun a hi hg=>?_) (.inl hl) hgo).symm
  have hk':a.r.fail.kind=0:=E8 hg
  have hl:a.r.at_≤(a.r.s.length:Int):=hi.resolve_right (fun h=>h hk')
  have hf:=E9 hl hk'
  refine⟨?_,Jd hl hk' hf⟩
  by_cases hk2:(frmStep a.r).fail.kind=0
  ·left
   show (frmStep a.r).at_≤((frmStep a.r).s.length:Int)
   rw[hf.1.s];exact(hf.1.at_ hk2).2
  ·exact .inr hk2
theorem WInv.stop {w0 q:Wh} (h:WInv w0 q) (hg:S4 q=false):Ae7 w0=q:=by rw[←h.run];exact B6 hg
theorem WInv.end_ {p:Pln} {s:List UInt8} {q:Wh} (h:WInv (wh0 p s) q) (hg: ¬q.r.at_<(s.length:Int)):Ce p s=q:=h.stop (by
 have:q.r.s=s:=h.adv.s
 simp[S4,Du,this];omega)
theorem WInv.leave {p:Pln} {s:List UInt8} {q x:Wh} (h:WInv (wh0 p s) q) (hg:q.r.at_<(s.length:Int)) (hk:q.r.fail.kind=0) (hx:Cd q=x) (hx2:x.r.fail.kind≠0):Ce p s=x:=
 (h.next hg hk hx).1.stop (by simp[S4,Du,hx2])
theorem Ae8 {s:List UInt8} {a e e':Int} (he:(s.length:Int)<e) (he':(s.length:Int)<e'): ∀(f:Nat) (k u:Int),a+k≤(s.length:Int)→vwA s a e f k u=vwA s a e' f k u
 |0,k,u,_=>rfl
 |f+1,k,u,h=>by
  rw[vwA,vwA,if_neg (show¬e≤a+k by omega),if_neg (show¬e'≤a+k by omega)]
  split
  ·rfl
  split
  ·rfl
  split
  ·rfl
  ·exact Ae8 he he' f (k+1) _ (by omega)
theorem Xo {s:List UInt8} {a e e':Int} (he:(s.length:Int)<e) (he':(s.length:Int)<e'):Ad s a e=Ad s a e':=by
 unfold Ad
 split
 ·rename_i hw
  have:=Bb hw
  rw[Ae8 he he' 10 0 0 (by omega)]
 ·rfl
def J5 (p:Pln) (shape:Int) (s:List UInt8) (a e deep:Int):Bool:=Bo p&&Ak shape 0 ((p.shapes.length:Int)-1)&&Ak a 0 (s.length:Int)&&decide (a≤e)&&Ak deep 1 p.deep
def A1 (p:Pln) (shape:Int) (s:List UInt8) (a e deep:Int):Mr:=if J5 p shape s a e deep then Cj (Int.toNat (p.deep-deep)) shape e (mr0 p s a) else mr0 p s a
theorem Anj {s:List UInt8} (hl:s.length≤4000) (a:Int):Ad s a 8000=Ad s a maxI:=Xo (by omega) (by unfold maxI;omega)
theorem Ur {p:Pln} {s:List UInt8} {a:Int} {o:List Ev} (hl:s.length≤4000):Aw ⟨p,s,a,o,ev0⟩ maxI=decide ((Ad s a 8000).2.2=0):=by rw[Anj hl];rfl
theorem Rf {p:Pln} {s:List UInt8} {a:Int} {o:List Ev} (hl:s.length≤4000) (h:(Ad s a 8000).2.2=0):Aw ⟨p,s,a,o,ev0⟩ maxI=true∧Aa ⟨p,s,a,o,ev0⟩ maxI=⟨p,s,(Ad s a 8000).2.1,o,ev0⟩∧Ae ⟨p,s,a,o,ev0⟩ maxI=(Ad s a 8000).1:=by
 have hok:Aw ⟨p,s,a,o,ev0⟩ maxI=true:=by rw[Ur hl];simpa using h
 refine⟨hok,?_,?_⟩
 ·rw[Td hok,Anj hl];rfl
 ·unfold Ae;rw[if_pos hok,Anj hl]
theorem Amm {p:Pln} {s:List UInt8} {a:Int} {o:List Ev} {e:List Int} (hl:s.length≤4000) (h: ¬(Ad s a 8000).2.2=0):Cd ⟨⟨p,s,a,o,ev0⟩,e⟩=⟨⟨p,s,a,o,Bd (Ad s a 8000).2.2 (Ad s a 8000).2.1⟩,e⟩:=by
 have hok:Aw ⟨p,s,a,o,ev0⟩ maxI=false:=by rw[Ur hl];simpa using h
 have hv:=Ni hok
 have hf:frmStep ⟨p,s,a,o,ev0⟩=Aa ⟨p,s,a,o,ev0⟩ maxI:=by unfold frmStep;rw[if_pos hok]
 unfold Cd
 simp only[hf,hv]
 rw[if_neg (Br _ _ _),Anj hl]
 rfl
theorem Aj3 {p:Pln} {s:List UInt8} {a:Int} {o:List Ev} {e:List Int} (hl:s.length≤4000) (h:(Ad s a 8000).2.2=0) (hm:p.most<(Ad s a 8000).1):Cd ⟨⟨p,s,a,o,ev0⟩,e⟩=⟨⟨p,s,(Ad s a 8000).2.1,o,Bd 7 a⟩,e⟩:=by
 obtain ⟨h1,h2,h3⟩:=Rf (p:=p) (o:=o) hl h
 have hf:frmStep ⟨p,s,a,o,ev0⟩=Ay ⟨p,s,(Ad s a 8000).2.1,o,ev0⟩ 7 a:=by
  unfold frmStep;rw[if_neg (by simp[h1]),h3,if_pos hm,h2]
 unfold Cd
 simp only[hf]
 rw[if_neg (Br _ _ _)]
 rfl
theorem Rg {p:Pln} {s:List UInt8} {a:Int} {o:List Ev} (hp:Bo p=true) (hl:s.length≤4000) (h:(Ad s a 8000).2.2=0):Bu ⟨p,s,a,o,ev0⟩=Cf (o++[B1 (Ad s a 8000).1]) (A1 p p.root s (Ad s a 8000).2.1 ((Ad s a 8000).2.1+(Ad s a 8000).1) 1):=by
 obtain ⟨h1,h2,h3⟩:=Rf (p:=p) (o:=o) hl h
 have hw:=Ht h
 have hb:=J2 s a 8000
 have ht:=C3 hp
 have hr:J5 p p.root s (Ad s a 8000).2.1 ((Ad s a 8000).2.1+(Ad s a 8000).1) 1=true:=by
  simp only[J5,Ak,Bool.and_eq_true,decide_eq_true_eq]
  exact⟨⟨⟨⟨hp,by omega,by omega⟩,by omega,by omega⟩,by omega⟩,by omega,by omega⟩
 unfold Bu A1
 rw[if_pos hr,h2,h3,←Wj]
 simp[Ag,Cf,mr0]
theorem Amn {p:Pln} {s:List UInt8} {a:Int} {o:List Ev} {e:List Int} (hp:Bo p=true) (hl:s.length≤4000) (h:(Ad s a 8000).2.2=0) (hm: ¬p.most<(Ad s a 8000).1) (hk: ¬(A1 p p.root s (Ad s a 8000).2.1 ((Ad s a 8000).2.1+(Ad s a 8000).1) 1).fail.kind=0):
  Cd ⟨⟨p,s,a,o,ev0⟩,e⟩=⟨Cf (o++[B1 (Ad s a 8000).1]) (A1 p p.root s (Ad s a 8000).2.1 ((Ad s a 8000).2.1+(Ad s a 8000).1) 1),e⟩:=by
 obtain ⟨h1,h2,h3⟩:=Rf (p:=p) (o:=o) hl h
 have hf:frmStep ⟨p,s,a,o,ev0⟩=Bu ⟨p,s,a,o,ev0⟩:=by
  unfold frmStep;rw[if_neg (by simp[h1]),h3,if_neg hm,Rg hp hl h,if_neg (show¬(Cf (o++[B1 (Ad s a 8000).1]) (A1 p p.root s (Ad s a 8000).2.1 ((Ad s a 8000).2.1+(Ad s a 8000).1) 1)).fail.kind=0 from hk)]
 unfold Cd
 simp only[hf,Rg hp hl h]
 rw[if_neg (show¬(Cf (o++[B1 (Ad s a 8000).1]) (A1 p p.root s (Ad s a 8000).2.1 ((Ad s a 8000).2.1+(Ad s a 8000).1) 1)).fail.kind=0 from hk)]
theorem P9 {p:Pln} {shape:Int} {s:List UInt8} {a e d:Int} (hl:a≤(s.length:Int)):Adv (mr0 p s a) (A1 p shape s a e d):=by
 unfold A1;split
 ·exact N9 (r:=mr0 p s a) hl
 ·exact Adv.refl (mr0 p s a) hl
theorem Amo {p:Pln} {s:List UInt8} {a:Int} {o:List Ev} {e:List Int} (hp:Bo p=true) (hl:s.length≤4000) (h:(Ad s a 8000).2.2=0) (hm: ¬p.most<(Ad s a 8000).1) (hk:(A1 p p.root s (Ad s a 8000).2.1 ((Ad s a 8000).2.1+(Ad s a 8000).1) 1).fail.kind=0):
  Cd ⟨⟨p,s,a,o,ev0⟩,e⟩=⟨⟨p,s,(Ad s a 8000).2.1+(Ad s a 8000).1,((o++[B1 (Ad s a 8000).1])++(A1 p p.root s (Ad s a 8000).2.1 ((Ad s a 8000).2.1+(Ad s a 8000).1) 1).out)++[frameEndEv],ev0⟩,e++[(Ad s a 8000).2.1+(Ad s a 8000).1]⟩:=by
 obtain ⟨h1,h2,h3⟩:=Rf (p:=p) (o:=o) hl h
 have hw:=Ht h
 have hb:=J2 s a 8000
 have hf:frmStep ⟨p,s,a,o,ev0⟩=Ag (Bu ⟨p,s,a,o,ev0⟩) frameEndEv:=by
  unfold frmStep;rw[if_neg (by simp[h1]),h3,if_neg hm,Rg hp hl h,if_pos (show (Cf (o++[B1 (Ad s a 8000).1]) (A1 p p.root s (Ad s a 8000).2.1 ((Ad s a 8000).2.1+(Ad s a 8000).1) 1)).fail.kind=0 from hk)]
 have hadv:=P9 (p:=p) (shape:=p.root) (s:=s) (a:=(Ad s a 8000).2.1) (e:=(Ad s a 8000).2.1+(Ad s a 8000).1) (d:=1) (by omega)
 have hat:(A1 p p.root s (Ad s a 8000).2.1 ((Ad s a 8000).2.1+(Ad s a 8000).1) 1).at_=(Ad s a 8000).2.1+(Ad s a 8000).1:=by
  have hfr:=Rg (o:=o) hp hl h
  have hk2:(Bu ⟨p,s,a,o,ev0⟩).fail.kind=0:=by rw[hfr];exact hk
  have hat2:(Bu ⟨p,s,a,o,ev0⟩).at_=(Aa ⟨p,s,a,o,ev0⟩ maxI).at_+Ae ⟨p,s,a,o,ev0⟩ maxI:=by
   refine Xn ?_ ?_ ?_ hk2
   ·rw[h2];show (Ad s a 8000).2.1≤(s.length:Int);omega
   ·rw[h2,h3];show (Ad s a 8000).2.1≤(Ad s a 8000).2.1+(Ad s a 8000).1;omega
   ·rw[h2];rfl
  rw[hfr,h2,h3] at hat2
  exact hat2
 have hfa:(A1 p p.root s (Ad s a 8000).2.1 ((Ad s a 8000).2.1+(Ad s a 8000).1) 1).fail=ev0:=hadv.fail hk
 have hpl:(A1 p p.root s (Ad s a 8000).2.1 ((Ad s a 8000).2.1+(Ad s a 8000).1) 1).plan=p:=hadv.plan
 have hs:(A1 p p.root s (Ad s a 8000).2.1 ((Ad s a 8000).2.1+(Ad s a 8000).1) 1).s=s:=hadv.s
 unfold Cd
 simp only[hf,Rg hp hl h]
 rw[if_pos (show (Ag (Cf (o++[B1 (Ad s a 8000).1]) (A1 p p.root s (Ad s a 8000).2.1 ((Ad s a 8000).2.1+(Ad s a 8000).1) 1)) frameEndEv).fail.kind=0 from hk)]
 simp only[Ag,Cf,hat,hfa,hpl,hs]
def Az (p:Pln) (s:List UInt8):List Ev:=if Bo p=true∧s.length≤4000 then Bs p s else []
def En (p:Pln) (s:List UInt8):Int:=Lm (Az p s) 8
theorem Pb {p:Pln} {s:List UInt8} (hs:s.length≤4000):(Bs p s).length≤16001:=by
 suffices h:((Ce p s).r.out.length:Int)≤16000 by
  unfold Bs;rw[List.length_append];simp only[List.length_cons,List.length_nil];omega
 have key: ∀(k:Nat) (w:Wh),w.r.at_≤(w.r.s.length:Int)→Adv w.r (B5 S4 Cd k w).r:=by
  intro k
  induction k with
  |zero=>intro w h;exact Adv.refl _ h
  |succ k ih=>
   intro w h
   unfold B5
   cases hg:S4 w with
   |false=>exact Adv.refl _ h
   |true=>
    have hk:w.r.fail.kind=0:=E8 hg
    have hf:=E9 h hk
    simp only[if_true]
    by_cases hk2:(frmStep w.r).fail.kind=0
    ·exact hf.1.trans hk2 (ih (Cd w) (by show (frmStep w.r).at_≤((frmStep w.r).s.length:Int);rw[hf.1.s];exact(hf.1.at_ hk2).2))
    ·have:B5 S4 Cd k (Cd w)=Cd w:=B6 (by
      cases hg':S4 (Cd w) with
      |false=>rfl
      |true=>exact(hk2 (E8 hg')).elim)
     rw[this];exact hf.1
 have:=(key (Fi (wh0 p s).r) (wh0 p s) (by simp[wh0,mr0])).most
 have e:(Ce p s)=B5 S4 Cd (Fi (wh0 p s).r) (wh0 p s):=rfl
 rw[e]
 simp only[wh0,mr0,List.length_nil] at this ⊢
 omega
theorem R5 (r:Mr):frmStep r=if Aw r 9223372036854775807=false then Aa r 9223372036854775807 else if r.plan.most<Ae r 9223372036854775807 then Ay (Aa r 9223372036854775807) 7 r.at_ else if (Bu r).fail.kind=0 then Ag (Bu r) frameEndEv else Bu r:=rfl
theorem Us (r:Mr):Bu r=Cj (Int.toNat (r.plan.deep-1)) r.plan.root ((Aa r 9223372036854775807).at_+Ae r 9223372036854775807) (Ag (Aa r 9223372036854775807) (B1 (Ae r 9223372036854775807))):=rfl
theorem Yx (p:Pln) (shape:Int) (s:List UInt8) (at_:Int) (end_:Int) (deep:Int) (hp1:s.length≤1048576) (hp2:end_≤9223372036854775807):Fun Tryz.prog 21 [.agg (Dm p),vI shape,vT s,vI at_,vI end_,vI deep] [] (.tup [vO 0,.agg (cEv (A1 p shape s at_ end_ deep).fail)]) [.lst .ev (A1 p shape s at_ end_ deep).out]:=by
 have hN:Bg=274877906944:=rfl
 refine Ap Tryz.func21 Q5 Q5 (w:=let zi:Int→C:= .int .i64;let z1:List C:=[zi 0,zi 0,.int .u64 0,zi 0,.str [],zi 0,zi 0];let z4:=(p.shapes.length:Int)-1;let z5:=A1 p shape s at_ end_ deep;let z6:=Ak at_ 0 (s.length:Int);let z8:=([]:List Ev);let z7:=(⟨p,s,at_,z8,(⟨0,0,0,0,[],0,0⟩:Ev)⟩:Mr);let z2:=Cj (Int.toNat ((z7).plan.deep-deep)) shape end_ z7;let z9:=Ak deep 1 p.deep;let z10:List Blk:=[.cells (Bp 2 z2),.dead,.lst .ev z2.out];let z11:=Ak shape 0 z4;let z12:S:= .tup [vO 0,.agg (cEv z5.fail)];let z3:=Lf (.tup [vO 0,.agg z1]) z12 [.lst .ev z8] [.lst .ev z5.out];(.seg [.call [] (.v (vB (Bo p))) []] (.br (.seg [.ty .ev] (.leaf () [2])) (.seg [.as 24 (.v (vI z4)),.call [] (.v (vB z11)) []] (.br (.seg [.ty .ev] (.leaf () [2])) (.seg [.call [] (.v (vB z6)) []] (.br (.seg [.ty .ev] (.leaf () [2])) (.br (.seg [.ty .ev] (.leaf () [2])) (.seg [.call [] (.v (vB z9)) []] (.br (.seg [.ty .ev] (.leaf () [2])) (.seg [.at 5,.mk 2 6 .ev,.call [2,3] (.tup []) z10,.ord [(1,true),(2,true),(3,true),(4,true),(6,true),(7,true),(8,true),(9,true),(0,false),(5,false),(10,true),(11,false)] [4],.ty .ev,.ty .ev] (.leaf () [6])))))))))),(Fp 42 [.agg (Dm p)] [] (.v (vB (Bo p))) [])∧Bc (!(Bo p)) z3 ((wI z4)∧(Fp 71 [vI shape,vI 0,vI z4] [] (.v (vB z11)) [])∧Bc (!z11) z3 ((Fp 71 [vI at_,vI 0,vI (s.length:Int)] [] (.v (vB z6)) [])∧Bc (!z6) z3 (Bc (decide (end_<at_)) z3 ((Fp 71 [vI deep,vI 1,vI p.deep] [] (.v (vB z9)) [])∧Bc (!z9) z3 ((Fp 72 [vP 0,vI shape,vI end_,vI deep] [.cells (.seq .shp p.shapes::zi p.root::zi p.deep::zi p.most:: .str s::zi at_:: .own 1::z1),.lst .ev z8] (.tup []) z10)∧(z8.length+z2.out.length≤Bg)∧Lf (.tup [vO 0,.agg (cEv z2.fail)]) z12 [.lst .ev (z8++z2.out)] [.lst .ev z5.out]))))))) Q5 ?_
 refine⟨(Xk p),fun h1=>have q1:=As h1;?_,fun h1=>have q1:=Aq h1;have p1:=C3 q1;?_⟩
 refine zD ((A1 p shape s at_ end_ deep).fail) (⟨0,0,0,0,[],0,0⟩:Ev) ((A1 p shape s at_ end_ deep).out) ([]:List Ev) (fun hm1 hm2=>⟨(congrArg S.tup (Af rfl (Af (congrArg V.agg (Af (congrArg (C.int .i64) ?_) (Af (congrArg (C.int .i64) ?_) (Af (congrArg (C.int .u64) ?_) (Af (congrArg (C.int .i64) ?_) (Af (congrArg C.str ?_) (Af (congrArg (C.int .i64) ?_) (Af (congrArg (C.int .i64) ?_) rfl)))))))) rfl))),Q55⟩) ?_ ?_
 rotate_left 9
 have hpt:=C3 q1
 refine⟨(Ac Q2 Q2),(B9 _ _ _),fun h2=>have q2:=As h2;have p2:=Bf q2;?_,fun h2=>have q2:=Aq h2;have p2:=Bb q2;?_⟩
 refine zD ((A1 p shape s at_ end_ deep).fail) (⟨0,0,0,0,[],0,0⟩:Ev) ((A1 p shape s at_ end_ deep).out) ([]:List Ev) (fun hm1 hm2=>⟨(congrArg S.tup (Af rfl (Af (congrArg V.agg (Af (congrArg (C.int .i64) ?_) (Af (congrArg (C.int .i64) ?_) (Af (congrArg (C.int .u64) ?_) (Af (congrArg (C.int .i64) ?_) (Af (congrArg C.str ?_) (Af (congrArg (C.int .i64) ?_) (Af (congrArg (C.int .i64) ?_) rfl)))))))) rfl))),Q55⟩) ?_ ?_
 rotate_left 9
 refine⟨(B9 _ _ _),fun h3=>have q3:=As h3;have p3:=Bf q3;?_,fun h3=>have q3:=Aq h3;have p3:=Bb q3;?_⟩
 refine zD ((A1 p shape s at_ end_ deep).fail) (⟨0,0,0,0,[],0,0⟩:Ev) ((A1 p shape s at_ end_ deep).out) ([]:List Ev) (fun hm1 hm2=>⟨(congrArg S.tup (Af rfl (Af (congrArg V.agg (Af (congrArg (C.int .i64) ?_) (Af (congrArg (C.int .i64) ?_) (Af (congrArg (C.int .u64) ?_) (Af (congrArg (C.int .i64) ?_) (Af (congrArg C.str ?_) (Af (congrArg (C.int .i64) ?_) (Af (congrArg (C.int .i64) ?_) rfl)))))))) rfl))),Q55⟩) ?_ ?_
 rotate_left 9
 refine dsp (fun h4 p4=>?_) fun h4 p4=>?_
 refine zD ((A1 p shape s at_ end_ deep).fail) (⟨0,0,0,0,[],0,0⟩:Ev) ((A1 p shape s at_ end_ deep).out) ([]:List Ev) (fun hm1 hm2=>⟨(congrArg S.tup (Af rfl (Af (congrArg V.agg (Af (congrArg (C.int .i64) ?_) (Af (congrArg (C.int .i64) ?_) (Af (congrArg (C.int .u64) ?_) (Af (congrArg (C.int .i64) ?_) (Af (congrArg C.str ?_) (Af (congrArg (C.int .i64) ?_) (Af (congrArg (C.int .i64) ?_) rfl)))))))) rfl))),Q55⟩) ?_ ?_
 rotate_left 9
 refine⟨(B9 _ _ _),fun h5=>have q5:=As h5;have p5:=Bf q5;?_,fun h5=>have q5:=Aq h5;have p5:=Bb q5;?_⟩
 refine zD ((A1 p shape s at_ end_ deep).fail) (⟨0,0,0,0,[],0,0⟩:Ev) ((A1 p shape s at_ end_ deep).out) ([]:List Ev) (fun hm1 hm2=>⟨(congrArg S.tup (Af rfl (Af (congrArg V.agg (Af (congrArg (C.int .i64) ?_) (Af (congrArg (C.int .i64) ?_) (Af (congrArg (C.int .u64) ?_) (Af (congrArg (C.int .i64) ?_) (Af (congrArg C.str ?_) (Af (congrArg (C.int .i64) ?_) (Af (congrArg (C.int .i64) ?_) rfl)))))))) rfl))),Q55⟩) ?_ ?_
 rotate_left 9
 refine zD ((A1 p shape s at_ end_ deep).fail) ((Cj (Int.toNat (((⟨p,s,at_,([]:List Ev),(⟨0,0,0,0,[],0,0⟩:Ev)⟩:Mr)).plan.deep-deep)) shape end_ (⟨p,s,at_,([]:List Ev),(⟨0,0,0,0,[],0,0⟩:Ev)⟩:Mr)).fail) ((A1 p shape s at_ end_ deep).out) (([]:List Ev)++(Cj (Int.toNat (((⟨p,s,at_,([]:List Ev),(⟨0,0,0,0,[],0,0⟩:Ev)⟩:Mr)).plan.deep-deep)) shape end_ (⟨p,s,at_,([]:List Ev),(⟨0,0,0,0,[],0,0⟩:Ev)⟩:Mr)).out) (fun hm1 hm2=>⟨(Ans (⟨p,s,at_,([]:List Ev),(⟨0,0,0,0,[],0,0⟩:Ev)⟩:Mr) _ _ _ Q16 Q16 Q16 Q16 Q16 Q2 (by simp_all) Q16),(Nat.le_trans (Nat.le_of_eq (Nat.zero_add _)) (Wd (by dsimp only;omega) (by simp only[List.length_nil];omega))),(congrArg S.tup (Af rfl (Af (congrArg V.agg (Af (congrArg (C.int .i64) ?_) (Af (congrArg (C.int .i64) ?_) (Af (congrArg (C.int .u64) ?_) (Af (congrArg (C.int .i64) ?_) (Af (congrArg C.str ?_) (Af (congrArg (C.int .i64) ?_) (Af (congrArg (C.int .i64) ?_) rfl)))))))) rfl))),Q55⟩) ?_ ?_
 rotate_left 9
 all_goals first|(simp_all[A1,J5,mr0,ev0,Ak];done)|(grind[A1,J5,mr0,ev0])|(grind[A1,J5,mr0,ev0,Ak])
structure Tm where
 out:List Ev
 places:List Int
 at_:Int
def Tn (p:Pln) (s:List UInt8):Fam:=⟨Tm,fun q1=>[(1,.v (vT s)),(2,.v (vP 0)),(6,.v (vO 1)),(7,.v (vO 2)),(8,.v (vI q1.at_))],fun q1=>[.cells (Dm p),.lst .ev q1.out,.lst .int q1.places],fun q1=>WInv (wh0 p s) ⟨⟨p,s,q1.at_,q1.out,ev0⟩,q1.places⟩,fun q1=>Fi ⟨p,s,q1.at_,q1.out,ev0⟩⟩
theorem Amp (p:Pln) (s:List UInt8) (hp1:Bo p=true) (hp2:s.length≤4000):Fun Tryz.prog 59 [.agg (Dm p),vT s] [] (.tup [vO 0,vO 1]) [.lst .ev (Bs p s),.lst .int (Ce p s).ends]:=by
 have hN:Bg=274877906944:=rfl
 have hpt:=C3 hp1
 refine Ap Tryz.func59 Q5 Q5 (w:=let z5:List Blk:=[.lst .ev (Bs p s),.lst .int (Ce p s).ends];let z6:S:= .tup [vO 0,vO 1];let z7:=(⟨9,0,0,0,[],0,(s.length:Int)⟩:Ev);let z8:=Tn p s;(.seg [.ty .ev,.ty .int,.at 0,.keep [1,2,6,7,8],.sel [0,1,2]] (.loop z8 fun q1=>let z1:=Ad s q1.at_ 8000;.br (.seg [.call [] (.tup [.c (.int .u64 z1.1),vI z1.2.1,vI z1.2.2]) []] (.br (.seg [.call [] (.v (.agg (cEv (Bd z1.2.2 z1.2.1)))) [],.ty .ev,.ty .ev] (.leaf () [4,2])) (.seg [.as 40 (.v (.c (.int .u64 p.most)))] (.br (.seg [.call [] (.v (.agg (cEv (Bd 7 q1.at_)))) [],.ty .ev,.ty .ev] (.leaf () [4,2])) (.seg [.as 49 (.v (vI z1.1)),.ty .ev,.ty .ev,.as 63 (.v (vI (z1.2.1+z1.1))),.call [] (.tup [vO 0,.agg (cEv (A1 p p.root s z1.2.1 (z1.2.1+z1.1) 1).fail)]) [.lst .ev (A1 p p.root s z1.2.1 (z1.2.1+z1.1) 1).out],.ty .ev] (.br (.seg [.ty .ev,.ty .ev] (.leaf () [9,2])) (.seg [.ty .ev,.ty .ev,.as 84 (.v (vI (z1.2.1+z1.1))),.ty .int,.ty .int,.at 0,.keep [1,2,6,7,8],.sel [0,9,11]] (.next)))))))) (.seg [.ty .ev,.ty .ev] (.leaf () [4,2]))),z8.Has [(1,.v (vT s)),(2,.v (vP 0)),(6,.v (vO 1)),(7,.v (vO 2)),(8,.v (vI 0))] [.cells (Dm p),.lst .ev ([]:List Ev),.lst .int [0]]∧∀q1,z8.inv q1→(let z2:=Ad s q1.at_ 8000;let z4:=q1.out++[(⟨1,0,0,z2.1,[],0,0⟩:Ev)];let z3:=z4++(A1 p p.root s z2.2.1 (z2.2.1+z2.1) 1).out;Bc (decide (q1.at_<(s.length:Int))) ((Fp 112 [vT s,vI q1.at_,vI 8000] [] (.tup [.c (.int .u64 z2.1),vI z2.2.1,vI z2.2.2]) [])∧Bc (!decide (z2.2.2=0)) ((Fp 113 [vI z2.2.2,vI z2.2.1] [] (.v (.agg (cEv (Bd z2.2.2 z2.2.1)))) [])∧(q1.out.length+List.length [(Bd z2.2.2 z2.2.1)]≤Bg)∧Lf z6 z6 [.lst .ev (q1.out++[(Bd z2.2.2 z2.2.1)]),.lst .int q1.places] z5) ((wU (p.most))∧Bc (decide (p.most<z2.1)) ((Fp 113 [vI 7,vI q1.at_] [] (.v (.agg (cEv (Bd 7 q1.at_)))) [])∧(q1.out.length+List.length [(Bd 7 q1.at_)]≤Bg)∧Lf z6 z6 [.lst .ev (q1.out++[(Bd 7 q1.at_)]),.lst .int q1.places] z5) ((wI (z2.1))∧(q1.out.length+List.length [(⟨1,0,0,z2.1,[],0,0⟩:Ev)]≤Bg)∧(wI (z2.2.1+z2.1))∧(Fp 21 [.agg (Dm p),vI p.root,vT s,vI z2.2.1,vI (z2.2.1+z2.1),vI 1] [] (.tup [vO 0,.agg (cEv (A1 p p.root s z2.2.1 (z2.2.1+z2.1) 1).fail)]) [.lst .ev (A1 p p.root s z2.2.1 (z2.2.1+z2.1) 1).out])∧(z4.length+List.length (A1 p p.root s z2.2.1 (z2.2.1+z2.1) 1).out≤Bg)∧Bc (!decide ((A1 p p.root s z2.2.1 (z2.2.1+z2.1) 1).fail.kind=0)) ((z3.length+List.length [(A1 p p.root s z2.2.1 (z2.2.1+z2.1) 1).fail]≤Bg)∧Lf z6 z6 [.lst .ev (z3++[(A1 p p.root s z2.2.1 (z2.2.1+z2.1) 1).fail]),.lst .int q1.places] z5) ((z3.length+List.length [(⟨8,0,0,0,[],0,0⟩:Ev)]≤Bg)∧(wI (z2.2.1+z2.1))∧(q1.places.length+List.length [z2.2.1+z2.1]≤Bg)∧z8.Nxt q1 [(1,.v (vT s)),(2,.v (vP 0)),(6,.v (vO 1)),(7,.v (vO 2)),(8,.v (vI (z2.2.1+z2.1)))] [.cells (Dm p),.lst .ev (z3++[(⟨8,0,0,0,[],0,0⟩:Ev)]),.lst .int (q1.places++[z2.2.1+z2.1])])))) ((q1.out.length+List.length [z7]≤Bg)∧Lf z6 z6 [.lst .ev (q1.out++[z7]),.lst .int q1.places] z5)))) Q5 ?_
 refine⟨Ca (j:=(⟨([]:List Ev),[0],0⟩:Tm)) rfl rfl (by dsimp only[Tn];exact WInv.refl),fun (q1:Tm) hq_q1=>?_⟩
 have hi_q1:WInv (wh0 p s) ⟨⟨p,s,q1.at_,q1.out,ev0⟩,q1.places⟩:=hq_q1
 have hrm:=hi_q1.room rfl
 dsimp only at hrm
 have hen:=hi_q1.ends rfl
 dsimp only at hen
 have hvb:=J2 s q1.at_ 8000
 refine dsp (fun h1 p1=>?_) fun h1 p1=>?_
 refine⟨(Um _ _ _ Q2),fun h2=>have q2:=As h2;have p2:=of_decide_eq_false q2;?_,fun h2=>have q2:=Aq h2;have p2:=of_decide_eq_true q2;?_⟩
 refine⟨(Dd _ _),Q4,rfl,(Af (congrArg (Blk.lst .ev) ?_) (Af (congrArg (Blk.lst .int) ?_) rfl))⟩
 rotate_left 2
 have hw:=Ht p2
 have hra:((A1 p p.root s (Ad s q1.at_ 8000).2.1 ((Ad s q1.at_ 8000).2.1+(Ad s q1.at_ 8000).1) 1).out.length:Int)≤4*4000:=by have:=(P9 (p:=p) (shape:=p.root) (s:=s) (a:=(Ad s q1.at_ 8000).2.1) (e:=(Ad s q1.at_ 8000).2.1+(Ad s q1.at_ 8000).1) (d:=1) (by omega)).most;simp only[mr0,List.length_nil] at this;omega
 refine⟨(Bx Q2 Q2),dsp (fun h3 p3=>?_) fun h3 p3=>?_⟩
 refine⟨(Dd _ _),Q4,rfl,(Af (congrArg (Blk.lst .ev) ?_) (Af (congrArg (Blk.lst .int) ?_) rfl))⟩
 rotate_left 2
 refine⟨(Ac Q2 Q2),Q4,(Ac Q2 Q2),(Yx p _ _ _ _ _ Q2 Q2),Q19,fun h4=>have q4:=As h4;have p4:=of_decide_eq_false q4;?_,fun h4=>have q4:=Aq h4;have p4:=of_decide_eq_true q4;?_⟩
 refine⟨Q19,rfl,(Af (congrArg (Blk.lst .ev) ?_) (Af (congrArg (Blk.lst .int) ?_) rfl))⟩
 rotate_left 2
 exact⟨Q19,(Ac Q2 Q2),Q4,A5 (j:=(⟨((q1.out++[(⟨1,0,0,(Ad s q1.at_ 8000).1,[],0,0⟩:Ev)])++(A1 p p.root s (Ad s q1.at_ 8000).2.1 ((Ad s q1.at_ 8000).2.1+(Ad s q1.at_ 8000).1) 1).out)++[(⟨8,0,0,0,[],0,0⟩:Ev)],q1.places++[(Ad s q1.at_ 8000).2.1+(Ad s q1.at_ 8000).1],_⟩:Tm)) rfl rfl (by dsimp only[Tn];exact(hi_q1.next (by show q1.at_<_;omega) rfl (Amo hp1 hp2 Q66 Q66 Q66)).1) (by dsimp only[Tn];exact(hi_q1.next (by show q1.at_<_;omega) rfl (Amo hp1 hp2 Q66 Q66 Q66)).2)⟩
 refine⟨Q4,rfl,(Af (congrArg (Blk.lst .ev) ?_) (Af (congrArg (Blk.lst .int) ?_) rfl))⟩
 rotate_left 2
 all_goals first|((have hw:=hi_q1.end_ (by show¬q1.at_<_;omega);first|(rw[Bs,hw];simp[ev0,K9];done)|(rw[hw];done)))|((have hw:=hi_q1.leave (by show q1.at_<_;omega) rfl (Amm hp2 (by assumption)) (by first|assumption|simp[Bd]);first|(rw[Bs,hw];simp[Bd,Cf,B1, *];done)|(rw[hw];done)))|((have hw:=hi_q1.leave (by show q1.at_<_;omega) rfl (Aj3 hp2 (by assumption) (by assumption)) (by first|assumption|simp[Bd]);first|(rw[Bs,hw];simp[Bd,Cf,B1, *];done)|(rw[hw];done)))|((have hw:=hi_q1.leave (by show q1.at_<_;omega) rfl (Amn hp1 hp2 (by assumption) (by assumption) (by assumption)) (by first|assumption|simp[Bd]);first|(rw[Bs,hw];simp[Bd,Cf,B1, *];done)|(rw[hw];done)))
theorem Ut (p:Pln) (s:List UInt8) (hp1:s.length≤1048576):Fun Tryz.prog 25 [.agg (Dm p),vT s] [] (.v (vO 0)) [.lst .ev (Az p s)]:=by
 have hN:Bg=274877906944:=rfl
 refine Ap Tryz.func25 Q5 Q5 (w:=let z1:=Lf (.v (vO 0)) (.v (vO 0)) [.lst .ev ([]:List Ev)] [.lst .ev (Az p s)];let z2:List Blk:=[.lst .ev (Bs p s),.lst .int (Ce p s).ends];(.seg [.call [] (.v (vB (Bo p))) []] (.br (.seg [.ty .ev] (.leaf () [1])) (.br (.seg [.ty .ev] (.leaf () [1])) (.seg [.call [] (.tup [vO 0,vO 1]) z2] (.leaf () [1])))),(Fp 42 [.agg (Dm p)] [] (.v (vB (Bo p))) [])∧Bc (!(Bo p)) z1 (Bc (decide (4000<(s.length:Int))) z1 ((Fp 59 [.agg (Dm p),vT s] [] (.tup [vO 0,vO 1]) z2)∧Lf (.v (vO 0)) (.v (vO 0)) [.lst .ev (Bs p s)] [.lst .ev (Az p s)])))) Q5 ?_
 refine⟨(Xk p),fun h1=>have q1:=As h1;?_,fun h1=>have q1:=Aq h1;have p1:=C3 q1;?_⟩
 refine⟨rfl,(Af (congrArg (Blk.lst .ev) ?_) rfl)⟩
 rotate_left
 refine dsp (fun h2 p2=>?_) fun h2 p2=>?_
 refine⟨rfl,(Af (congrArg (Blk.lst .ev) ?_) rfl)⟩
 rotate_left
 have hwl:Az p s=Bs p s:=by unfold Az;rw[if_pos ⟨by simp_all,by omega⟩]
 refine⟨(Amp p _ Q2 Q2),rfl,(Af (congrArg (Blk.lst .ev) ?_) rfl)⟩
 rotate_left
 all_goals first|(simp_all[Az];done)|(grind[Az])
theorem R6 (p:Pln) (s:List UInt8) (hp1:s.length≤1048576):Fun Tryz.prog 30 [.agg (Dm p),vT s] [] (.v (vI (En p s))) []:=by
 have hN:Bg=274877906944:=rfl
 have hwm:List.length (Az p s)≤16001:=by unfold Az;split;exact Pb (by omega);simp
 refine Ap Tryz.func30 Q5 Q5 (w:=let z1:S:= .v (vI (Lm (Az p s) 8));(.seg [.call [] (.v (vO 0)) [.lst .ev (Az p s)],.call [] z1 []] (.leaf () []),(Fp 25 [.agg (Dm p),vT s] [] (.v (vO 0)) [.lst .ev (Az p s)])∧(Fp 77 [.c (.seq .ev (Az p s)),vI 8] [] z1 [])∧Lf z1 (.v (vI (En p s))) [] [])) Q5 ?_
 exact⟨(Ut p _ Q2),(Amh _ _ Q2),(congrArg S.v (congrArg V.c (congrArg (C.int .i64) (by rfl)))),rfl⟩
theorem Abh (l:List Int) (hp1:((List.length l:Nat):Int)≤9223372036854775807):Fun Tryz.prog 10 [.c (.seq .u8 l)] [] (.v (vB (decide (1048576<((List.length l:Nat):Int))))) []:=by
 have hN:Bg=274877906944:=rfl
 refine Ap Tryz.func10 Q5 Q5 (w:=let z1:S:= .v (vB (decide (1048576<((List.length l:Nat):Int))));(.leaf () [],Lf z1 z1 [] [])) Q5 ?_
 exact⟨rfl,rfl⟩
theorem J6 {p:Pln} {shape:Int} {s:List UInt8} {a e d:Int} (hs:s.length≤1048576):(A1 p shape s a e d).out.length≤4194304:=by
 by_cases h:J5 p shape s a e d=true
 ·have ha:0≤a∧a≤(s.length:Int):=by
   simp only[J5,Bool.and_eq_true] at h
   have:=h
   simp only[Ak,Bool.and_eq_true,decide_eq_true_eq] at this
   omega
  have:=(P9 (p:=p) (shape:=shape) (s:=s) (a:=a) (e:=e) (d:=d) ha.2).most
  simp only[mr0,List.length_nil] at this
  omega
 ·unfold A1;rw[if_neg h];simp[mr0]
theorem Ex {p:Pln} {s:List UInt8} :(Az p s).length≤16001:=by unfold Az;split;exact Pb (by omega);simp
theorem Aip {x y:Ev} (h:x.kind=y.kind∧x.field=y.field∧x.bits=y.bits∧x.len=y.len∧x.text=y.text∧x.code=y.code∧x.at_=y.at_):x=y:=by
 cases x;cases y;simp at h ⊢;exact h
theorem Ae9 {a b:List Ev} {i:Nat} {x y:Ev} (h:a.take i=b.take i) (hx:a[i]? =some x) (hy:b[i]? =some y) (e:x=y):a.take (i+1)=b.take (i+1):=by
 rw[List.take_add_one,List.take_add_one,h,hx,hy,e]
theorem Ag8 {a b:List Ev} {i:Nat} (h:a.take i=b.take i) (hl:a.length=b.length) (hi:a.length≤i):a=b:=by
 rwa [List.take_of_length_le hi,List.take_of_length_le (by omega)] at h
structure Kp where
 i:Nat
def Kq (a:List Ev) (b:List Ev):Fam:=⟨Kp,fun q1=>[(0,.v (.c (.seq .ev a))),(1,.v (.c (.seq .ev b))),(5,.v (vI ((q1.i:Nat):Int)))],fun _=>[],fun q1=>q1.i≤List.length a∧List.length a=List.length b∧List.take q1.i a=List.take q1.i b,fun q1=>List.length a-q1.i⟩
theorem Rh (a:List Ev) (b:List Ev) (hp1:List.length a≤Bg) (hp2:List.length b≤Bg):Fun Tryz.prog 22 [.c (.seq .ev a),.c (.seq .ev b)] [] (.v (vB (decide (a=b)))) []:=by
 have hN:Bg=274877906944:=rfl
 refine Ap Tryz.func22 Q5 Q5 (w:=let z2:=Lf (.v (vB false)) (.v (vB (decide (a=b)))) [] [];let z3:=Kq a b;(.br (.leaf () []) (.seg [.at 0,.keep [0,1,5],.sel []] (.loop z3 fun q1=> .br (.intro (Sx (a[q1.i]?)) fun x1=> .intro (Sx (b[q1.i]?)) fun x2=> .seg [.ord (os 9 []) [],.el .ev x1,.el .ev x2] (.br (.leaf () []) (.seg [.as 16 (.v (vI (((q1.i:Nat):Int)+1))),.at 0,.keep [0,1,5],.sel []] (.next)))) (.leaf () []))),Bc (!decide (((List.length a:Nat):Int)=((List.length b:Nat):Int))) z2 (z3.Has [(0,.v (.c (.seq .ev a))),(1,.v (.c (.seq .ev b))),(5,.v (vI 0))] []∧∀q1,z3.inv q1→(let z1:=((q1.i:Nat):Int);Bc (decide (z1<((List.length a:Nat):Int))) (El (a[q1.i]?) fun x1=>(El (b[q1.i]?) fun x2=>((a[q1.i]? =some x1)∧((0:Int)≤z1)∧(a[q1.i]? =some x1)∧((0:Int)≤z1)∧(b[q1.i]? =some x2)∧((0:Int)≤z1)∧(b[q1.i]? =some x2)∧((0:Int)≤z1)∧Bc (!(decide (x1.kind=x2.kind)&&(decide (x1.field=x2.field)&&(decide (x1.bits=x2.bits)&&(decide (x1.len=x2.len)&&(decide (x1.text=x2.text)&&(decide (x1.code=x2.code)&&decide (x1.at_=x2.at_)))))))) z2 ((wI (z1+1))∧z3.Nxt q1 [(0,.v (.c (.seq .ev a))),(1,.v (.c (.seq .ev b))),(5,.v (vI (z1+1)))] [])))) (Lf (.v (vB true)) (.v (vB (decide (a=b)))) [] []))))) Q5 ?_
 refine⟨fun h1=>have q1:=As h1;have p1:=of_decide_eq_false q1;?_,fun h1=>have q1:=Aq h1;have p1:=of_decide_eq_true q1;?_⟩
 refine⟨(sB ?_),rfl⟩
 rotate_left
 refine⟨Ca (j:=(⟨0⟩:Kp)) Q7 rfl (by dsimp only[Kq];exact⟨by omega,by omega,by simp⟩),fun (q1:Kp) hq_q1=>?_⟩
 have hi_q1:q1.i≤List.length a∧List.length a=List.length b∧List.take q1.i a=List.take q1.i b:=hq_q1
 obtain ⟨v1,v2,v3⟩:=hi_q1
 refine dsp (fun h2 p2=>?_) fun h2 p2=>?_
 refine⟨(Be (l:=a) (i:=q1.i) Q2),fun x1 hx1=>?_⟩
 refine⟨(Be (l:=b) (i:=q1.i) Q2),fun x2 hx2=>?_⟩
 refine⟨hx1,Q2,hx1,Q2,hx2,Q2,hx2,Q2,fun h3=>have q3:=As h3;have p3:=(Gi dT (Gi dT (Gi dT (Gi dT (Gi dT (Gi dT dF)))))).1 q3;?_,fun h3=>have q3:=Aq h3;have p3:=(Gh dT (Gh dT (Gh dT (Gh dT (Gh dT (Gh dT dT)))))).1 q3;?_⟩
 refine⟨(sB ?_),rfl⟩
 rotate_left
 exact⟨(Ac Q2 Q2),A5 (j:=(⟨q1.i+1⟩:Kp)) Q7 rfl (by dsimp only[Kq];exact⟨by omega,v2,Ae9 v3 hx1 hx2 (Aip p3)⟩) (by dsimp only[Kq];omega)⟩
 refine⟨(sB ?_),rfl⟩
 rotate_left
 all_goals first|(exact(decide_eq_true (Ag8 v3 v2 (by omega))).symm)|(exact(decide_eq_false (fun h=>by subst h;omega)).symm)|(exact(decide_eq_false (fun h=>by subst h;rw[hx1] at hx2;cases hx2;simp at p3)).symm)
theorem Uu (p:Pln) (shape:Int) (s:List UInt8) (at_:Int) (end_:Int) (deep:Int) (hp1:List.length s≤1048576) (hp2:end_≤9223372036854775807):Fun Tryz.prog 20 [.agg (Dm p),vI shape,vT s,vI at_,vI end_,vI deep] [] (.tup [vO 0,.agg (cEv (A1 p shape s at_ end_ deep).fail)]) [.lst .ev (A1 p shape s at_ end_ deep).out]:=by
 have hN:Bg=274877906944:=rfl
 refine Ap Tryz.func20 Q5 Q5 (w:=let zi:Int→C:= .int .i64;let z1:List C:=[zi 0,zi 0,.int .u64 0,zi 0,.str [],zi 0,zi 0];let z4:=((List.length p.shapes:Nat):Int)-1;let z5:=A1 p shape s at_ end_ deep;let z6:=Ak at_ 0 ((List.length s:Nat):Int);let z7:=(⟨p,s,at_,([]:List Ev),(⟨0,0,0,0,[],0,0⟩:Ev)⟩:Mr);let z2:=Cj (Int.toNat ((z7).plan.deep-deep)) shape end_ z7;let z8:=Ak deep 1 p.deep;let z9:S:= .v (vB (decide (z2.fail.kind=0)));let z10:List Blk:=[.cells (Bp 2 z2),.dead,.lst .ev z2.out];let z11:=Ak shape 0 z4;let z12:S:= .tup [vO 0,.agg (cEv z5.fail)];let z3:=Lf (.tup [vO 0,.agg z1]) z12 [.lst .ev ([]:List Ev)] [.lst .ev z5.out];(.seg [.call [] (.v (vB (Bo p))) []] (.br (.seg [.at 0,.mkS 12 .ev] (.leaf () [2])) (.seg [.as 24 (.v (vI z4)),.call [] (.v (vB z11)) []] (.br (.seg [.at 0,.mkS 12 .ev] (.leaf () [2])) (.seg [.call [] (.v (vB z6)) []] (.br (.seg [.at 0,.mkS 12 .ev] (.leaf () [2])) (.br (.seg [.at 0,.mkS 12 .ev] (.leaf () [2])) (.seg [.call [] (.v (vB z8)) []] (.br (.seg [.at 0,.mkS 12 .ev] (.leaf () [2])) (.seg [.at 5,.mk 2 6 .ev,.call [2,3] z9 z10,.ord (os 10 [9]) []] (.leaf () [4])))))))))),(Fp 57 [.agg (Dm p)] [] (.v (vB (Bo p))) [])∧Bc (!(Bo p)) z3 ((wI z4)∧(Fp 69 [vI shape,vI 0,vI z4] [] (.v (vB z11)) [])∧Bc (!z11) z3 ((Fp 69 [vI at_,vI 0,vI ((List.length s:Nat):Int)] [] (.v (vB z6)) [])∧Bc (!z6) z3 (Bc (decide (end_<at_)) z3 ((Fp 69 [vI deep,vI 1,vI p.deep] [] (.v (vB z8)) [])∧Bc (!z8) z3 ((Fp 70 [vP 0,vI shape,vI end_,vI deep] [.cells (.seq .shp p.shapes::zi p.root::zi p.deep::zi p.most:: .str s::zi at_:: .own 1::z1),.lst .ev ([]:List Ev)] z9 z10)∧Lf (.tup [vO 0,.agg (cEv z2.fail)]) z12 [.lst .ev z2.out] [.lst .ev z5.out]))))))) Q5 ?_
 refine⟨(L3 p),fun h1=>have q1:=As h1;?_,fun h1=>have q1:=Aq h1;have p1:=C3 q1;?_⟩
 refine zD ((A1 p shape s at_ end_ deep).fail) (⟨0,0,0,0,[],0,0⟩:Ev) ((A1 p shape s at_ end_ deep).out) ([]:List Ev) (fun hm1 hm2=>⟨Q9,Q55⟩) ?_ ?_
 rotate_left 2
 have hpt:=C3 q1
 refine⟨(Ac Q2 Q2),(Dk _ _ _),fun h2=>have q2:=As h2;have p2:=Bf q2;?_,fun h2=>have q2:=Aq h2;have p2:=Bb q2;?_⟩
 refine zD ((A1 p shape s at_ end_ deep).fail) (⟨0,0,0,0,[],0,0⟩:Ev) ((A1 p shape s at_ end_ deep).out) ([]:List Ev) (fun hm1 hm2=>⟨Q9,Q55⟩) ?_ ?_
 rotate_left 2
 refine⟨(Dk _ _ _),fun h3=>have q3:=As h3;have p3:=Bf q3;?_,fun h3=>have q3:=Aq h3;have p3:=Bb q3;?_⟩
 refine zD ((A1 p shape s at_ end_ deep).fail) (⟨0,0,0,0,[],0,0⟩:Ev) ((A1 p shape s at_ end_ deep).out) ([]:List Ev) (fun hm1 hm2=>⟨Q9,Q55⟩) ?_ ?_
 rotate_left 2
 refine dsp (fun h4 p4=>?_) fun h4 p4=>?_
 refine zD ((A1 p shape s at_ end_ deep).fail) (⟨0,0,0,0,[],0,0⟩:Ev) ((A1 p shape s at_ end_ deep).out) ([]:List Ev) (fun hm1 hm2=>⟨Q9,Q55⟩) ?_ ?_
 rotate_left 2
 refine⟨(Dk _ _ _),fun h5=>have q5:=As h5;have p5:=Bf q5;?_,fun h5=>have q5:=Aq h5;have p5:=Bb q5;?_⟩
 refine zD ((A1 p shape s at_ end_ deep).fail) (⟨0,0,0,0,[],0,0⟩:Ev) ((A1 p shape s at_ end_ deep).out) ([]:List Ev) (fun hm1 hm2=>⟨Q9,Q55⟩) ?_ ?_
 rotate_left 2
 refine zD ((A1 p shape s at_ end_ deep).fail) ((Cj (Int.toNat (((⟨p,s,at_,([]:List Ev),(⟨0,0,0,0,[],0,0⟩:Ev)⟩:Mr)).plan.deep-deep)) shape end_ (⟨p,s,at_,([]:List Ev),(⟨0,0,0,0,[],0,0⟩:Ev)⟩:Mr)).fail) ((A1 p shape s at_ end_ deep).out) ((Cj (Int.toNat (((⟨p,s,at_,([]:List Ev),(⟨0,0,0,0,[],0,0⟩:Ev)⟩:Mr)).plan.deep-deep)) shape end_ (⟨p,s,at_,([]:List Ev),(⟨0,0,0,0,[],0,0⟩:Ev)⟩:Mr)).out) (fun hm1 hm2=>⟨(Ag6 (⟨p,s,at_,([]:List Ev),(⟨0,0,0,0,[],0,0⟩:Ev)⟩:Mr) _ _ _ Q16 Q16 Q16 Q16 Q16 Q2 (by simp_all) Q16),Q9,Q55⟩) ?_ ?_
 rotate_left 2
 all_goals first|(simp_all[A1,J5,mr0,ev0,Ak];done)|(grind[A1,J5,mr0,ev0])|(grind[A1,J5,mr0,ev0,Ak])
structure Cur where
 b:List Int
 i:Int
 h:Int
def A2 (c:Cur):Prop:=0≤c.i∧c.b.length≤1048576
def Cm (x:Cur):List C:=[.seq .u8 x.b,.int .i64 x.i,.int .i64 x.h]
abbrev Kc (c:Cur):List Blk:=[.cells (Cm c)]
structure La where
 x:Int
 c1:Cur
def Gb (c:Cur) (o:La):Prop:=Fun Tryz.prog 115 [vP 0] [.cells (Cm c)] (.v (vI o.x)) [.cells (Cm o.c1)]
def Dz (c:Cur) (o:La):Prop:=(((0:Int)≤o.x∧o.x≤255)∧(A2 o.c1))∧Gb c o
theorem L4 (c:Cur) (hp1:A2 c): ∃o:La,Dz c o:=by
 have hN:Bg=274877906944:=rfl
 have hcb:=hp1.1
 have hcl:=hp1.2
 refine B2 Tryz.func115 Q5 Q5 (w:=let z5:=(IntKind.i64.wrap (c.h*6364136223846793005))+1442695040888963407;let z3:=IntKind.i64.wrap z5;let z8:=(.v (vI (Int.fdiv z3 (2 ^ 33))):S)= .v (vI (z3 / 8589934592));let z10:List Blk:=[.cells [.seq .u8 c.b,.int .i64 (c.i+1),.int .i64 z3]];let z11:List Blk:=[.cells [.seq .u8 c.b,.int .i64 c.i,.int .i64 z3]];let z12:=z3 / 35184372088832;let z4:=IntKind.i64.wrap (((BitVec.ofInt 64 (z3 / 8589934592) ^^^ BitVec.ofInt 64 z12).toNat:Nat));let z7:=(.v (vI (Int.fdiv z3 (2 ^ 45))):S)= .v (vI z12);let z9:=z4 % 256;let z6:=(.v (vI (IntKind.i64.wrap (((BitVec.ofInt 64 z4&&&BitVec.ofInt 64 255).toNat:Nat)))):S)= .v (vI z9);(.seg [.ord (os 13 []) [],.as 17 (.v (vI (z3 / 8589934592))),.as 22 (.v (vI z12)),.as 24 (.v (vI z9)),.ord (os 10 []) []] (.br (.intro (Sx (c.b[Int.toNat c.i]?)) fun x1=>let z1:=IntKind.i64.wrap (z9+(IntKind.i64.wrap (x1)));.seg [.ord (os 15 []) [],.el .u8 x1,.as 48 (.v (vI (z1 % 256))),.as 54 (.v (vI (c.i+1)))] (.leaf (⟨z1 % 256,(⟨c.b,c.i+1,IntKind.i64.wrap z5⟩:Cur)⟩:La) [0])) (.leaf (⟨z4 % 256,(⟨c.b,c.i,IntKind.i64.wrap z5⟩:Cur)⟩:La) [0])),((0:Int)≤33)∧((0:Int)≤33)∧z8∧z8∧((0:Int)≤45)∧((0:Int)≤45)∧z7∧z7∧z6∧z6∧Bc (decide (c.i<((List.length c.b:Nat):Int))) (El (c.b[Int.toNat c.i]?) fun x1=>(let z2:=IntKind.i64.wrap (z9+(IntKind.i64.wrap (x1)));(c.b[Int.toNat c.i]? =some x1)∧((0:Int)≤c.i)∧(c.b[Int.toNat c.i]? =some x1)∧((0:Int)≤c.i)∧((.v (vI (IntKind.i64.wrap (((BitVec.ofInt 64 z2&&&BitVec.ofInt 64 255).toNat:Nat)))):S)= .v (vI (z2 % 256)))∧((.v (vI (IntKind.i64.wrap (((BitVec.ofInt 64 z2&&&BitVec.ofInt 64 255).toNat:Nat)))):S)= .v (vI (z2 % 256)))∧(wI (c.i+1))∧(((0:Int)≤(z2 % 256)∧(z2 % 256)≤255)∧(A2 (⟨c.b,c.i+1,IntKind.i64.wrap z5⟩:Cur)))∧Lf (.v (vI (z2 % 256))) (.v (vI (z2 % 256))) z10 z10)) ((((0:Int)≤z9∧z9≤255)∧(A2 (⟨c.b,c.i,IntKind.i64.wrap z5⟩:Cur)))∧Lf (.v (vI z9)) (.v (vI z9)) z11 z11))) Q5 ?_
 refine⟨Q21,Q21,(Uc (k:=33) Q21 Q21),(Uc (k:=33) Q21 Q21),Q21,Q21,(Uc (k:=45) Q21 Q21),(Uc (k:=45) Q21 Q21),(Jz (k:=8) Q21 Q21),(Jz (k:=8) Q21 Q21),dsp (fun h1 p1=>?_) fun h1 p1=>?_⟩
 refine⟨(Be (l:=c.b) (i:=Int.toNat c.i) Q2),fun x1 hx1=>?_⟩
 exact⟨hx1,Q2,hx1,Q2,(Jz (k:=8) Q21 Q21),(Jz (k:=8) Q21 Q21),(Ac Q2 Q2),⟨Q2,Q0⟩,rfl,rfl⟩
 exact⟨⟨Q2,Q0⟩,rfl,rfl⟩
structure Df where
 x:Int
 c1:Cur
def Ai (c:Cur) (n:Int) (o:Df):Prop:=Fun Tryz.prog 63 [vP 0,vI n] [.cells (Cm c)] (.v (vI o.x)) [.cells (Cm o.c1)]
def Ab (c:Cur) (n:Int) (o:Df):Prop:=(((0:Int)≤o.x)∧((1:Int)≤n→o.x<n)∧(n≤(0:Int)→o.x=(0:Int))∧(A2 o.c1))∧Ai c n o
theorem An (c:Cur) (n:Int) (hp1:A2 c): ∃o:Df,Ab c n o:=by
 have hN:Bg=274877906944:=rfl
 refine B2 Tryz.func63 Q5 Q5 (w:=let z8:=Dz c;(.br (.leaf (⟨0,c⟩:Df) [0]) (.br (.intro z8 fun o1=> .seg [.call [0] (.v (vI o1.x)) (Kc o1.c1)] (.leaf (⟨Int.tmod o1.x n,o1.c1⟩:Df) [0])) (.intro z8 fun o1=> .seg [.call [0] (.v (vI o1.x)) (Kc o1.c1)] (.intro (Dz o1.c1) fun o2=>let z6:=(o1.x*16777216)+(o2.x*65536);.seg [.call [0] (.v (vI o2.x)) (Kc o2.c1)] (.intro (Dz o2.c1) fun o3=>let z4:=z6+(o3.x*256);.seg [.call [0] (.v (vI o3.x)) (Kc o3.c1)] (.intro (Dz o3.c1) fun o4=>let z2:=z4+o4.x;.seg [.call [0] (.v (vI o4.x)) (Kc o4.c1),.as 26 (.v (vI (o1.x*16777216))),.as 28 (.v (vI (o2.x*65536))),.as 29 (.v (vI z6)),.as 31 (.v (vI (o3.x*256))),.as 32 (.v (vI z4)),.as 34 (.v (vI z2))] (.leaf (⟨Int.tmod z2 n,o4.c1⟩:Df) [0])))))),Bc (decide (n≤0)) ((((0:Int)≤0)∧((1:Int)≤n→0<n)∧(n≤(0:Int)→0=(0:Int))∧(A2 c))∧Lf (.v (vI 0)) (.v (vI 0)) (Kc c) (Kc c)) (Bc (decide (n≤256)) (In z8 fun o1=>(let z1:=Int.tmod o1.x n;(Gb c o1)∧(n≠0)∧(((0:Int)≤z1)∧((1:Int)≤n→z1<n)∧(n≤(0:Int)→z1=(0:Int))∧(A2 o1.c1))∧Lf (.v (vI z1)) (.v (vI z1)) (Kc o1.c1) (Kc o1.c1))) (In z8 fun o1=>((Gb c o1)∧In (Dz o1.c1) fun o2=>(let z7:=(o1.x*16777216)+(o2.x*65536);(Gb o1.c1 o2)∧In (Dz o2.c1) fun o3=>(let z5:=z7+(o3.x*256);(Gb o2.c1 o3)∧In (Dz o3.c1) fun o4=>(let z3:=z5+o4.x;(Gb o3.c1 o4)∧(wI (o1.x*16777216))∧(wI (o2.x*65536))∧(wI z7)∧(wI (o3.x*256))∧(wI z5)∧(wI z3)∧(n≠0)∧(((0:Int)≤(Int.tmod z3 n))∧((1:Int)≤n→(Int.tmod z3 n)<n)∧(n≤(0:Int)→(Int.tmod z3 n)=(0:Int))∧(A2 o4.c1))∧Lf (.v (vI (Int.tmod z3 n))) (.v (vI (Int.tmod z3 n))) (Kc o4.c1) (Kc o4.c1))))))))) Q5 ?_
 refine dsp (fun h1 p1=>?_) fun h1 p1=>?_
 exact⟨⟨Q2,Q2,Q2,Q0⟩,rfl,rfl⟩
 refine dsp (fun h2 p2=>?_) fun h2 p2=>?_
 refine⟨(L4 c Q0),fun o1 ho_o1=>?_⟩
 obtain ⟨⟨hp_o1_0,hp_o1_1⟩,hf_o1⟩:=ho_o1
 exact⟨hf_o1,Q2,⟨(by have:=F9 o1.x n;omega),(by have:=F9 o1.x n;omega),(by have:=F9 o1.x n;omega),Q0⟩,rfl,rfl⟩
 refine⟨(L4 c Q0),fun o1 ho_o1=>?_⟩
 obtain ⟨⟨hp_o1_0,hp_o1_1⟩,hf_o1⟩:=ho_o1
 refine⟨hf_o1,(L4 o1.c1 Q0),fun o2 ho_o2=>?_⟩
 obtain ⟨⟨hp_o2_0,hp_o2_1⟩,hf_o2⟩:=ho_o2
 refine⟨hf_o2,(L4 o2.c1 Q0),fun o3 ho_o3=>?_⟩
 obtain ⟨⟨hp_o3_0,hp_o3_1⟩,hf_o3⟩:=ho_o3
 refine⟨hf_o3,(L4 o3.c1 Q0),fun o4 ho_o4=>?_⟩
 obtain ⟨⟨hp_o4_0,hp_o4_1⟩,hf_o4⟩:=ho_o4
 exact⟨hf_o4,(Ac Q2 Q2),(Ac Q2 Q2),(Ac Q2 Q2),(Ac Q2 Q2),(Ac Q2 Q2),(Ac Q2 Q2),Q2,⟨Q58,Q58,Q58,Q0⟩,rfl,rfl⟩
structure Lb where
 p:Bool
 c1:Cur
def Bh (c:Cur) (n:Int) (o:Lb):Prop:=Fun Tryz.prog 73 [vP 0,vI n] [.cells (Cm c)] (.v (vB o.p)) [.cells (Cm o.c1)]
def Am (c:Cur) (n:Int) (o:Lb):Prop:=((A2 o.c1))∧Bh c n o
theorem B4 (c:Cur) (n:Int) (hp1:A2 c): ∃o:Lb,Am c n o:=by
 have hN:Bg=274877906944:=rfl
 refine B2 Tryz.func73 Q5 Q5 (w:=(.intro (Ab c n) fun o1=> .seg [.call [0] (.v (vI o1.x)) (Kc o1.c1)] (.leaf (⟨decide (o1.x=0),o1.c1⟩:Lb) [0]),In (Ab c n) fun o1=>((Ai c n o1)∧((A2 o1.c1))∧Lf (.v (vB (decide (o1.x=0)))) (.v (vB (decide (o1.x=0)))) (Kc o1.c1) (Kc o1.c1)))) Q5 ?_
 refine⟨(An c n Q0),fun o1 ho_o1=>?_⟩
 obtain ⟨⟨hp_o1_0,hp_o1_1,hp_o1_2,hp_o1_3⟩,hf_o1⟩:=ho_o1
 exact⟨hf_o1,Q0,rfl,rfl⟩
structure Jg where
 x:Int
 c1:Cur
def C9 (c:Cur) (l:List Int) (o:Jg):Prop:=Fun Tryz.prog 67 [vP 0,.c (.seq .int l)] [.cells (Cm c)] (.v (vI o.x)) [.cells (Cm o.c1)]
def Bv (c:Cur) (l:List Int) (o:Jg):Prop:=((o.x∈l)∧(A2 o.c1))∧C9 c l o
theorem Ea (c:Cur) (l:List Int) (hp1:A2 c) (hp2:1≤List.length l) (hp3:List.length l≤1000): ∃o:Jg,Bv c l o:=by
 have hN:Bg=274877906944:=rfl
 refine B2 Tryz.func67 Q5 Q5 (w:=let z1:=((List.length l:Nat):Int);(.intro (Ab c z1) fun o1=> .seg [.call [0] (.v (vI o1.x)) (Kc o1.c1)] (.intro (Sx (l[Int.toNat o1.x]?)) fun x1=> .seg [.el .int x1] (.leaf (⟨x1,o1.c1⟩:Jg) [0])),In (Ab c z1) fun o1=>((Ai c z1 o1)∧El (l[Int.toNat o1.x]?) fun x1=>((l[Int.toNat o1.x]? =some x1)∧((0:Int)≤o1.x)∧((x1∈l)∧(A2 o1.c1))∧Lf (.v (vI x1)) (.v (vI x1)) (Kc o1.c1) (Kc o1.c1))))) Q5 ?_
 refine⟨(An c ((List.length l:Nat):Int) Q0),fun o1 ho_o1=>?_⟩
 obtain ⟨⟨hp_o1_0,hp_o1_1,hp_o1_2,hp_o1_3⟩,hf_o1⟩:=ho_o1
 refine⟨hf_o1,(Be (l:=l) (i:=Int.toNat o1.x) Q2),fun x1 hx1=>?_⟩
 exact⟨hx1,Q2,⟨(List.mem_of_getElem? hx1),Q0⟩,rfl,rfl⟩
structure Aj4 where
 x:Int
 c1:Cur
structure Np where
 c1:Cur
def Uv (b:List Int) (o:Np):Prop:=Fun Tryz.prog 61 [.c (.seq .u8 b)] [] (.v (vP 0)) [.cells (Cm o.c1)]
def Nq (b:List Int) (o:Np):Prop:=((A2 o.c1))∧Uv b o
structure Pc where
 h:Int
 i:Nat
def Pd (b:List Int):Fam:=⟨Pc,fun q1=>[(0,.v (.c (.seq .u8 b))),(3,.v (vI q1.h)),(4,.v (vI ((q1.i:Nat):Int)))],fun _=>[],fun q1=>q1.i≤List.length b∧(0:Int)≤q1.h∧q1.h≤1073741823,fun q1=>List.length b-q1.i⟩
theorem Afa (b:List Int) (hp1:List.length b≤1048576): ∃o:Np,Nq b o:=by
 have hN:Bg=274877906944:=rfl
 refine B2 Tryz.func61 Q5 Q5 (w:=let z5:=((List.length b:Nat):Int);let z6:=Pd b;(.seg [.as 7 (.v (vI (28433+z5))),.at 0,.keep [0,3,4],.sel []] (.loop z6 fun q1=> .br (.br (.seg [.as 19 (.v (vI (q1.h*131)))] (.intro (Sx (b[q1.i]?)) fun x1=> .seg [.el .u8 x1,.as 27 (.v (vI ((IntKind.i64.wrap ((IntKind.i64.wrap ((q1.h*131)+(IntKind.i64.wrap (x1))))+7)) % 1073741824))),.as 17 (.v (vI (((q1.i:Nat):Int)+1))),.at 0,.keep [0,3,4],.sel []] (.next))) (.leaf (⟨(⟨b,0,q1.h⟩:Cur)⟩:Np) [0])) (.leaf (⟨(⟨b,0,q1.h⟩:Cur)⟩:Np) [0])),(wI (28433+z5))∧z6.Has [(0,.v (.c (.seq .u8 b))),(3,.v (vI (28433+z5))),(4,.v (vI 0))] []∧∀q1,z6.inv q1→(let z3:=((q1.i:Nat):Int);let z4:List Blk:=[.cells [.seq .u8 b,.int .i64 0,.int .i64 q1.h]];let z2:=((A2 (⟨b,0,q1.h⟩:Cur)))∧Lf (.v (vP 0)) (.v (vP 0)) z4 z4;Bc (decide (z3<z5)) (Bc (decide (z3<4000)) ((wI (q1.h*131))∧El (b[q1.i]?) fun x1=>(let z1:=IntKind.i64.wrap ((IntKind.i64.wrap ((q1.h*131)+(IntKind.i64.wrap (x1))))+7);(b[q1.i]? =some x1)∧((0:Int)≤z3)∧((.v (vI (IntKind.i64.wrap (((BitVec.ofInt 64 z1&&&BitVec.ofInt 64 1073741823).toNat:Nat)))):S)= .v (vI (z1 % 1073741824)))∧(wI (z3+1))∧z6.Nxt q1 [(0,.v (.c (.seq .u8 b))),(3,.v (vI (z1 % 1073741824))),(4,.v (vI (z3+1)))] [])) z2) z2))) Q5 ?_
 refine⟨(Ac Q2 Q2),Ca (j:=(⟨28433+((List.length b:Nat):Int),0⟩:Pc)) Q7 rfl (by dsimp only[Pd];exact⟨by omega,by omega,by omega⟩),fun (q1:Pc) hq_q1=>?_⟩
 have hi_q1:q1.i≤List.length b∧(0:Int)≤q1.h∧q1.h≤1073741823:=hq_q1
 obtain ⟨v1,v2,v3⟩:=hi_q1
 refine dsp (fun h1 p1=>?_) fun h1 p1=>?_
 refine dsp (fun h2 p2=>?_) fun h2 p2=>?_
 refine⟨(Ac Q2 Q2),(Be (l:=b) (i:=q1.i) Q2),fun x1 hx1=>?_⟩
 exact⟨hx1,Q2,(Jz (k:=30) Q21 Q21),(Ac Q2 Q2),A5 (j:=(⟨(IntKind.i64.wrap ((IntKind.i64.wrap ((q1.h*131)+(IntKind.i64.wrap (x1))))+7)) % 1073741824,q1.i+1⟩:Pc)) Q7 rfl (by dsimp only[Pd];exact⟨by omega,by omega,by omega⟩) (by dsimp only[Pd];omega)⟩
 exact⟨(⟨by dsimp only;omega,hp1⟩),rfl,rfl⟩
 exact⟨(⟨by dsimp only;omega,hp1⟩),rfl,rfl⟩
structure L5 where
 l:List Int
 c1:Cur
def Cs (c:Cur) (n:Int) (o:L5):Prop:=Fun Tryz.prog 65 [vP 0,vI n] [.cells (Cm c)] (.v (vO 1)) [.cells (Cm o.c1),.lst .u8 o.l]
def Bj (c:Cur) (n:Int) (o:L5):Prop:=((List.length o.l≤Int.toNat n)∧(A2 o.c1))∧Cs c n o
structure Kr where
 c:Cur
 b:List Int
 i:Nat
def Ks (n:Int):Fam:=⟨Kr,fun q1=>[(0,.v (vP 0)),(1,.v (vI n)),(5,.v (vO 1)),(6,.v (vI ((q1.i:Nat):Int)))],fun q1=>[.cells (Cm q1.c),.lst .u8 q1.b],fun q1=>A2 q1.c∧List.length q1.b=q1.i∧(q1.i=0∨((q1.i:Nat):Int)≤n),fun q1=>Int.toNat n-q1.i⟩
theorem Dw (c:Cur) (n:Int) (hp1:A2 c) (hp2:n≤100000): ∃o:L5,Bj c n o:=by
 have hN:Bg=274877906944:=rfl
 refine B2 Tryz.func65 Q5 Q5 (w:=let z2:=Ks n;(.seg [.ty .u8,.at 0,.keep [0,1,5,6],.sel [0,1]] (.loop z2 fun q1=> .br (.intro (Dz q1.c) fun o1=> .seg [.call [0] (.v (vI o1.x)) (Kc o1.c1),.as 16 (.v (.c (.int .u8 o1.x))),.ty .u8,.ty .u8,.as 12 (.v (vI (((q1.i:Nat):Int)+1))),.at 0,.keep [0,1,5,6],.sel [0,3]] (.next)) (.leaf (⟨q1.b,q1.c⟩:L5) [0,1])),z2.Has [(0,.v (vP 0)),(1,.v (vI n)),(5,.v (vO 1)),(6,.v (vI 0))] [.cells (Cm c),.lst .u8 ([]:List Int)]∧∀q1,z2.inv q1→(let z1:=((q1.i:Nat):Int);Bc (decide (z1<n)) (In (Dz q1.c) fun o1=>((Gb q1.c o1)∧((.v (.c (.int .u8 (IntKind.u8.wrap (o1.x)))):S)= .v (.c (.int .u8 o1.x)))∧(List.length q1.b+List.length [o1.x]≤Bg)∧(wI (z1+1))∧z2.Nxt q1 [(0,.v (vP 0)),(1,.v (vI n)),(5,.v (vO 1)),(6,.v (vI (z1+1)))] [.cells (Cm o1.c1),.lst .u8 (q1.b++[o1.x])])) (((List.length q1.b≤Int.toNat n)∧(A2 q1.c))∧Lf (.v (vO 1)) (.v (vO 1)) [.cells (Cm q1.c),.lst .u8 q1.b] [.cells (Cm q1.c),.lst .u8 q1.b])))) Q5 ?_
 refine⟨Ca (j:=(⟨c,([]:List Int),0⟩:Kr)) Q7 rfl (by dsimp only[Ks];exact⟨hp1,rfl,.inl rfl⟩),fun (q1:Kr) hq_q1=>?_⟩
 have hi_q1:A2 q1.c∧List.length q1.b=q1.i∧(q1.i=0∨((q1.i:Nat):Int)≤n):=hq_q1
 obtain ⟨v1,v2,v3⟩:=hi_q1
 refine dsp (fun h1 p1=>?_) fun h1 p1=>?_
 refine⟨(L4 q1.c Q0),fun o1 ho_o1=>?_⟩
 obtain ⟨⟨hp_o1_0,hp_o1_1⟩,hf_o1⟩:=ho_o1
 exact⟨hf_o1,(P3 Q2 Q2),Q4,(Ac Q2 Q2),A5 (j:=(⟨o1.c1,q1.b++[o1.x],q1.i+1⟩:Kr)) Q7 rfl (by dsimp only[Ks];exact⟨by assumption,by simp;omega,by omega⟩) (by dsimp only[Ks];omega)⟩
 exact⟨⟨Q2,Q0⟩,rfl,rfl⟩
end Go.Proofs.YtijacopaadmncaaGreat.Ax
