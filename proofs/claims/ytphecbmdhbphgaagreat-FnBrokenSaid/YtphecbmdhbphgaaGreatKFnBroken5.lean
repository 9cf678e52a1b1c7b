/- The grammar: values with a length. The grammar: messages. Models: F5 inputs. Whole inputs: what is said of them. Draws of numbers, bytes, scripts. Drawn descriptions: checks. What drawn descriptions compile to. -/
import Derived.Test.YtphecbmdhbphgaaGreatKFnBroken4
import Derived.Test.YtphecbmdhbphgaaGreatKFnBroken2
import Derived.Test.YtphecbmdhbphgaaGreatKFnBroken1
set_option linter.unusedSimpArgs false
set_option linter.unusedVariables false
namespace Go.Proofs.YtphecbmdhbphgaaGreat.Ax
open Go.RowKit
def Aha (K:Nat):Prop:= ∀(r:Mr) (shape:Int) (end_:Int) (deep:Int) (hp1:List.length (r).s≤1048576) (hp2:(r).at_≤((List.length (r).s:Nat):Int)) (hp3:(r).fail.kind=0) (hp4:((List.length (r).out:Nat):Int)+4*(((List.length (r).s:Nat):Int)-(r).at_)≤100000000) (hp5:(0:Int)≤(r).at_) (hp6: -1000000000≤end_∧end_≤9223372036854775807) (hp7:B1 (r).plan=true) (hp8:(1:Int)≤deep∧deep≤(r).plan.deep) (hp9:Int.toNat ((r).plan.deep-deep)<K),Fun Tryz.prog 159 [vP 0,vI shape,vI end_,vI deep] [.cells (Ej 1 r),.lst .ev r.out] (.tup []) [.cells (Ej 2 (Ht (Int.toNat ((r).plan.deep-deep)) shape end_ r)),.dead,.lst .ev (Ht (Int.toNat ((r).plan.deep-deep)) shape end_ r).out]
structure R9 where
 r:Mr
def Sa (r:Mr) (f:Fld) (end_:Int):Fam:=⟨R9,fun q1=>[(0,.v (vP 0)),(5,.v (vP 3)),(11,.v (vI ((Az r end_).at_+(A5 r end_))))],fun q1=>[.cells (Ej 2 q1.r),.dead,.lst .ev q1.r.out,.cells (Fv f)],fun q1=>LInv (fun x=>Bm x f (Ba f.kind) ((Az r end_).at_+A5 r end_)) ((Az r end_).at_+A5 r end_) (Az r end_) q1.r,fun q1=>Lw q1.r⟩
theorem Ak9 (K:Nat) (hM:Aha K) (r:Mr) (f:Fld) (end_:Int) (deep:Int) (hp1:List.length (r).s≤1048576) (hp2:(r).at_≤((List.length (r).s:Nat):Int)) (hp3:(r).fail.kind=0) (hp4:((List.length (r).out:Nat):Int)+4*(((List.length (r).s:Nat):Int)-(r).at_)≤100000000) (hp5:(0:Int)≤(r).at_) (hp6: -1000000000≤end_∧end_≤9223372036854775807) (hp7:B1 (r).plan=true) (hp8:(1:Int)≤deep∧deep≤(r).plan.deep) (hp9:(0:Int)≤(f).number) (hp10:(f).number=0∨1≤(f).kind∧(f).kind≤8) (hp11:Int.toNat ((r).plan.deep-deep)≤K):Fun Tryz.prog 205 [vP 0,.agg (Fv f),vI end_,vI deep] [.cells (Ej 1 r),.lst .ev r.out] (.tup []) [.cells (Ej 2 (Br (Jk (Int.toNat ((r).plan.deep-deep))) r f (decide ((f).number≠0)) end_)),.dead,.lst .ev (Br (Jk (Int.toNat ((r).plan.deep-deep))) r f (decide ((f).number≠0)) end_).out]:=by
 have hN:Bn=274877906944:=rfl
 have hpt:=Cd hp7
 obtain ⟨hv,hv2,hv3⟩:=E5 (e:=end_) hp2
 have hvk:=Ea (r:=r) (e:=end_) hp3
 have hu:=M0 r end_
 have hvs:=congrArg List.length hv.1.s
 have hvo:=congrArg List.length hv3
 have hvp:=hv.1.plan
 have hvd:(Az r end_).plan.deep=r.plan.deep:=by rw[hvp]
 have hnm:Cf f.kind=true↔1≤f.kind∧f.kind≤5:=by simp[Cf,Ai]
 refine Av Tryz.func205 Q4 Q4 (w:=let zi:Int→C:= .int .i64;let z6:=Az r end_;let z7:=Ag z6 (⟨6,f.number,0,A5 r end_,[],0,0⟩:Ev);let z9:=(z6.s.length:Int);let z10:=A5 r end_;let z8:List Blk:=[.cells (Ej 2 (Ch z6 f z10)),.dead,.lst .ev (Ch z6 f z10).out];let z12:List Blk:=[.cells (Ej 1 z6),.lst .ev z6.out];let z13:=Bh 8 r.at_;let z14:=Bh 6 r.at_;let z15:=z6.at_+z10;let z16:=Bh 10 z9;let z17:=Br (Jk (Int.toNat ((r).plan.deep-deep))) r f (decide ((f).number≠0)) end_;let z5:List Blk:=[.cells (Ej 2 z17),.dead,.lst .ev z17.out];let z19:=Sa r f end_;let z20:=Ba f.kind;let z21:=z7.at_+z10;let z4:=Ht (Int.toNat ((z7).plan.deep-(deep+1))) f.msg z21 z7;let z18:List Blk:=[.cells (Ej 2 z4),.dead,.lst .ev z4.out];let z22:=Ag z4 (⟨7,0,0,0,[],0,0⟩:Ev);let z11:List Blk:=[.cells (Ej 2 z22),.dead,.lst .ev z22.out];let z23:=end_-z6.at_;let z24:List Blk:=[.cells (Ej 2 z7),.dead,.lst .ev z7.out];(.seg [.call [0,1] (.v (.c (.int .u64 z10))) z12] (.br (.seg [.at 0,.cut 0 6] (.leaf () [0,1,3])) (.seg [.as 31 (.v (vI z23)),.as 32 (.v (.c (.int .u64 z23)))] (.br (.seg [.call [] (.v (.agg (cEv z13))) [],.at 0,.cut 0 6] (.leaf () [0,1,3])) (.seg [.as 40 (.v (vI z10))] (.br (.seg [.ord (os 12 []) [],.as 81 (.v (vI (z9-z6.at_)))] (.br (.seg [.call [] (.v (.agg (cEv z16))) [],.at 0,.cut 0 6] (.leaf () [0,1,3])) (.seg [.as 99 (.v (vI z15)),.at 0,.cut 0 6] (.leaf () [0,1,3])))) (.br (.br (.seg [.call [] (.v (.agg (cEv z14))) [],.at 0,.cut 0 6] (.leaf () [0,1,3])) (.seg [.call [0,1] (.tup []) z24,.ord (os 12 [11]) [],.as 132 (.v (vI z21)),.as 134 (.v (vI (deep+1))),.call [0,3] (.tup []) z18] (.br (.seg [.call [0,4] (.tup []) z11] (.leaf () [0,1,5])) (.leaf () [0,1,4])))) (.br (.seg [.call [0,1] (.tup []) z8] (.leaf () [0,1,3])) (.br (.seg [.call [0,1] (.tup []) z8] (.leaf () [0,1,3])) (.seg [.as 46 (.v (vI z15)),.at 0,.cut 0 6,.keep [0,5,11],.sel [0,1,3,2]] (.loop z19 fun q1=>let z1:=Bm q1.r f z20 z15;.br (.br (.seg [.ord [(0,true),(1,true),(2,true),(3,true),(5,true),(4,false),(6,false)] [],.call [] (.v (vI z20)) [],.call [0,2] (.tup []) [.cells (Ej 2 z1),.dead,.lst .ev z1.out],.at 0,.keep [0,5,11],.sel [0,1,4,3]] (.next)) (.leaf () [0,1,2])) (.leaf () [0,1,2]))))))))))),(Fp 204 [vP 0,vI end_] [.cells (Ej 1 r),.lst .ev r.out] (.v (.c (.int .u64 z10))) z12)∧Bc (!decide (z6.fail.kind=0)) (Lf (.tup []) (.tup []) [.cells (Ej 2 z6),.dead,.lst .ev z6.out] z5) ((wI z23)∧(wU z23)∧Bc (decide (end_-z6.at_<A5 r end_)) ((Fp 94 [vI 8,vI r.at_] [] (.v (.agg (cEv z13))) [])∧Lf (.tup []) (.tup []) [.cells [.seq .shp z6.plan.shapes,zi z6.plan.root,zi z6.plan.deep,zi z6.plan.most,.str z6.s,zi z6.at_,.own 2,zi z13.kind,zi z13.field,.int .u64 z13.bits,zi z13.len,.str z13.text,zi z13.code,zi z13.at_],.dead,.lst .ev z6.out] z5) ((wI z10)∧Bc (decide (f.number=0)) ((wI (z9-z6.at_))∧(wI (z9-z6.at_))∧Bc (decide (z9-z6.at_<A5 r end_)) ((Fp 94 [vI 10,vI z9] [] (.v (.agg (cEv z16))) [])∧Lf (.tup []) (.tup []) [.cells [.seq .shp z6.plan.shapes,zi z6.plan.root,zi z6.plan.deep,zi z6.plan.most,.str z6.s,zi z6.at_,.own 2,zi z16.kind,zi z16.field,.int .u64 z16.bits,zi z16.len,.str z16.text,zi z16.code,zi z16.at_],.dead,.lst .ev z6.out] z5) ((wI z15)∧Lf (.tup []) (.tup []) [.cells [.seq .shp z6.plan.shapes,zi z6.plan.root,zi z6.plan.deep,zi z6.plan.most,.str z6.s,zi z15,.own 2,zi z6.fail.kind,zi z6.fail.field,.int .u64 z6.fail.bits,zi z6.fail.len,.str z6.fail.text,zi z6.fail.code,zi z6.fail.at_],.dead,.lst .ev z6.out] z5)) (Bc (decide (f.kind=8)) (Bc (decide (z6.plan.deep≤deep)) ((Fp 94 [vI 6,vI r.at_] [] (.v (.agg (cEv z14))) [])∧Lf (.tup []) (.tup []) [.cells [.seq .shp z6.plan.shapes,zi z6.plan.root,zi z6.plan.deep,zi z6.plan.most,.str z6.s,zi z6.at_,.own 2,zi z14.kind,zi z14.field,.int .u64 z14.bits,zi z14.len,.str z14.text,zi z14.code,zi z14.at_],.dead,.lst .ev z6.out] z5) ((Fp 224 [vP 0,.agg [zi 6,zi f.number,.int .u64 0,zi z10,.str [],zi 0,zi 0]] z12 (.tup []) z24)∧(wI z21)∧(wI z21)∧(wI (deep+1))∧(wI (deep+1))∧(Fp 159 [vP 0,vI f.msg,vI z21,vI (deep+1)] [.cells (Ej 1 z7),.lst .ev z7.out] (.tup []) z18)∧Bc (decide (z4.fail.kind=0)) ((Fp 224 [vP 0,.agg [zi 7,zi 0,.int .u64 0,zi 0,.str [],zi 0,zi 0]] [.cells (Ej 1 z4),.lst .ev z4.out] (.tup []) z11)∧Lf (.tup []) (.tup []) z11 z5) (Lf (.tup []) (.tup []) z18 z5))) (Bc (decide (f.kind=6)) ((Fp 225 [vP 0,.agg (Fv f),vI z10] z12 (.tup []) z8)∧Lf (.tup []) (.tup []) z8 z5) (Bc (decide (f.kind=7)) ((Fp 225 [vP 0,.agg (Fv f),vI z10] z12 (.tup []) z8)∧Lf (.tup []) (.tup []) z8 z5) ((wI z15)∧z19.Has [(0,.v (vP 0)),(5,.v (vP 3)),(11,.v (vI z15))] [.cells (Ej 2 z6),.dead,.lst .ev z6.out,.cells (Fv f)]∧∀q1,z19.inv q1→(let z2:=Lf (.tup []) (.tup []) [.cells (Ej 2 q1.r),.dead,.lst .ev q1.r.out] z5;let z3:=Bm q1.r f z20 z15;Bc (decide (q1.r.at_<z6.at_+z10)) (Bc (decide (q1.r.fail.kind=0)) ((Fp 131 [vI f.kind] [] (.v (vI z20)) [])∧(Fp 206 [vP 0,.agg (Fv f),vI z20,vI z15] [.cells (Ej 1 q1.r),.lst .ev q1.r.out] (.tup []) [.cells (Ej 2 z3),.dead,.lst .ev z3.out])∧z19.Nxt q1 [(0,.v (vP 0)),(5,.v (vP 3)),(11,.v (vI z15))] [.cells (Ej 2 z3),.dead,.lst .ev z3.out,.cells (Fv f)]) z2) z2))))))))) Q4 ?_
 refine⟨(S5 r _ Q2),fun h1=>have q1:=Aq h1;have p1:=of_decide_eq_false q1;?_,fun h1=>have q1:=Ao h1;have p1:=of_decide_eq_true q1;?_⟩
 have hok:Bq r end_=false:=by rw[hvk];simpa using q1
 refine zE (Br (Jk (Int.toNat ((r).plan.deep-deep))) r f (decide ((f).number≠0)) end_) (Az r end_) (fun hm1=>⟨rfl,Q7⟩) ?_
 rotate_left
 have hok:Bq r end_=true:=by rw[hvk];simpa using q1
 have hk:(Az r end_).fail.kind=0:=by rw[hvk] at hok;simpa using hok
 have ha:=hv.1.at_ hk
 have hb:=hv.2 hk
 have h2:=hv2 hok
 refine⟨(Af Q2 Q2),(Bs Q2 Q2),dsp (fun h2 p2=>?_) fun h2 p2=>?_⟩
 refine zE (Br (Jk (Int.toNat ((r).plan.deep-deep))) r f (decide ((f).number≠0)) end_) (⟨(Az r end_).plan,(Az r end_).s,(Az r end_).at_,(Az r end_).out,(Bh 8 r.at_)⟩:Mr) (fun hm1=>⟨(C5 _ _),rfl,Q7⟩) ?_
 rotate_left
 refine⟨(Af Q2 Q2),dsp (fun h3 p3=>?_) fun h3 p3=>?_⟩
 refine⟨(Af Q2 Q2),(Af Q2 Q2),dsp (fun h4 p4=>?_) fun h4 p4=>?_⟩
 refine zE (Br (Jk (Int.toNat ((r).plan.deep-deep))) r f (decide ((f).number≠0)) end_) (⟨(Az r end_).plan,(Az r end_).s,(Az r end_).at_,(Az r end_).out,(Bh 10 ((List.length (Az r end_).s:Nat):Int))⟩:Mr) (fun hm1=>⟨(C5 _ _),rfl,Q7⟩) ?_
 rotate_left
 refine zE (Br (Jk (Int.toNat ((r).plan.deep-deep))) r f (decide ((f).number≠0)) end_) (⟨(Az r end_).plan,(Az r end_).s,(Az r end_).at_+(A5 r end_),(Az r end_).out,(Az r end_).fail⟩:Mr) (fun hm1=>⟨(Af Q2 Q2),rfl,Q7⟩) ?_
 rotate_left
 refine dsp (fun h4 p4=>?_) fun h4 p4=>?_
 refine dsp (fun h5 p5=>?_) fun h5 p5=>?_
 have hsub: ∀(v:Mr) (n s:Int),Jk (Int.toNat (r.plan.deep-deep)) v f n s=Cw v 6 s:=fun v n s=>by rw[show Int.toNat (r.plan.deep-deep)=0 by omega];rfl
 refine zE (Br (Jk (Int.toNat ((r).plan.deep-deep))) r f (decide ((f).number≠0)) end_) (⟨(Az r end_).plan,(Az r end_).s,(Az r end_).at_,(Az r end_).out,(Bh 6 r.at_)⟩:Mr) (fun hm1=>⟨(C5 _ _),rfl,Q7⟩) ?_
 rotate_left
 have hsub: ∀(v:Mr) (n s:Int),Jk (Int.toNat (r.plan.deep-deep)) v f n s=if (Ht (Int.toNat (r.plan.deep-(deep+1))) f.msg (v.at_+n) (Ag v (E4 f n))).fail.kind=0 then Ag (Ht (Int.toNat (r.plan.deep-(deep+1))) f.msg (v.at_+n) (Ag v (E4 f n))) Aoy else (Ht (Int.toNat (r.plan.deep-(deep+1))) f.msg (v.at_+n) (Ag v (E4 f n))):=fun v n s=>by rw[show Int.toNat (r.plan.deep-deep)=Int.toNat (r.plan.deep-(deep+1))+1 by omega];rfl
 refine⟨(Nq (Az r end_) (⟨6,f.number,0,A5 r end_,[],0,0⟩:Ev) Q2),(Af Q26 Q26),(Af Q26 Q26),(Af Q2 Q2),(Af Q2 Q2),(hM (Ag (Az r end_) (⟨6,f.number,0,A5 r end_,[],0,0⟩:Ev)) _ _ _ Q23 Q23 Q53 Q23 Q23 Q23 (by simpa [Ag,hvp] using hp7) (by simp only[Ag,hvp];omega) (by simp only[Ag,hvp];omega)),dsp (fun h6 p6=>?_) fun h6 p6=>?_⟩
 refine zE (Br (Jk (Int.toNat ((r).plan.deep-deep))) r f (decide ((f).number≠0)) end_) (Ag (Ht (Int.toNat (((Ag (Az r end_) (⟨6,f.number,0,A5 r end_,[],0,0⟩:Ev))).plan.deep-(deep+1))) f.msg ((Ag (Az r end_) (⟨6,f.number,0,A5 r end_,[],0,0⟩:Ev)).at_+(A5 r end_)) (Ag (Az r end_) (⟨6,f.number,0,A5 r end_,[],0,0⟩:Ev))) (⟨7,0,0,0,[],0,0⟩:Ev)) (fun hm1=>⟨(Nq (Ht (Int.toNat (((Ag (Az r end_) (⟨6,f.number,0,A5 r end_,[],0,0⟩:Ev))).plan.deep-(deep+1))) f.msg ((Ag (Az r end_) (⟨6,f.number,0,A5 r end_,[],0,0⟩:Ev)).at_+(A5 r end_)) (Ag (Az r end_) (⟨6,f.number,0,A5 r end_,[],0,0⟩:Ev))) (⟨7,0,0,0,[],0,0⟩:Ev) (Xo Q23 Q23)),rfl,Q7⟩) ?_
 rotate_left
 refine zE (Br (Jk (Int.toNat ((r).plan.deep-deep))) r f (decide ((f).number≠0)) end_) (Ht (Int.toNat (((Ag (Az r end_) (⟨6,f.number,0,A5 r end_,[],0,0⟩:Ev))).plan.deep-(deep+1))) f.msg ((Ag (Az r end_) (⟨6,f.number,0,A5 r end_,[],0,0⟩:Ev)).at_+(A5 r end_)) (Ag (Az r end_) (⟨6,f.number,0,A5 r end_,[],0,0⟩:Ev))) (fun hm1=>⟨rfl,Q7⟩) ?_
 rotate_left
 refine dsp (fun h5 p5=>?_) fun h5 p5=>?_
 refine zE (Br (Jk (Int.toNat ((r).plan.deep-deep))) r f (decide ((f).number≠0)) end_) (Ch (Az r end_) f (A5 r end_)) (fun hm1=>⟨(Ak8 (Az r end_) f _ Q2 Q2 Q53 Q2 Q2 Q2),rfl,Q7⟩) ?_
 rotate_left
 refine dsp (fun h6 p6=>?_) fun h6 p6=>?_
 refine zE (Br (Jk (Int.toNat ((r).plan.deep-deep))) r f (decide ((f).number≠0)) end_) (Ch (Az r end_) f (A5 r end_)) (fun hm1=>⟨(Ak8 (Az r end_) f _ Q2 Q2 Q53 Q2 Q2 Q2),rfl,Q7⟩) ?_
 rotate_left
 refine⟨(Af Q2 Q2),Cm (j:=(⟨(Az r end_)⟩:R9)) rfl rfl (by dsimp only[Sa];exact LInv.refl Q2),fun (q1:R9) hq_q1=>?_⟩
 have hi_q1:LInv (fun x=>Bm x f (Ba f.kind) ((Az r end_).at_+A5 r end_)) ((Az r end_).at_+A5 r end_) (Az r end_) q1.r:=hq_q1
 have hwf:=Aec (k:=f.kind) (by omega)
 have hlg:= @LInv.go _ (K8 f (Ba f.kind) ((Az r end_).at_+A5 r end_)) _ _ _ hi_q1
 refine dsp (fun h7 p7=>?_) fun h7 p7=>?_
 refine dsp (fun h8 p8=>?_) fun h8 p8=>?_
 have hrm:=hi_q1.room p8
 have hat:=hi_q1.at_ p8
 exact⟨(Ru _),(Anc q1.r f _ _ Q2 Q2 Q53 Q2 Q2 Q2 Q2),Be (j:=(⟨(Bm q1.r f (Ba f.kind) ((Az r end_).at_+(A5 r end_)))⟩:R9)) rfl rfl (by dsimp only[Sa];exact(hlg Q2 Q2).1) (by dsimp only[Sa];exact(hlg Q2 Q2).2)⟩
 have hend:Kq (Az r end_) f ((Az r end_).at_+A5 r end_)=q1.r:=hi_q1.bad p8
 refine zE (Br (Jk (Int.toNat ((r).plan.deep-deep))) r f (decide ((f).number≠0)) end_) q1.r (fun hm1=>⟨rfl,Q7⟩) ?_
 rotate_left
 have hend:Kq (Az r end_) f ((Az r end_).at_+A5 r end_)=q1.r:=hi_q1.end_ p7
 refine zE (Br (Jk (Int.toNat ((r).plan.deep-deep))) r f (decide ((f).number≠0)) end_) q1.r (fun hm1=>⟨rfl,Q7⟩) ?_
 rotate_left
 all_goals first|(grind (ematch:=20) (gen:=20) [Br,Ag,F0,Cw,E4,Aoy,Bh])
structure Ga where
 r:Mr
def Sb (r:Mr) (shape:Int) (end_:Int) (deep:Int):Fam:=⟨Ga,fun q1=>[(0,.v (vP 0)),(1,.v (vI shape)),(2,.v (vI end_)),(3,.v (vI deep))],fun q1=>[.cells (Ej 2 q1.r),.dead,.lst .ev q1.r.out],fun q1=>LInv (Dv (Jk (Int.toNat (r.plan.deep-deep))) shape end_) end_ r q1.r,fun q1=>Lw q1.r⟩
theorem Aoz (K:Nat) (hM:Aha K) (r:Mr) (shape:Int) (end_:Int) (deep:Int) (hp1:List.length (r).s≤1048576) (hp2:(r).at_≤((List.length (r).s:Nat):Int)) (hp3:(r).fail.kind=0) (hp4:((List.length (r).out:Nat):Int)+4*(((List.length (r).s:Nat):Int)-(r).at_)≤100000000) (hp5:(0:Int)≤(r).at_) (hp6: -1000000000≤end_∧end_≤9223372036854775807) (hp7:B1 (r).plan=true) (hp8:(1:Int)≤deep∧deep≤(r).plan.deep) (hp9:Int.toNat ((r).plan.deep-deep)≤K):Fun Tryz.prog 159 [vP 0,vI shape,vI end_,vI deep] [.cells (Ej 1 r),.lst .ev r.out] (.tup []) [.cells (Ej 2 (Ht (Int.toNat ((r).plan.deep-deep)) shape end_ r)),.dead,.lst .ev (Ht (Int.toNat ((r).plan.deep-deep)) shape end_ r).out]:=by
 have hN:Bn=274877906944:=rfl
 have hpt:=Cd hp7
 refine Av Tryz.func159 Q4 Q4 (w:=let zi:Int→C:= .int .i64;let z13:=Sb r shape end_ deep;let z14:=Ht (Int.toNat ((r).plan.deep-deep)) shape end_ r;let z15:=vI shape;let z16:List Blk:=[.cells (Ej 2 z14),.dead,.lst .ev z14.out];(.seg [.at 0,.cut 0 6,.keep [0,1,2,3],.sel [0,1,2]] (.loop z13 fun q1=>let z4:=A5 q1.r end_;let z5:=Az q1.r end_;let z1:=(fieldAt z5.plan.shapes shape (Bi z4)).getD fld0;let z2:=Br (Jk (Int.toNat ((z5).plan.deep-deep))) z5 z1 (decide ((z1).number≠0)) end_;let z3:=Bm z5 z1 (Ah z4) end_;.br (.br (.seg [.call [0,2] (.v (.c (.int .u64 z4))) [.cells (Ej 1 z5),.lst .ev z5.out]] (.br (.leaf () [0,1,2]) (.seg [.call [] (.tup [vI (Bi z4),vI (Ah z4),vB (Kp z4)]) [],.call [] (.tup [.agg (Fv z1),vB (fieldAt z5.plan.shapes shape (Bi z4)).isSome]) []] (.br (.seg [.call [] (.v (.agg (cEv (Bh 2 q1.r.at_)))) [],.at 0,.keep [0,1,2,3],.sel [0,1,2]] (.next)) (.seg [.call [] (.v (vB (De (Ah z4)))) []] (.br (.seg [.call [] (.v (.agg (cEv (Bh 3 q1.r.at_)))) [],.at 0,.keep [0,1,2,3],.sel [0,1,2]] (.next)) (.br (.seg [.call [] (.v (vB (Dt z1 (Ah z4)))) []] (.br (.seg [.call [] (.v (.agg (cEv (Bh 4 q1.r.at_)))) [],.at 0,.keep [0,1,2,3],.sel [0,1,2]] (.next)) (.br (.seg [.call [0,2] (.tup []) [.cells (Ej 2 z2),.dead,.lst .ev z2.out],.at 0,.keep [0,1,2,3],.sel [0,1,4]] (.next)) (.seg [.call [0,2] (.tup []) [.cells (Ej 2 z3),.dead,.lst .ev z3.out],.at 0,.keep [0,1,2,3],.sel [0,1,4]] (.next))))) (.br (.seg [.call [0,2] (.tup []) [.cells (Ej 2 z2),.dead,.lst .ev z2.out],.at 0,.keep [0,1,2,3],.sel [0,1,4]] (.next)) (.seg [.call [0,2] (.tup []) [.cells (Ej 2 z3),.dead,.lst .ev z3.out],.at 0,.keep [0,1,2,3],.sel [0,1,4]] (.next)))))))))) (.leaf () [0,1,2])) (.leaf () [0,1,2])),z13.Has [(0,.v (vP 0)),(1,.v z15),(2,.v (vI end_)),(3,.v (vI deep))] [.cells (Ej 2 r),.dead,.lst .ev r.out]∧∀q1,z13.inv q1→(let z7:=Az q1.r end_;let z8:=A5 q1.r end_;let z6:=(fieldAt z7.plan.shapes shape (Bi z8)).getD fld0;let z9:=Lf (.tup []) (.tup []) [.cells (Ej 2 q1.r),.dead,.lst .ev q1.r.out] z16;let z10:=Bh 2 q1.r.at_;let z11:=Bh 3 q1.r.at_;let z12:=Bh 4 q1.r.at_;Bc (decide (q1.r.at_<end_)) (Bc (decide (q1.r.fail.kind=0)) ((Fp 204 [vP 0,vI end_] [.cells (Ej 1 q1.r),.lst .ev q1.r.out] (.v (.c (.int .u64 z8))) [.cells (Ej 1 z7),.lst .ev z7.out])∧Bc (!decide (z7.fail.kind=0)) (Lf (.tup []) (.tup []) [.cells (Ej 2 z7),.dead,.lst .ev z7.out] z16) ((Fp 191 [.c (.int .u64 z8)] [] (.tup [vI (Bi z8),vI (Ah z8),vB (Kp z8)]) [])∧(Fp 188 [.agg [.seq .shp z7.plan.shapes],vI shape,vI (Bi z8)] [] (.tup [.agg (Fv z6),vB (fieldAt z7.plan.shapes shape (Bi z8)).isSome]) [])∧Bc (!(Kp z8)) ((Fp 94 [vI 2,vI q1.r.at_] [] (.v (.agg (cEv z10))) [])∧z13.Nxt q1 [(0,.v (vP 0)),(1,.v z15),(2,.v (vI end_)),(3,.v (vI deep))] [.cells [.seq .shp z7.plan.shapes,zi z7.plan.root,zi z7.plan.deep,zi z7.plan.most,.str z7.s,zi z7.at_,.own 2,zi z10.kind,zi z10.field,.int .u64 z10.bits,zi z10.len,.str z10.text,zi z10.code,zi z10.at_],.dead,.lst .ev z7.out]) ((Fp 122 [vI (Ah z8)] [] (.v (vB (De (Ah z8)))) [])∧Bc (!(De (Ah z8))) ((Fp 94 [vI 3,vI q1.r.at_] [] (.v (.agg (cEv z11))) [])∧z13.Nxt q1 [(0,.v (vP 0)),(1,.v z15),(2,.v (vI end_)),(3,.v (vI deep))] [.cells [.seq .shp z7.plan.shapes,zi z7.plan.root,zi z7.plan.deep,zi z7.plan.most,.str z7.s,zi z7.at_,.own 2,zi z11.kind,zi z11.field,.int .u64 z11.bits,zi z11.len,.str z11.text,zi z11.code,zi z11.at_],.dead,.lst .ev z7.out]) (Bc ((fieldAt z7.plan.shapes shape (Bi z8)).isSome) ((Fp 128 [.agg (Fv z6),vI (Ah z8)] [] (.v (vB (Dt z6 (Ah z8)))) [])∧Bc (!(Dt z6 (Ah z8))) ((Fp 94 [vI 4,vI q1.r.at_] [] (.v (.agg (cEv z12))) [])∧z13.Nxt q1 [(0,.v (vP 0)),(1,.v z15),(2,.v (vI end_)),(3,.v (vI deep))] [.cells [.seq .shp z7.plan.shapes,zi z7.plan.root,zi z7.plan.deep,zi z7.plan.most,.str z7.s,zi z7.at_,.own 2,zi z12.kind,zi z12.field,.int .u64 z12.bits,zi z12.len,.str z12.text,zi z12.code,zi z12.at_],.dead,.lst .ev z7.out]) (Bc (decide (Ah z8=2)) ((Fp 205 [vP 0,.agg (Fv z6),vI end_,vI deep] [.cells (Ej 1 z7),.lst .ev z7.out] (.tup []) [.cells (Ej 2 (Br (Jk (Int.toNat ((z7).plan.deep-deep))) z7 z6 (decide ((z6).number≠0)) end_)),.dead,.lst .ev (Br (Jk (Int.toNat ((z7).plan.deep-deep))) z7 z6 (decide ((z6).number≠0)) end_).out])∧z13.Nxt q1 [(0,.v (vP 0)),(1,.v z15),(2,.v (vI end_)),(3,.v (vI deep))] [.cells (Ej 2 (Br (Jk (Int.toNat ((z7).plan.deep-deep))) z7 z6 (decide ((z6).number≠0)) end_)),.dead,.lst .ev (Br (Jk (Int.toNat ((z7).plan.deep-deep))) z7 z6 (decide ((z6).number≠0)) end_).out]) ((Fp 206 [vP 0,.agg (Fv z6),vI (Ah z8),vI end_] [.cells (Ej 1 z7),.lst .ev z7.out] (.tup []) [.cells (Ej 2 (Bm z7 z6 (Ah z8) end_)),.dead,.lst .ev (Bm z7 z6 (Ah z8) end_).out])∧z13.Nxt q1 [(0,.v (vP 0)),(1,.v z15),(2,.v (vI end_)),(3,.v (vI deep))] [.cells (Ej 2 (Bm z7 z6 (Ah z8) end_)),.dead,.lst .ev (Bm z7 z6 (Ah z8) end_).out]))) (Bc (decide (Ah z8=2)) ((Fp 205 [vP 0,.agg (Fv z6),vI end_,vI deep] [.cells (Ej 1 z7),.lst .ev z7.out] (.tup []) [.cells (Ej 2 (Br (Jk (Int.toNat ((z7).plan.deep-deep))) z7 z6 (decide ((z6).number≠0)) end_)),.dead,.lst .ev (Br (Jk (Int.toNat ((z7).plan.deep-deep))) z7 z6 (decide ((z6).number≠0)) end_).out])∧z13.Nxt q1 [(0,.v (vP 0)),(1,.v z15),(2,.v (vI end_)),(3,.v (vI deep))] [.cells (Ej 2 (Br (Jk (Int.toNat ((z7).plan.deep-deep))) z7 z6 (decide ((z6).number≠0)) end_)),.dead,.lst .ev (Br (Jk (Int.toNat ((z7).plan.deep-deep))) z7 z6 (decide ((z6).number≠0)) end_).out]) ((Fp 206 [vP 0,.agg (Fv z6),vI (Ah z8),vI end_] [.cells (Ej 1 z7),.lst .ev z7.out] (.tup []) [.cells (Ej 2 (Bm z7 z6 (Ah z8) end_)),.dead,.lst .ev (Bm z7 z6 (Ah z8) end_).out])∧z13.Nxt q1 [(0,.v (vP 0)),(1,.v z15),(2,.v (vI end_)),(3,.v (vI deep))] [.cells (Ej 2 (Bm z7 z6 (Ah z8) end_)),.dead,.lst .ev (Bm z7 z6 (Ah z8) end_).out])))))) z9) z9))) Q4 ?_
 refine⟨Cm (j:=(⟨r⟩:Ga)) rfl rfl (by dsimp only[Sb];exact LInv.refl hp2),fun (q1:Ga) hq_q1=>?_⟩
 have hi_q1:LInv (Dv (Jk (Int.toNat (r.plan.deep-deep))) shape end_) end_ r q1.r:=hq_q1
 refine dsp (fun h1 p1=>?_) fun h1 p1=>?_
 refine dsp (fun h2 p2=>?_) fun h2 p2=>?_
 have hfl:=p2
 have hat:=hi_q1.at_ hfl
 have hrm:=hi_q1.room hfl
 obtain ⟨hv,hv2,hv3⟩:=E5 (r:=q1.r) (e:=end_) hat.2
 have hvk:=Ea (r:=q1.r) (e:=end_) hfl
 have hu:=M0 q1.r end_
 have hvs:=congrArg List.length hv.1.s
 have hvo:=congrArg List.length hv3
 have hvp:=hv.1.plan
 have hpl:=hvp.trans hrm.2.1
 have hsk:C3 (Az q1.r end_).plan.shapes=true:=by rw[hpl];exact hpt.2.1
 have htw:=Ag9 (A5 q1.r end_)
 have hkn:=Abk (s:=shape) (n:=Bi (A5 q1.r end_)) hsk
 have hff:=Qy (s:=shape) (n:=Bi (A5 q1.r end_)) hsk
 refine⟨(S5 q1.r _ Q2),fun h3=>have q3:=Aq h3;have p3:=of_decide_eq_false q3;?_,fun h3=>have q3:=Ao h3;have p3:=of_decide_eq_true q3;?_⟩
 have hok:Bq q1.r end_=false:=by rw[hvk];simpa using q3
 refine zE (Ht (Int.toNat ((r).plan.deep-deep)) shape end_ r) (Az q1.r end_) (fun hm1=>⟨rfl,Q7⟩) ?_
 rotate_left
 have hok:Bq q1.r end_=true:=by rw[hvk];simpa using q3
 have hk:(Az q1.r end_).fail.kind=0:=by rw[hvk] at hok;simpa using hok
 have ha:=hv.1.at_ hk
 have hb:=hv.2 hk
 have h2:=hv2 hok
 have hvl:=Eo (r:=Az q1.r end_) (w:=Ah (A5 q1.r end_)) (e:=end_) hk
 have hvu:=Ajq (Az q1.r end_) (Ah (A5 q1.r end_)) end_
 have hvq:=congrArg List.length (Z7 (r:=Az q1.r end_) (w:=Ah (A5 q1.r end_)) (e:=end_) (by omega)).2
 refine⟨(Amv _ Q2),(Agn (Az q1.r end_).plan.shapes _ _ (by rw[hpl];omega) (by rw[hpl];exact Fh hpt.2.1)),fun h4=>have q4:=Aq h4;?_,fun h4=>have q4:=Ao h4;?_⟩
 exact⟨(C5 _ _),Be (j:=(⟨(⟨(Az q1.r end_).plan,(Az q1.r end_).s,(Az q1.r end_).at_,(Az q1.r end_).out,(Bh 2 q1.r.at_)⟩:Mr)⟩:Ga)) rfl Q9 Q32 Q31⟩
 refine⟨(Ai2 _),fun h5=>have q5:=Aq h5;?_,fun h5=>have q5:=Ao h5;?_⟩
 exact⟨(C5 _ _),Be (j:=(⟨(⟨(Az q1.r end_).plan,(Az q1.r end_).s,(Az q1.r end_).at_,(Az q1.r end_).out,(Bh 3 q1.r.at_)⟩:Mr)⟩:Ga)) rfl Q9 Q32 Q31⟩
 refine⟨fun h6=>?_,fun h6=>?_⟩
 refine⟨(Agh ((fieldAt (Az q1.r end_).plan.shapes shape (Bi (A5 q1.r end_))).getD fld0) _ Q2),fun h7=>have q7:=Aq h7;?_,fun h7=>have q7:=Ao h7;?_⟩
 exact⟨(C5 _ _),Be (j:=(⟨(⟨(Az q1.r end_).plan,(Az q1.r end_).s,(Az q1.r end_).at_,(Az q1.r end_).out,(Bh 4 q1.r.at_)⟩:Mr)⟩:Ga)) rfl Q9 Q32 Q31⟩
 refine dsp (fun h8 p8=>?_) fun h8 p8=>?_
 exact⟨(Ak9 K hM (Az q1.r end_) ((fieldAt (Az q1.r end_).plan.shapes shape (Bi (A5 q1.r end_))).getD fld0) _ _ Q2 Q2 (hk) Q2 Q2 Q2 (by rw[hpl];exact hp7) (by rw[hpl];omega) (by grind) (by grind[De]) (by rw[hpl];omega)),Be (j:=(⟨(Br (Jk (Int.toNat (((Az q1.r end_)).plan.deep-deep))) (Az q1.r end_) ((fieldAt (Az q1.r end_).plan.shapes shape (Bi (A5 q1.r end_))).getD fld0) (decide ((((fieldAt (Az q1.r end_).plan.shapes shape (Bi (A5 q1.r end_))).getD fld0)).number≠0)) end_)⟩:Ga)) rfl rfl Q32 Q31⟩
 exact⟨(Anc (Az q1.r end_) ((fieldAt (Az q1.r end_).plan.shapes shape (Bi (A5 q1.r end_))).getD fld0) _ _ Q2 Q2 (hk) Q2 Q2 Q2 (by grind[De])),Be (j:=(⟨(Bm (Az q1.r end_) ((fieldAt (Az q1.r end_).plan.shapes shape (Bi (A5 q1.r end_))).getD fld0) (Ah (A5 q1.r end_)) end_)⟩:Ga)) rfl rfl Q32 Q31⟩
 refine dsp (fun h7 p7=>?_) fun h7 p7=>?_
 exact⟨(Ak9 K hM (Az q1.r end_) ((fieldAt (Az q1.r end_).plan.shapes shape (Bi (A5 q1.r end_))).getD fld0) _ _ Q2 Q2 (hk) Q2 Q2 Q2 (by rw[hpl];exact hp7) (by rw[hpl];omega) (by grind) (by grind[De]) (by rw[hpl];omega)),Be (j:=(⟨(Br (Jk (Int.toNat (((Az q1.r end_)).plan.deep-deep))) (Az q1.r end_) ((fieldAt (Az q1.r end_).plan.shapes shape (Bi (A5 q1.r end_))).getD fld0) (decide ((((fieldAt (Az q1.r end_).plan.shapes shape (Bi (A5 q1.r end_))).getD fld0)).number≠0)) end_)⟩:Ga)) rfl rfl Q32 Q31⟩
 exact⟨(Anc (Az q1.r end_) ((fieldAt (Az q1.r end_).plan.shapes shape (Bi (A5 q1.r end_))).getD fld0) _ _ Q2 Q2 (hk) Q2 Q2 Q2 (by grind[De])),Be (j:=(⟨(Bm (Az q1.r end_) ((fieldAt (Az q1.r end_).plan.shapes shape (Bi (A5 q1.r end_))).getD fld0) (Ah (A5 q1.r end_)) end_)⟩:Ga)) rfl rfl Q32 Q31⟩
 refine zE (Ht (Int.toNat ((r).plan.deep-deep)) shape end_ r) q1.r (fun hm1=>⟨rfl,Q7⟩) ?_
 rotate_left
 refine zE (Ht (Int.toNat ((r).plan.deep-deep)) shape end_ r) q1.r (fun hm1=>⟨rfl,Q7⟩) ?_
 rotate_left
 all_goals first|(exact(Mz _ _ _ _).trans (hi_q1.end_ (by omega)))|(exact(Mz _ _ _ _).trans (hi_q1.bad (by assumption)))|(rw[hm1];simp[Cw,Bh, *];done)|(exact(Mz _ _ _ _).trans (hi_q1.leave (Lz _ _ _) (by omega) hfl (by grind (ematch:=20) (gen:=20) [Dv,Bm,Ag,Cw]) (by first|(exact B9 _ _ _)|(simp_all;done)|(grind))))|(rw[hm1];grind)
theorem Ama: ∀K,Aha K
 |0=>fun r shape end_ deep hp1 hp2 hp3 hp4 hp5 hp6 hp7 hp8 hp9=>absurd hp9 (Nat.not_lt_zero _)
 |K+1=>fun r shape end_ deep hp1 hp2 hp3 hp4 hp5 hp6 hp7 hp8 hp9=>Aoz K (Ama K) r shape end_ deep hp1 hp2 hp3 hp4 hp5 hp6 hp7 hp8 (Nat.le_of_lt_succ hp9)
theorem Apw (r:Mr) (shape:Int) (end_:Int) (deep:Int) (hp1:List.length (r).s≤1048576) (hp2:(r).at_≤((List.length (r).s:Nat):Int)) (hp3:(r).fail.kind=0) (hp4:((List.length (r).out:Nat):Int)+4*(((List.length (r).s:Nat):Int)-(r).at_)≤100000000) (hp5:(0:Int)≤(r).at_) (hp6: -1000000000≤end_∧end_≤9223372036854775807) (hp7:B1 (r).plan=true) (hp8:(1:Int)≤deep∧deep≤(r).plan.deep):Fun Tryz.prog 159 [vP 0,vI shape,vI end_,vI deep] [.cells (Ej 1 r),.lst .ev r.out] (.tup []) [.cells (Ej 2 (Ht (Int.toNat ((r).plan.deep-deep)) shape end_ r)),.dead,.lst .ev (Ht (Int.toNat ((r).plan.deep-deep)) shape end_ r).out]:=Ama _ r shape end_ deep hp1 hp2 hp3 hp4 hp5 hp6 hp7 hp8 (Nat.lt_succ_self _)
/-! ### More told Cr -/
def Cr (o:List Ev) (r:Mr):Mr:=⟨r.plan,r.s,r.at_,o++r.out,r.fail⟩
theorem L0 (o:List Ev) (r:Mr) (e:Ev):Ag (Cr o r) e=Cr o (Ag r e):=by simp[Ag,Cr]
theorem Vs (o:List Ev) (r:Mr) (e:Int):Az (Cr o r) e=Cr o (Az r e):=by
 unfold Az;rw[show Bq (Cr o r) e=Bq r e from rfl];split<;>rfl
theorem Ahb (o:List Ev) (r:Mr) (w e:Int):Ha (Cr o r) w e=Cr o (Ha r w e):=by
 unfold Ha
 rw[show (Cr o r).at_=r.at_ from rfl,show (Cr o r).s=r.s from rfl]
 split
 ·rfl
 ·split<;>rfl
theorem Ahc (o:List Ev) (r:Mr) (w e:Int):E3 (Cr o r) w e=Cr o (E3 r w e):=by
 unfold E3;split
 ·exact Ahb o r _ e
 ·exact Vs o r e
theorem Aaa (o:List Ev) (r:Mr) (f:Fld) (w e:Int):Bm (Cr o r) f w e=Cr o (Bm r f w e):=by
 unfold Bm
 rw[show E7 (Cr o r) w e=E7 r w e from rfl,show Gt (Cr o r) w e=Gt r w e from rfl,Ahc]
 split
 ·exact L0 o _ _
 ·rfl
theorem S6 (o:List Ev) {step:Mr→Mr} (hs: ∀r,step (Cr o r)=Cr o (step r)) (e:Int): ∀(k:Nat) (r:Mr),E8 (Lg e) step k (Cr o r)=Cr o (E8 (Lg e) step k r)
 |0,r=>rfl
 |k+1,r=>by
  simp only[E8]
  rw[show Lg e (Cr o r)=Lg e r from rfl]
  split
  ·rw[hs,S6 o hs e k]
  ·rfl
theorem Ahd (o:List Ev) (r:Mr) (f:Fld) (e:Int):Kq (Cr o r) f e=Cr o (Kq r f e):=S6 o (fun r=>Aaa o r f _ e) e _ r
theorem Aed (o:List Ev) (r:Mr) (f:Fld) (n:Int):Dj (Cr o r) f n=Cr o (Dj r f n):=by
 unfold Dj
 rw[show Ji (Cr o r) f n=Ji r f n from rfl]
 split<;>simp only[L0]
theorem Ahe (o:List Ev) (r:Mr) (f:Fld) (n:Int):Ch (Cr o r) f n=Cr o (Ch r f n):=by
 unfold Ch
 rw[show Lx (Cr o r) f n=Lx r f n from rfl,show Ay (Cr o r) n=Ay r n from rfl,show Z5 (Cr o r) f n=Z5 r f n from rfl,Aed,show (Cr o r).s=r.s from rfl,show (Cr o r).at_=r.at_ from rfl]
 split
 ·rfl
 split
 ·rfl
 split
 ·rfl
 ·exact L0 o (F0 (Dj r f n) (r.at_+n)) Kd
def Uk (o:List Ev) (sub:Mr→Fld→Int→Int→Mr):Prop:= ∀(v:Mr) (f:Fld) (n s:Int),sub (Cr o v) f n s=Cr o (sub v f n s)
theorem Aee {o:List Ev} {sub:Mr→Fld→Int→Int→Mr} (hs:Uk o sub) (r:Mr) (f:Fld) (known:Bool) (e:Int):Br sub (Cr o r) f known e=Cr o (Br sub r f known e):=by
 unfold Br
 rw[show Bq (Cr o r) e=Bq r e from rfl,show A5 (Cr o r) e=A5 r e from rfl,Vs]
 simp only[show ∀x,(Cr o x).at_=x.at_ from fun _=>rfl,show ∀x,(Cr o x).s=x.s from fun _=>rfl]
 split
 ·rfl
 split
 ·rfl
 split
 ·split<;>rfl
 split
 ·exact hs _ _ _ _
 split
 ·exact Ahd o _ _ _
 ·exact Ahe o _ _ _
theorem Ahf {o:List Ev} {sub:Mr→Fld→Int→Int→Mr} (hs:Uk o sub) (shape e:Int) (r:Mr):Dv sub shape e (Cr o r)=Cr o (Dv sub shape e r):=by
 unfold Dv
 rw[show Bq (Cr o r) e=Bq r e from rfl,show A5 (Cr o r) e=A5 r e from rfl,Vs]
 simp only[show ∀x,(Cr o x).at_=x.at_ from fun _=>rfl,show ∀x,(Cr o x).plan=x.plan from fun _=>rfl]
 split
 ·rfl
 split
 ·rfl
 split
 ·rfl
 split
 ·rfl
 split
 ·exact Aee hs _ _ _ _
 ·exact Aaa o _ _ _ _
theorem Vt {o:List Ev} {D:Nat} (hs:Uk o (Jk D)) (shape e:Int) (r:Mr):Ht D shape e (Cr o r)=Cr o (Ht D shape e r):=by
 rw[Mz,Mz]
 exact S6 o (fun r=>Ahf hs shape e r) e _ r
theorem Aab (o:List Ev): ∀D,Uk o (Jk D)
 |0=>fun _ _ _ _=>rfl
 |D+1=>fun v f n s=>by
  simp only[Jk]
  rw[show (Cr o v).at_=v.at_ from rfl,L0,Vt (Aab o D)]
  split<;>rename_i h
  ·rw[if_pos (show (Ht D f.msg (v.at_+n) (Ag v (E4 f n))).fail.kind=0 from h),L0]
  ·rw[if_neg (show¬(Ht D f.msg (v.at_+n) (Ag v (E4 f n))).fail.kind=0 from h)]
theorem Aef (o:List Ev) (D:Nat) (shape e:Int) (r:Mr):Ht D shape e (Cr o r)=Cr o (Ht D shape e r):=Vt (Aab o D) shape e r
/-! ### Where a message ends -/
theorem Ac4 {step:Mr→Mr} (hs:S4 step) {e:Int} (ht: ∀r:Mr,r.at_≤(r.s.length:Int)→r.fail.kind=0→(step r).fail.kind=0→(step r).at_≤e): ∀(n:Nat) (r:Mr),Lw r≤n→r.at_≤(r.s.length:Int)→r.at_≤e→r.fail.kind=0→(E8 (Lg e) step (Lw r) r).fail.kind=0→(E8 (Lg e) step (Lw r) r).at_=e:=by
 intro n
 induction n with
 |zero=>intro r hn hl _ h0;simp only[Lw,if_pos h0] at hn;omega
 |succ n ih=>
  intro r hn hl he h0 hk
  by_cases hg:r.at_<e
  ·have hi:=(LInv.refl (step:=step) (e:=e) hl).go hs hg h0
   rw[←hi.1.run] at hk ⊢
   by_cases h1:(step r).fail.kind=0
   ·have ha:=hi.1.at_ h1
    exact ih _ Q2 ha.2 (ht r hl h0 h1) h1 hk
   ·rw[C7 (by simp[Lg,h1])] at hk
    exact(h1 hk).elim
  ·rw[C7 (by simp[Lg];omega)];omega
theorem Yw {r:Mr} {e:Int} (h0:r.fail.kind=0) (hl:r.at_≤(r.s.length:Int)) (hk:(Az r e).fail.kind=0):(Az r e).at_≤e:=by
 have:=Ea (e:=e) h0
 rw[hk] at this
 exact((E5 hl).2.1 (by simpa using this)).2
theorem S7 {r:Mr} {f:Fld} {w e:Int} (h0:r.fail.kind=0) (hl:r.at_≤(r.s.length:Int)) (hk:(Bm r f w e).fail.kind=0):(Bm r f w e).at_≤e:=by
 have hv:(E3 r w e).fail.kind=0→(E3 r w e).at_≤e:=fun h=>by
  unfold E3 at h ⊢
  split
  ·rename_i hw
   rw[if_pos hw] at h
   unfold Ha at h ⊢
   split
   ·rename_i h2;rw[if_pos h2] at h;exact(B9 _ _ _ h).elim
   ·rename_i h2
    rw[if_neg h2] at h
    split
    ·show r.at_+Ak w≤e;omega
    ·rename_i h3;rw[if_neg h3] at h;exact(B9 _ _ _ h).elim
  ·rename_i hw
   rw[if_neg hw] at h
   exact Yw h0 hl h
 unfold Bm at hk ⊢
 split
 ·rename_i h;rw[if_pos h] at hk;exact hv hk
 ·rename_i h;rw[if_neg h] at hk;exact hv hk
def Ajs (sub:Mr→Fld→Int→Int→Mr):Prop:= ∀(v:Mr) (f:Fld) (n s:Int),v.at_≤(v.s.length:Int)→v.fail.kind=0→0≤n→(sub v f n s).fail.kind=0→(sub v f n s).at_=v.at_+n
theorem Aeg {r:Mr} {f:Fld} {n:Int} (hk:(Ch r f n).fail.kind=0):(Ch r f n).at_=r.at_+n:=by
 unfold Ch at hk ⊢
 split
 ·rename_i h;rw[if_pos h] at hk;exact(B9 _ _ _ hk).elim
 rename_i h;rw[if_neg h] at hk
 split
 ·rename_i h;rw[if_pos h] at hk;exact(B9 _ _ _ hk).elim
 rename_i h;rw[if_neg h] at hk
 split
 ·rename_i h;rw[if_pos h] at hk;exact(B9 _ _ _ hk).elim
 ·rfl
theorem Abm {sub:Mr→Fld→Int→Int→Mr} (ht:Ajs sub) {r:Mr} {f:Fld} {known:Bool} {e:Int} (h0:r.fail.kind=0) (hl:r.at_≤(r.s.length:Int)) (hk:(Br sub r f known e).fail.kind=0):(Br sub r f known e).at_≤e:=by
 have hv:=E5 (e:=e) hl
 have hu:=M0 r e
 unfold Br at hk ⊢
 split
 ·rename_i h;rw[if_pos h] at hk;exact Yw h0 hl hk
 rename_i hok;rw[if_neg hok] at hk
 have hok:Bq r e=true:=by simpa using hok
 have hvk:(Az r e).fail.kind=0:=by rw[Ea h0] at hok;simpa using hok
 have ha:=hv.1.1.at_ hvk
 have hs:=congrArg List.length hv.1.1.s
 split
 ·rename_i h;rw[if_pos h] at hk;exact(B9 _ _ _ hk).elim
 rename_i hn;rw[if_neg hn] at hk
 split
 ·rename_i h;rw[if_pos h] at hk
  split
  ·rename_i h2;rw[if_pos h2] at hk;exact(B9 _ _ _ hk).elim
  ·show (Az r e).at_+A5 r e≤e;omega
 rename_i h;rw[if_neg h] at hk
 split
 ·rename_i h2;rw[if_pos h2] at hk
  rw[ht _ _ _ _ (by omega) hvk hu.1 hk];omega
 rename_i h2;rw[if_neg h2] at hk
 split
 ·rename_i h3;rw[if_pos h3] at hk
  have:=Ac4 (K8 f (Ba f.kind) ((Az r e).at_+A5 r e)) (fun r hl h0 hk=>S7 h0 hl hk) _ (Az r e) (Nat.le_refl _) (by omega) (by omega) hvk hk
  show (Kq (Az r e) f ((Az r e).at_+A5 r e)).at_≤e
  unfold Kq;rw[this];omega
 ·rename_i h3;rw[if_neg h3] at hk
  rw[Aeg hk];omega
theorem Xp {sub:Mr→Fld→Int→Int→Mr} (ht:Ajs sub) {shape e:Int} {r:Mr} (h0:r.fail.kind=0) (hl:r.at_≤(r.s.length:Int)) (hk:(Dv sub shape e r).fail.kind=0):(Dv sub shape e r).at_≤e:=by
 have hv:=E5 (e:=e) hl
 unfold Dv at hk ⊢
 split
 ·rename_i h;rw[if_pos h] at hk;exact Yw h0 hl hk
 rename_i hok;rw[if_neg hok] at hk
 have hok:Bq r e=true:=by simpa using hok
 have hvk:(Az r e).fail.kind=0:=by rw[Ea h0] at hok;simpa using hok
 have ha:=hv.1.1.at_ hvk
 have hs:=congrArg List.length hv.1.1.s
 split
 ·rename_i h;rw[if_pos h] at hk;exact(B9 _ _ _ hk).elim
 rename_i h;rw[if_neg h] at hk
 split
 ·rename_i h;rw[if_pos h] at hk;exact(B9 _ _ _ hk).elim
 rename_i h;rw[if_neg h] at hk
 split
 ·rename_i h;rw[if_pos h] at hk;exact(B9 _ _ _ hk).elim
 rename_i h;rw[if_neg h] at hk
 split
 ·rename_i h;rw[if_pos h] at hk;exact Abm ht hvk (by omega) hk
 ·rename_i h;rw[if_neg h] at hk;exact S7 hvk (by omega) hk
theorem Ahg {D:Nat} (ht:Ajs (Jk D)) {shape e:Int} {r:Mr} (hl:r.at_≤(r.s.length:Int)) (he:r.at_≤e) (h0:r.fail.kind=0) (hk:(Ht D shape e r).fail.kind=0):(Ht D shape e r).at_=e:=by
 rw[Mz] at hk ⊢
 exact Ac4 (Lz D shape e) (fun r hl h0 hk=>Xp ht h0 hl hk) _ r (Nat.le_refl _) hl he h0 hk
theorem Abn: ∀D,Ajs (Jk D)
 |0=>fun v f n s _ _ _ hk=>(B9 _ _ _ hk).elim
 |D+1=>fun v f n s hl h0 hn hk=>by
  have hm:=Ahg (Abn D) (shape:=f.msg) (e:=v.at_+n) (r:=Ag v (E4 f n)) hl (by show v.at_≤v.at_+n;omega) h0
  simp only[Jk] at hk ⊢
  split
  ·rename_i h;exact hm h
  ·rename_i h;rw[if_neg h] at hk;exact hm hk
theorem Yx {D:Nat} {shape e:Int} {r:Mr} (hl:r.at_≤(r.s.length:Int)) (he:r.at_≤e) (h0:r.fail.kind=0) (hk:(Ht D shape e r).fail.kind=0):(Ht D shape e r).at_=e:=Ahg (Abn D) hl he h0 hk
/-! ### Whole inputs -/
def mr0 (p:Pln) (s:List UInt8) (a:Int):Mr:=⟨p,s,a,[],ev0⟩
def D1 (n:Int):Ev:=⟨1,0,0,n,[],0,0⟩
def frameEndEv:Ev:=⟨8,0,0,0,[],0,0⟩
def Ac5 (a:Int):Ev:=⟨9,0,0,0,[],0,a⟩
def maxI:Int:=9223372036854775807
def L3 (r:Mr):Mr:=Ht (Int.toNat (r.plan.deep-1)) r.plan.root ((Az r maxI).at_+A5 r maxI) (Ag (Az r maxI) (D1 (A5 r maxI)))
def Dg (r:Mr):Mr:=
 if Bq r maxI=false then Az r maxI
 else if r.plan.most<A5 r maxI then Cw (Az r maxI) 7 r.at_
 else if (L3 r).fail.kind=0 then Ag (L3 r) frameEndEv else L3 r
theorem Qz {r:Mr} (hl:r.at_≤(r.s.length:Int)) (h0:r.fail.kind=0):Adv1 r (Dg r):=by
 obtain ⟨hv,hv2,hv3⟩:=E5 (e:=maxI) hl
 unfold Dg
 split
 ·exact hv
 ·rename_i hok
  have hok:Bq r maxI=true:=by simpa using hok
  have hk:(Az r maxI).fail.kind=0:=by rw[Ea h0] at hok;simpa using hok
  have ha:=hv.1.at_ hk
  have hs:=congrArg List.length hv.1.s
  have hl':(Az r maxI).at_≤((Az r maxI).s.length:Int):=by omega
  have hr:=(Adv.refl (Az r maxI) hl').b
  have hm0:AdvB 0 (Ag (Az r maxI) (D1 (A5 r maxI))) (L3 r):=(Yv (r:=Ag (Az r maxI) (D1 (A5 r maxI))) hl').b
  have hm:AdvB (0+1+0) (Az r maxI) (L3 r):=(hr.tell (D1 (A5 r maxI))).trans hk hm0
  split
  ·exact hv.after hv3 hk (hr.failed _ _) (by decide)
  split
  ·exact hv.after hv3 hk (hm.tell _) (by decide)
  ·exact hv.after hv3 hk hm (by decide)
structure Wh where
 r:Mr
 ends:List Int
def Ae0 (w:Wh):Bool:=Lg (w.r.s.length:Int) w.r
def Gb (w:Wh):Wh:=⟨Dg w.r,if (Dg w.r).fail.kind=0 then w.ends++[(Dg w.r).at_] else w.ends⟩
def Ajt (w:Wh):Wh:=E8 Ae0 Gb (Lw w.r) w
def wh0 (p:Pln) (s:List UInt8):Wh:=⟨mr0 p s 0,[0]⟩
def F5 (p:Pln) (s:List UInt8):Wh:=Ajt (wh0 p s)
def E9 (p:Pln) (s:List UInt8):List Ev:=(F5 p s).r.out++[if (F5 p s).r.fail.kind=0 then Ac5 (s.length:Int) else (F5 p s).r.fail]
structure WInv (w0 q:Wh):Prop where
 adv:Adv w0.r q.r
 ends:q.r.fail.kind=0→(q.ends.length:Int)≤1+q.r.at_
 run:Ajt q=Ajt w0
theorem WInv.refl {p:Pln} {s:List UInt8} :WInv (wh0 p s) (wh0 p s):=⟨Adv.refl _ (by simp[wh0,mr0]),fun _=>by simp[wh0,mr0],rfl⟩
theorem WInv.room {p:Pln} {s:List UInt8} {q:Wh} (h:WInv (wh0 p s) q) (hk:q.r.fail.kind=0):q.r.s=s∧q.r.plan=p∧0≤q.r.at_∧q.r.at_≤(s.length:Int)∧(q.r.out.length:Int)+4*((s.length:Int)-q.r.at_)≤4*(s.length:Int)∧q.r.fail=ev0:=by
 have:=h.adv.at_ hk
 have hr:=h.adv.room hk
 refine⟨h.adv.s,h.adv.plan,this.1,this.2,?_,h.adv.fail hk⟩
 simpa [wh0,mr0] using hr
theorem WInv.next {p:Pln} {s:List UInt8} {q x:Wh} (h:WInv (wh0 p s) q) (hg:q.r.at_<(s.length:Int)) (hk:q.r.fail.kind=0) (hx:Gb q=x):WInv (wh0 p s) x∧Lw x.r<Lw q.r:=by
 subst hx
 obtain ⟨h1,h2,h3,h4,h5,_⟩:=h.room hk
 have hl:q.r.at_≤(q.r.s.length:Int):=by rw[h1];exact h4
 have hf:=Qz hl hk
 have hgo:Ae0 q=true:=by simp[Ae0,Lg,h1,hg,hk]
 refine⟨⟨h.adv.trans hk hf.1,fun hk2=>?_,?_⟩,R8 hl hk hf⟩
 ·have:=h.ends hk
  have:=hf.2 hk2
  have hk3:(Dg q.r).fail.kind=0:=hk2
  simp only[Gb,if_pos hk3,List.length_append,List.length_cons,List.length_nil];omega
 ·rw[←h.run]
  refine(Yt (fun w:Wh=>w.r.at_≤(w.r.s.length:Int)∨w.r.fail.kind≠0) (fun w=>Lw w.r) (fun a hi hg=>?_) (.inl hl) hgo).symm
  have hk':a.r.fail.kind=0:=Kg hg
  have hl:a.r.at_≤(a.r.s.length:Int):=hi.resolve_right (fun h=>h hk')
  have hf:=Qz hl hk'
  refine⟨?_,R8 hl hk' hf⟩
  by_cases hk2:(Dg a.r).fail.kind=0
  ·left
   show (Dg a.r).at_≤((Dg a.r).s.length:Int)
   rw[hf.1.s];exact(hf.1.at_ hk2).2
  ·exact .inr hk2
theorem WInv.stop {w0 q:Wh} (h:WInv w0 q) (hg:Ae0 q=false):Ajt w0=q:=by rw[←h.run];exact C7 hg
theorem WInv.end_ {p:Pln} {s:List UInt8} {q:Wh} (h:WInv (wh0 p s) q) (hg: ¬q.r.at_<(s.length:Int)):F5 p s=q:=h.stop (by
 have:q.r.s=s:=h.adv.s
 simp[Ae0,Lg,this];omega)
theorem WInv.leave {p:Pln} {s:List UInt8} {q x:Wh} (h:WInv (wh0 p s) q) (hg:q.r.at_<(s.length:Int)) (hk:q.r.fail.kind=0) (hx:Gb q=x) (hx2:x.r.fail.kind≠0):F5 p s=x:=
 (h.next hg hk hx).1.stop (by simp[Ae0,Lg,hx2])
theorem Ahh {s:List UInt8} {a e e':Int} (he:(s.length:Int)<e) (he':(s.length:Int)<e'): ∀(f:Nat) (k u:Int),a+k≤(s.length:Int)→vwA s a e f k u=vwA s a e' f k u
 |0,k,u,_=>rfl
 |f+1,k,u,h=>by
  rw[vwA,vwA,if_neg (show¬e≤a+k by omega),if_neg (show¬e'≤a+k by omega)]
  split
  ·rfl
  split
  ·rfl
  split
  ·rfl
  ·exact Ahh he he' f (k+1) _ (by omega)
theorem Yy {s:List UInt8} {a e e':Int} (he:(s.length:Int)<e) (he':(s.length:Int)<e'):Ae s a e=Ae s a e':=by
 unfold Ae
 split
 ·rename_i hw
  have:=Aw hw
  rw[Ahh he he' 10 0 0 (by omega)]
 ·rfl
def Xq (p:Pln) (shape:Int) (s:List UInt8) (a e deep:Int):Bool:=B1 p&&Ai shape 0 ((p.shapes.length:Int)-1)&&Ai a 0 (s.length:Int)&&decide (a≤e)&&Ai deep 1 p.deep
def Bu (p:Pln) (shape:Int) (s:List UInt8) (a e deep:Int):Mr:=if Xq p shape s a e deep then Ht (Int.toNat (p.deep-deep)) shape e (mr0 p s a) else mr0 p s a
theorem Apm {s:List UInt8} (hl:s.length≤4000) (a:Int):Ae s a 8000=Ae s a maxI:=Yy (by omega) (by unfold maxI;omega)
theorem Vu {p:Pln} {s:List UInt8} {a:Int} {o:List Ev} (hl:s.length≤4000):Bq ⟨p,s,a,o,ev0⟩ maxI=decide ((Ae s a 8000).2.2=0):=by rw[Apm hl];rfl
theorem Sd {p:Pln} {s:List UInt8} {a:Int} {o:List Ev} (hl:s.length≤4000) (h:(Ae s a 8000).2.2=0):Bq ⟨p,s,a,o,ev0⟩ maxI=true∧Az ⟨p,s,a,o,ev0⟩ maxI=⟨p,s,(Ae s a 8000).2.1,o,ev0⟩∧A5 ⟨p,s,a,o,ev0⟩ maxI=(Ae s a 8000).1:=by
 have hok:Bq ⟨p,s,a,o,ev0⟩ maxI=true:=by rw[Vu hl];simpa using h
 refine⟨hok,?_,?_⟩
 ·rw[Pw hok,Apm hl];rfl
 ·unfold A5;rw[if_pos hok,Apm hl]
theorem Ao0 {p:Pln} {s:List UInt8} {a:Int} {o:List Ev} {e:List Int} (hl:s.length≤4000) (h: ¬(Ae s a 8000).2.2=0):Gb ⟨⟨p,s,a,o,ev0⟩,e⟩=⟨⟨p,s,a,o,Bh (Ae s a 8000).2.2 (Ae s a 8000).2.1⟩,e⟩:=by
 have hok:Bq ⟨p,s,a,o,ev0⟩ maxI=false:=by rw[Vu hl];simpa using h
 have hv:=Ke hok
 have hf:Dg ⟨p,s,a,o,ev0⟩=Az ⟨p,s,a,o,ev0⟩ maxI:=by unfold Dg;rw[if_pos hok]
 unfold Gb
 simp only[hf,hv]
 rw[if_neg (B9 _ _ _),Apm hl]
 rfl
theorem Ane {p:Pln} {s:List UInt8} {a:Int} {o:List Ev} {e:List Int} (hl:s.length≤4000) (h:(Ae s a 8000).2.2=0) (hm:p.most<(Ae s a 8000).1):Gb ⟨⟨p,s,a,o,ev0⟩,e⟩=⟨⟨p,s,(Ae s a 8000).2.1,o,Bh 7 a⟩,e⟩:=by
 obtain ⟨h1,h2,h3⟩:=Sd (p:=p) (o:=o) hl h
 have hf:Dg ⟨p,s,a,o,ev0⟩=Cw ⟨p,s,(Ae s a 8000).2.1,o,ev0⟩ 7 a:=by
  unfold Dg;rw[if_neg (by simp[h1]),h3,if_pos hm,h2]
 unfold Gb
 simp only[hf]
 rw[if_neg (B9 _ _ _)]
 rfl
theorem Se {p:Pln} {s:List UInt8} {a:Int} {o:List Ev} (hp:B1 p=true) (hl:s.length≤4000) (h:(Ae s a 8000).2.2=0):L3 ⟨p,s,a,o,ev0⟩=Cr (o++[D1 (Ae s a 8000).1]) (Bu p p.root s (Ae s a 8000).2.1 ((Ae s a 8000).2.1+(Ae s a 8000).1) 1):=by
 obtain ⟨h1,h2,h3⟩:=Sd (p:=p) (o:=o) hl h
 have hw:=Fm h
 have hb:=J5 s a 8000
 have ht:=Cd hp
 have hr:Xq p p.root s (Ae s a 8000).2.1 ((Ae s a 8000).2.1+(Ae s a 8000).1) 1=true:=by
  simp only[Xq,Ai,Bool.and_eq_true,decide_eq_true_eq]
  exact⟨⟨⟨⟨hp,by omega,by omega⟩,by omega,by omega⟩,by omega⟩,by omega,by omega⟩
 unfold L3 Bu
 rw[if_pos hr,h2,h3,←Aef]
 simp[Ag,Cr,mr0]
theorem Ao1 {p:Pln} {s:List UInt8} {a:Int} {o:List Ev} {e:List Int} (hp:B1 p=true) (hl:s.length≤4000) (h:(Ae s a 8000).2.2=0) (hm: ¬p.most<(Ae s a 8000).1) (hk: ¬(Bu p p.root s (Ae s a 8000).2.1 ((Ae s a 8000).2.1+(Ae s a 8000).1) 1).fail.kind=0):
  Gb ⟨⟨p,s,a,o,ev0⟩,e⟩=⟨Cr (o++[D1 (Ae s a 8000).1]) (Bu p p.root s (Ae s a 8000).2.1 ((Ae s a 8000).2.1+(Ae s a 8000).1) 1),e⟩:=by
 obtain ⟨h1,h2,h3⟩:=Sd (p:=p) (o:=o) hl h
 have hf:Dg ⟨p,s,a,o,ev0⟩=L3 ⟨p,s,a,o,ev0⟩:=by
  unfold Dg;rw[if_neg (by simp[h1]),h3,if_neg hm,Se hp hl h,if_neg (show¬(Cr (o++[D1 (Ae s a 8000).1]) (Bu p p.root s (Ae s a 8000).2.1 ((Ae s a 8000).2.1+(Ae s a 8000).1) 1)).fail.kind=0 from hk)]
 unfold Gb
 simp only[hf,Se hp hl h]
 rw[if_neg (show¬(Cr (o++[D1 (Ae s a 8000).1]) (Bu p p.root s (Ae s a 8000).2.1 ((Ae s a 8000).2.1+(Ae s a 8000).1) 1)).fail.kind=0 from hk)]
theorem Vv {p:Pln} {shape:Int} {s:List UInt8} {a e d:Int} (hl:a≤(s.length:Int)):Adv (mr0 p s a) (Bu p shape s a e d):=by
 unfold Bu;split
 ·exact Yv (r:=mr0 p s a) hl
 ·exact Adv.refl (mr0 p s a) hl
theorem Ao2 {p:Pln} {s:List UInt8} {a:Int} {o:List Ev} {e:List Int} (hp:B1 p=true) (hl:s.length≤4000) (h:(Ae s a 8000).2.2=0) (hm: ¬p.most<(Ae s a 8000).1) (hk:(Bu p p.root s (Ae s a 8000).2.1 ((Ae s a 8000).2.1+(Ae s a 8000).1) 1).fail.kind=0):
  Gb ⟨⟨p,s,a,o,ev0⟩,e⟩=⟨⟨p,s,(Ae s a 8000).2.1+(Ae s a 8000).1,((o++[D1 (Ae s a 8000).1])++(Bu p p.root s (Ae s a 8000).2.1 ((Ae s a 8000).2.1+(Ae s a 8000).1) 1).out)++[frameEndEv],ev0⟩,e++[(Ae s a 8000).2.1+(Ae s a 8000).1]⟩:=by
 obtain ⟨h1,h2,h3⟩:=Sd (p:=p) (o:=o) hl h
 have hw:=Fm h
 have hb:=J5 s a 8000
 have hf:Dg ⟨p,s,a,o,ev0⟩=Ag (L3 ⟨p,s,a,o,ev0⟩) frameEndEv:=by
  unfold Dg;rw[if_neg (by simp[h1]),h3,if_neg hm,Se hp hl h,if_pos (show (Cr (o++[D1 (Ae s a 8000).1]) (Bu p p.root s (Ae s a 8000).2.1 ((Ae s a 8000).2.1+(Ae s a 8000).1) 1)).fail.kind=0 from hk)]
 have hadv:=Vv (p:=p) (shape:=p.root) (s:=s) (a:=(Ae s a 8000).2.1) (e:=(Ae s a 8000).2.1+(Ae s a 8000).1) (d:=1) (by omega)
 have hat:(Bu p p.root s (Ae s a 8000).2.1 ((Ae s a 8000).2.1+(Ae s a 8000).1) 1).at_=(Ae s a 8000).2.1+(Ae s a 8000).1:=by
  have hfr:=Se (o:=o) hp hl h
  have hk2:(L3 ⟨p,s,a,o,ev0⟩).fail.kind=0:=by rw[hfr];exact hk
  have hat2:(L3 ⟨p,s,a,o,ev0⟩).at_=(Az ⟨p,s,a,o,ev0⟩ maxI).at_+A5 ⟨p,s,a,o,ev0⟩ maxI:=by
   refine Yx ?_ ?_ ?_ hk2
   ·rw[h2];show (Ae s a 8000).2.1≤(s.length:Int);omega
   ·rw[h2,h3];show (Ae s a 8000).2.1≤(Ae s a 8000).2.1+(Ae s a 8000).1;omega
   ·rw[h2];rfl
  rw[hfr,h2,h3] at hat2
  exact hat2
 have hfa:(Bu p p.root s (Ae s a 8000).2.1 ((Ae s a 8000).2.1+(Ae s a 8000).1) 1).fail=ev0:=hadv.fail hk
 have hpl:(Bu p p.root s (Ae s a 8000).2.1 ((Ae s a 8000).2.1+(Ae s a 8000).1) 1).plan=p:=hadv.plan
 have hs:(Bu p p.root s (Ae s a 8000).2.1 ((Ae s a 8000).2.1+(Ae s a 8000).1) 1).s=s:=hadv.s
 unfold Gb
 simp only[hf,Se hp hl h]
 rw[if_pos (show (Ag (Cr (o++[D1 (Ae s a 8000).1]) (Bu p p.root s (Ae s a 8000).2.1 ((Ae s a 8000).2.1+(Ae s a 8000).1) 1)) frameEndEv).fail.kind=0 from hk)]
 simp only[Ag,Cr,hat,hfa,hpl,hs]
def H9 (p:Pln) (s:List UInt8):List Ev:=if B1 p=true∧s.length≤4000 then E9 p s else []
theorem Aeh {p:Pln} {s:List UInt8} (hs:s.length≤4000):(E9 p s).length≤16001:=by
 suffices h:((F5 p s).r.out.length:Int)≤16000 by
  unfold E9;rw[List.length_append];simp only[List.length_cons,List.length_nil];omega
 have key: ∀(k:Nat) (w:Wh),w.r.at_≤(w.r.s.length:Int)→Adv w.r (E8 Ae0 Gb k w).r:=by
  intro k
  induction k with
  |zero=>intro w h;exact Adv.refl _ h
  |succ k ih=>
   intro w h
   unfold E8
   cases hg:Ae0 w with
   |false=>exact Adv.refl _ h
   |true=>
    have hk:w.r.fail.kind=0:=Kg hg
    have hf:=Qz h hk
    simp only[if_true]
    by_cases hk2:(Dg w.r).fail.kind=0
    ·exact hf.1.trans hk2 (ih (Gb w) (by show (Dg w.r).at_≤((Dg w.r).s.length:Int);rw[hf.1.s];exact(hf.1.at_ hk2).2))
    ·have:E8 Ae0 Gb k (Gb w)=Gb w:=C7 (by
      cases hg':Ae0 (Gb w) with
      |false=>rfl
      |true=>exact(hk2 (Kg hg')).elim)
     rw[this];exact hf.1
 have:=(key (Lw (wh0 p s).r) (wh0 p s) (by simp[wh0,mr0])).most
 have e:(F5 p s)=E8 Ae0 Gb (Lw (wh0 p s).r) (wh0 p s):=rfl
 rw[e]
 simp only[wh0,mr0,List.length_nil] at this ⊢
 omega
theorem Ahi (p:Pln) (shape:Int) (s:List UInt8) (at_:Int) (end_:Int) (deep:Int) (hp1:s.length≤1048576) (hp2:end_≤9223372036854775807):Fun Tryz.prog 95 [.agg (Gw p),vI shape,vT s,vI at_,vI end_,vI deep] [] (.tup [vO 0,.agg (cEv (Bu p shape s at_ end_ deep).fail)]) [.lst .ev (Bu p shape s at_ end_ deep).out]:=by
 have hN:Bn=274877906944:=rfl
 refine Av Tryz.func95 Q4 Q4 (w:=let zi:Int→C:= .int .i64;let z1:List C:=[zi 0,zi 0,.int .u64 0,zi 0,.str [],zi 0,zi 0];let z4:=(p.shapes.length:Int)-1;let z5:=Bu p shape s at_ end_ deep;let z6:=Ai at_ 0 (s.length:Int);let z8:=([]:List Ev);let z7:=(⟨p,s,at_,z8,(⟨0,0,0,0,[],0,0⟩:Ev)⟩:Mr);let z2:=Ht (Int.toNat ((z7).plan.deep-deep)) shape end_ z7;let z9:=Ai deep 1 p.deep;let z10:List Blk:=[.cells (Ej 2 z2),.dead,.lst .ev z2.out];let z11:=Ai shape 0 z4;let z12:S:= .tup [vO 0,.agg (cEv z5.fail)];let z3:=Lf (.tup [vO 0,.agg z1]) z12 [.lst .ev z8] [.lst .ev z5.out];(.seg [.call [] (.v (vB (B1 p))) []] (.br (.seg [.ty .ev] (.leaf () [2])) (.seg [.as 24 (.v (vI z4)),.call [] (.v (vB z11)) []] (.br (.seg [.ty .ev] (.leaf () [2])) (.seg [.call [] (.v (vB z6)) []] (.br (.seg [.ty .ev] (.leaf () [2])) (.br (.seg [.ty .ev] (.leaf () [2])) (.seg [.call [] (.v (vB z9)) []] (.br (.seg [.ty .ev] (.leaf () [2])) (.seg [.at 5,.mk 2 6 .ev,.call [2,3] (.tup []) z10,.ord [(1,true),(2,true),(3,true),(4,true),(6,true),(7,true),(8,true),(9,true),(0,false),(5,false),(10,true),(11,false)] [4],.ty .ev,.ty .ev] (.leaf () [6])))))))))),(Fp 13 [.agg (Gw p)] [] (.v (vB (B1 p))) [])∧Bc (!(B1 p)) z3 ((wI z4)∧(Fp 44 [vI shape,vI 0,vI z4] [] (.v (vB z11)) [])∧Bc (!z11) z3 ((Fp 44 [vI at_,vI 0,vI (s.length:Int)] [] (.v (vB z6)) [])∧Bc (!z6) z3 (Bc (decide (end_<at_)) z3 ((Fp 44 [vI deep,vI 1,vI p.deep] [] (.v (vB z9)) [])∧Bc (!z9) z3 ((Fp 159 [vP 0,vI shape,vI end_,vI deep] [.cells (.seq .shp p.shapes::zi p.root::zi p.deep::zi p.most:: .str s::zi at_:: .own 1::z1),.lst .ev z8] (.tup []) z10)∧(z8.length+z2.out.length≤Bn)∧Lf (.tup [vO 0,.agg (cEv z2.fail)]) z12 [.lst .ev (z8++z2.out)] [.lst .ev z5.out]))))))) Q4 ?_
 refine⟨(Ug p),fun h1=>have q1:=Aq h1;?_,fun h1=>have q1:=Ao h1;have p1:=Cd q1;?_⟩
 refine zD ((Bu p shape s at_ end_ deep).fail) (⟨0,0,0,0,[],0,0⟩:Ev) ((Bu p shape s at_ end_ deep).out) ([]:List Ev) (fun hm1 hm2=>⟨(congrArg S.tup (Ac rfl (Ac (congrArg V.agg (Ac (congrArg (C.int .i64) ?_) (Ac (congrArg (C.int .i64) ?_) (Ac (congrArg (C.int .u64) ?_) (Ac (congrArg (C.int .i64) ?_) (Ac (congrArg C.str ?_) (Ac (congrArg (C.int .i64) ?_) (Ac (congrArg (C.int .i64) ?_) rfl)))))))) rfl))),(by rw[hm2]<;>rfl)⟩) ?_ ?_
 rotate_left 9
 have hpt:=Cd q1
 refine⟨(Af Q2 Q2),(Bw _ _ _),fun h2=>have q2:=Aq h2;have p2:=A7 q2;?_,fun h2=>have q2:=Ao h2;have p2:=Aw q2;?_⟩
 refine zD ((Bu p shape s at_ end_ deep).fail) (⟨0,0,0,0,[],0,0⟩:Ev) ((Bu p shape s at_ end_ deep).out) ([]:List Ev) (fun hm1 hm2=>⟨(congrArg S.tup (Ac rfl (Ac (congrArg V.agg (Ac (congrArg (C.int .i64) ?_) (Ac (congrArg (C.int .i64) ?_) (Ac (congrArg (C.int .u64) ?_) (Ac (congrArg (C.int .i64) ?_) (Ac (congrArg C.str ?_) (Ac (congrArg (C.int .i64) ?_) (Ac (congrArg (C.int .i64) ?_) rfl)))))))) rfl))),(by rw[hm2]<;>rfl)⟩) ?_ ?_
 rotate_left 9
 refine⟨(Bw _ _ _),fun h3=>have q3:=Aq h3;have p3:=A7 q3;?_,fun h3=>have q3:=Ao h3;have p3:=Aw q3;?_⟩
 refine zD ((Bu p shape s at_ end_ deep).fail) (⟨0,0,0,0,[],0,0⟩:Ev) ((Bu p shape s at_ end_ deep).out) ([]:List Ev) (fun hm1 hm2=>⟨(congrArg S.tup (Ac rfl (Ac (congrArg V.agg (Ac (congrArg (C.int .i64) ?_) (Ac (congrArg (C.int .i64) ?_) (Ac (congrArg (C.int .u64) ?_) (Ac (congrArg (C.int .i64) ?_) (Ac (congrArg C.str ?_) (Ac (congrArg (C.int .i64) ?_) (Ac (congrArg (C.int .i64) ?_) rfl)))))))) rfl))),(by rw[hm2]<;>rfl)⟩) ?_ ?_
 rotate_left 9
 refine dsp (fun h4 p4=>?_) fun h4 p4=>?_
 refine zD ((Bu p shape s at_ end_ deep).fail) (⟨0,0,0,0,[],0,0⟩:Ev) ((Bu p shape s at_ end_ deep).out) ([]:List Ev) (fun hm1 hm2=>⟨(congrArg S.tup (Ac rfl (Ac (congrArg V.agg (Ac (congrArg (C.int .i64) ?_) (Ac (congrArg (C.int .i64) ?_) (Ac (congrArg (C.int .u64) ?_) (Ac (congrArg (C.int .i64) ?_) (Ac (congrArg C.str ?_) (Ac (congrArg (C.int .i64) ?_) (Ac (congrArg (C.int .i64) ?_) rfl)))))))) rfl))),(by rw[hm2]<;>rfl)⟩) ?_ ?_
 rotate_left 9
 refine⟨(Bw _ _ _),fun h5=>have q5:=Aq h5;have p5:=A7 q5;?_,fun h5=>have q5:=Ao h5;have p5:=Aw q5;?_⟩
 refine zD ((Bu p shape s at_ end_ deep).fail) (⟨0,0,0,0,[],0,0⟩:Ev) ((Bu p shape s at_ end_ deep).out) ([]:List Ev) (fun hm1 hm2=>⟨(congrArg S.tup (Ac rfl (Ac (congrArg V.agg (Ac (congrArg (C.int .i64) ?_) (Ac (congrArg (C.int .i64) ?_) (Ac (congrArg (C.int .u64) ?_) (Ac (congrArg (C.int .i64) ?_) (Ac (congrArg C.str ?_) (Ac (congrArg (C.int .i64) ?_) (Ac (congrArg (C.int .i64) ?_) rfl)))))))) rfl))),(by rw[hm2]<;>rfl)⟩) ?_ ?_
 rotate_left 9
 refine zD ((Bu p shape s at_ end_ deep).fail) ((Ht (Int.toNat (((⟨p,s,at_,([]:List Ev),(⟨0,0,0,0,[],0,0⟩:Ev)⟩:Mr)).plan.deep-deep)) shape end_ (⟨p,s,at_,([]:List Ev),(⟨0,0,0,0,[],0,0⟩:Ev)⟩:Mr)).fail) ((Bu p shape s at_ end_ deep).out) (([]:List Ev)++(Ht (Int.toNat (((⟨p,s,at_,([]:List Ev),(⟨0,0,0,0,[],0,0⟩:Ev)⟩:Mr)).plan.deep-deep)) shape end_ (⟨p,s,at_,([]:List Ev),(⟨0,0,0,0,[],0,0⟩:Ev)⟩:Mr)).out) (fun hm1 hm2=>⟨(Apw (⟨p,s,at_,([]:List Ev),(⟨0,0,0,0,[],0,0⟩:Ev)⟩:Mr) _ _ _ Q28 Q28 Q28 Q28 Q28 Q2 (by simp_all) Q28),(Nat.le_trans (Nat.le_of_eq (Nat.zero_add _)) (Xo (by dsimp only;omega) (by simp only[List.length_nil];omega))),(congrArg S.tup (Ac rfl (Ac (congrArg V.agg (Ac (congrArg (C.int .i64) ?_) (Ac (congrArg (C.int .i64) ?_) (Ac (congrArg (C.int .u64) ?_) (Ac (congrArg (C.int .i64) ?_) (Ac (congrArg C.str ?_) (Ac (congrArg (C.int .i64) ?_) (Ac (congrArg (C.int .i64) ?_) rfl)))))))) rfl))),(by rw[hm2]<;>rfl)⟩) ?_ ?_
 rotate_left 9
 all_goals first|(simp_all[Bu,Xq,mr0,ev0,Ai];done)|(grind[Bu,Xq,mr0,ev0])|(grind[Bu,Xq,mr0,ev0,Ai])
structure Um where
 out:List Ev
 places:List Int
 at_:Int
def Un (p:Pln) (s:List UInt8):Fam:=⟨Um,fun q1=>[(1,.v (vT s)),(2,.v (vP 0)),(6,.v (vO 1)),(7,.v (vO 2)),(8,.v (vI q1.at_))],fun q1=>[.cells (Gw p),.lst .ev q1.out,.lst .int q1.places],fun q1=>WInv (wh0 p s) ⟨⟨p,s,q1.at_,q1.out,ev0⟩,q1.places⟩,fun q1=>Lw ⟨p,s,q1.at_,q1.out,ev0⟩⟩
theorem Apx (p:Pln) (s:List UInt8) (hp1:B1 p=true) (hp2:s.length≤4000):Fun Tryz.prog 45 [.agg (Gw p),vT s] [] (.tup [vO 0,vO 1]) [.lst .ev (E9 p s),.lst .int (F5 p s).ends]:=by
 have hN:Bn=274877906944:=rfl
 have hpt:=Cd hp1
 refine Av Tryz.func45 Q4 Q4 (w:=let z5:List Blk:=[.lst .ev (E9 p s),.lst .int (F5 p s).ends];let z6:S:= .tup [vO 0,vO 1];let z7:=(⟨9,0,0,0,[],0,(s.length:Int)⟩:Ev);let z8:=Un p s;(.seg [.ty .ev,.ty .int,.at 0,.keep [1,2,6,7,8],.sel [0,1,2]] (.loop z8 fun q1=>let z1:=Ae s q1.at_ 8000;.br (.seg [.call [] (.tup [.c (.int .u64 z1.1),vI z1.2.1,vI z1.2.2]) []] (.br (.seg [.call [] (.v (.agg (cEv (Bh z1.2.2 z1.2.1)))) [],.ty .ev,.ty .ev] (.leaf () [4,2])) (.seg [.as 40 (.v (.c (.int .u64 p.most)))] (.br (.seg [.call [] (.v (.agg (cEv (Bh 7 q1.at_)))) [],.ty .ev,.ty .ev] (.leaf () [4,2])) (.seg [.as 49 (.v (vI z1.1)),.ty .ev,.ty .ev,.as 63 (.v (vI (z1.2.1+z1.1))),.call [] (.tup [vO 0,.agg (cEv (Bu p p.root s z1.2.1 (z1.2.1+z1.1) 1).fail)]) [.lst .ev (Bu p p.root s z1.2.1 (z1.2.1+z1.1) 1).out],.ty .ev] (.br (.seg [.ty .ev,.ty .ev] (.leaf () [9,2])) (.seg [.ty .ev,.ty .ev,.as 84 (.v (vI (z1.2.1+z1.1))),.ty .int,.ty .int,.at 0,.keep [1,2,6,7,8],.sel [0,9,11]] (.next)))))))) (.seg [.ty .ev,.ty .ev] (.leaf () [4,2]))),z8.Has [(1,.v (vT s)),(2,.v (vP 0)),(6,.v (vO 1)),(7,.v (vO 2)),(8,.v (vI 0))] [.cells (Gw p),.lst .ev ([]:List Ev),.lst .int [0]]∧∀q1,z8.inv q1→(let z2:=Ae s q1.at_ 8000;let z4:=q1.out++[(⟨1,0,0,z2.1,[],0,0⟩:Ev)];let z3:=z4++(Bu p p.root s z2.2.1 (z2.2.1+z2.1) 1).out;Bc (decide (q1.at_<(s.length:Int))) ((Fp 93 [vT s,vI q1.at_,vI 8000] [] (.tup [.c (.int .u64 z2.1),vI z2.2.1,vI z2.2.2]) [])∧Bc (!decide (z2.2.2=0)) ((Fp 94 [vI z2.2.2,vI z2.2.1] [] (.v (.agg (cEv (Bh z2.2.2 z2.2.1)))) [])∧(q1.out.length+List.length [(Bh z2.2.2 z2.2.1)]≤Bn)∧Lf z6 z6 [.lst .ev (q1.out++[(Bh z2.2.2 z2.2.1)]),.lst .int q1.places] z5) ((wU (p.most))∧Bc (decide (p.most<z2.1)) ((Fp 94 [vI 7,vI q1.at_] [] (.v (.agg (cEv (Bh 7 q1.at_)))) [])∧(q1.out.length+List.length [(Bh 7 q1.at_)]≤Bn)∧Lf z6 z6 [.lst .ev (q1.out++[(Bh 7 q1.at_)]),.lst .int q1.places] z5) ((wI (z2.1))∧(q1.out.length+List.length [(⟨1,0,0,z2.1,[],0,0⟩:Ev)]≤Bn)∧(wI (z2.2.1+z2.1))∧(Fp 95 [.agg (Gw p),vI p.root,vT s,vI z2.2.1,vI (z2.2.1+z2.1),vI 1] [] (.tup [vO 0,.agg (cEv (Bu p p.root s z2.2.1 (z2.2.1+z2.1) 1).fail)]) [.lst .ev (Bu p p.root s z2.2.1 (z2.2.1+z2.1) 1).out])∧(z4.length+List.length (Bu p p.root s z2.2.1 (z2.2.1+z2.1) 1).out≤Bn)∧Bc (!decide ((Bu p p.root s z2.2.1 (z2.2.1+z2.1) 1).fail.kind=0)) ((z3.length+List.length [(Bu p p.root s z2.2.1 (z2.2.1+z2.1) 1).fail]≤Bn)∧Lf z6 z6 [.lst .ev (z3++[(Bu p p.root s z2.2.1 (z2.2.1+z2.1) 1).fail]),.lst .int q1.places] z5) ((z3.length+List.length [(⟨8,0,0,0,[],0,0⟩:Ev)]≤Bn)∧(wI (z2.2.1+z2.1))∧(q1.places.length+List.length [z2.2.1+z2.1]≤Bn)∧z8.Nxt q1 [(1,.v (vT s)),(2,.v (vP 0)),(6,.v (vO 1)),(7,.v (vO 2)),(8,.v (vI (z2.2.1+z2.1)))] [.cells (Gw p),.lst .ev (z3++[(⟨8,0,0,0,[],0,0⟩:Ev)]),.lst .int (q1.places++[z2.2.1+z2.1])])))) ((q1.out.length+List.length [z7]≤Bn)∧Lf z6 z6 [.lst .ev (q1.out++[z7]),.lst .int q1.places] z5)))) Q4 ?_
 refine⟨Cm (j:=(⟨([]:List Ev),[0],0⟩:Um)) rfl rfl (by dsimp only[Un];exact WInv.refl),fun (q1:Um) hq_q1=>?_⟩
 have hi_q1:WInv (wh0 p s) ⟨⟨p,s,q1.at_,q1.out,ev0⟩,q1.places⟩:=hq_q1
 have hrm:=hi_q1.room rfl
 dsimp only at hrm
 have hen:=hi_q1.ends rfl
 dsimp only at hen
 have hvb:=J5 s q1.at_ 8000
 refine dsp (fun h1 p1=>?_) fun h1 p1=>?_
 refine⟨(Vk _ _ _ Q2),fun h2=>have q2:=Aq h2;have p2:=of_decide_eq_false q2;?_,fun h2=>have q2:=Ao h2;have p2:=of_decide_eq_true q2;?_⟩
 refine⟨(C5 _ _),Q5,rfl,(Ac (congrArg (Blk.lst .ev) ?_) (Ac (congrArg (Blk.lst .int) ?_) rfl))⟩
 rotate_left 2
 have hw:=Fm p2
 have hra:((Bu p p.root s (Ae s q1.at_ 8000).2.1 ((Ae s q1.at_ 8000).2.1+(Ae s q1.at_ 8000).1) 1).out.length:Int)≤4*4000:=by have:=(Vv (p:=p) (shape:=p.root) (s:=s) (a:=(Ae s q1.at_ 8000).2.1) (e:=(Ae s q1.at_ 8000).2.1+(Ae s q1.at_ 8000).1) (d:=1) (by omega)).most;simp only[mr0,List.length_nil] at this;omega
 refine⟨(Bs Q2 Q2),dsp (fun h3 p3=>?_) fun h3 p3=>?_⟩
 refine⟨(C5 _ _),Q5,rfl,(Ac (congrArg (Blk.lst .ev) ?_) (Ac (congrArg (Blk.lst .int) ?_) rfl))⟩
 rotate_left 2
 refine⟨(Af Q2 Q2),Q5,(Af Q2 Q2),(Ahi p _ _ _ _ _ Q2 Q2),Q33,fun h4=>have q4:=Aq h4;have p4:=of_decide_eq_false q4;?_,fun h4=>have q4:=Ao h4;have p4:=of_decide_eq_true q4;?_⟩
 refine⟨Q33,rfl,(Ac (congrArg (Blk.lst .ev) ?_) (Ac (congrArg (Blk.lst .int) ?_) rfl))⟩
 rotate_left 2
 exact⟨Q33,(Af Q2 Q2),Q5,Be (j:=(⟨((q1.out++[(⟨1,0,0,(Ae s q1.at_ 8000).1,[],0,0⟩:Ev)])++(Bu p p.root s (Ae s q1.at_ 8000).2.1 ((Ae s q1.at_ 8000).2.1+(Ae s q1.at_ 8000).1) 1).out)++[(⟨8,0,0,0,[],0,0⟩:Ev)],q1.places++[(Ae s q1.at_ 8000).2.1+(Ae s q1.at_ 8000).1],_⟩:Um)) rfl rfl (by dsimp only[Un];exact(hi_q1.next (by show q1.at_<_;omega) rfl (Ao2 hp1 hp2 (by assumption) (by assumption) (by assumption))).1) (by dsimp only[Un];exact(hi_q1.next (by show q1.at_<_;omega) rfl (Ao2 hp1 hp2 (by assumption) (by assumption) (by assumption))).2)⟩
 refine⟨Q5,rfl,(Ac (congrArg (Blk.lst .ev) ?_) (Ac (congrArg (Blk.lst .int) ?_) rfl))⟩
 rotate_left 2
 all_goals first|((have hw:=hi_q1.end_ (by show¬q1.at_<_;omega);first|(rw[E9,hw];simp[ev0,Ac5];done)|(rw[hw];done)))|((have hw:=hi_q1.leave (by show q1.at_<_;omega) rfl (Ao0 hp2 (by assumption)) (by first|assumption|simp[Bh]);first|(rw[E9,hw];simp[Bh,Cr,D1, *];done)|(rw[hw];done)))|((have hw:=hi_q1.leave (by show q1.at_<_;omega) rfl (Ane hp2 (by assumption) (by assumption)) (by first|assumption|simp[Bh]);first|(rw[E9,hw];simp[Bh,Cr,D1, *];done)|(rw[hw];done)))|((have hw:=hi_q1.leave (by show q1.at_<_;omega) rfl (Ao1 hp1 hp2 (by assumption) (by assumption) (by assumption)) (by first|assumption|simp[Bh]);first|(rw[E9,hw];simp[Bh,Cr,D1, *];done)|(rw[hw];done)))
theorem Anf (p:Pln) (s:List UInt8) (hp1:s.length≤1048576):Fun Tryz.prog 16 [.agg (Gw p),vT s] [] (.v (vO 0)) [.lst .ev (H9 p s)]:=by
 have hN:Bn=274877906944:=rfl
 refine Av Tryz.func16 Q4 Q4 (w:=let z1:=Lf (.v (vO 0)) (.v (vO 0)) [.lst .ev ([]:List Ev)] [.lst .ev (H9 p s)];let z2:List Blk:=[.lst .ev (E9 p s),.lst .int (F5 p s).ends];(.seg [.call [] (.v (vB (B1 p))) []] (.br (.seg [.ty .ev] (.leaf () [1])) (.br (.seg [.ty .ev] (.leaf () [1])) (.seg [.call [] (.tup [vO 0,vO 1]) z2] (.leaf () [1])))),(Fp 13 [.agg (Gw p)] [] (.v (vB (B1 p))) [])∧Bc (!(B1 p)) z1 (Bc (decide (4000<(s.length:Int))) z1 ((Fp 45 [.agg (Gw p),vT s] [] (.tup [vO 0,vO 1]) z2)∧Lf (.v (vO 0)) (.v (vO 0)) [.lst .ev (E9 p s)] [.lst .ev (H9 p s)])))) Q4 ?_
 refine⟨(Ug p),fun h1=>have q1:=Aq h1;?_,fun h1=>have q1:=Ao h1;have p1:=Cd q1;?_⟩
 refine⟨rfl,(Ac (congrArg (Blk.lst .ev) ?_) rfl)⟩
 rotate_left
 refine dsp (fun h2 p2=>?_) fun h2 p2=>?_
 refine⟨rfl,(Ac (congrArg (Blk.lst .ev) ?_) rfl)⟩
 rotate_left
 have hwl:H9 p s=E9 p s:=by unfold H9;rw[if_pos ⟨by simp_all,by omega⟩]
 refine⟨(Apx p _ Q2 Q2),rfl,(Ac (congrArg (Blk.lst .ev) ?_) rfl)⟩
 rotate_left
 all_goals first|(simp_all[H9];done)|(grind[H9])
structure Cur where
 b:List Int
 i:Int
 h:Int
def A0 (c:Cur):Prop:=0≤c.i∧c.b.length≤1048576
def Ck (x:Cur):List C:=[.seq .u8 x.b,.int .i64 x.i,.int .i64 x.h]
abbrev Kc (c:Cur):List Blk:=[.cells (Ck c)]
structure L4 where
 x:Int
 c1:Cur
def Gu (c:Cur) (o:L4):Prop:=Fun Tryz.prog 154 [vP 0] [.cells (Ck c)] (.v (vI o.x)) [.cells (Ck o.c1)]
def D4 (c:Cur) (o:L4):Prop:=(((0:Int)≤o.x∧o.x≤255)∧(A0 o.c1))∧Gu c o
theorem M1 (c:Cur) (hp1:A0 c): ∃o:L4,D4 c o:=by
 have hN:Bn=274877906944:=rfl
 have hcb:=hp1.1
 have hcl:=hp1.2
 refine B4 Tryz.func154 Q4 Q4 (w:=let z5:=(IntKind.i64.wrap (c.h*6364136223846793005))+1442695040888963407;let z3:=IntKind.i64.wrap z5;let z8:=(.v (vI (Int.fdiv z3 (2 ^ 33))):S)= .v (vI (z3 / 8589934592));let z10:List Blk:=[.cells [.seq .u8 c.b,.int .i64 (c.i+1),.int .i64 z3]];let z11:List Blk:=[.cells [.seq .u8 c.b,.int .i64 c.i,.int .i64 z3]];let z12:=z3 / 35184372088832;let z4:=IntKind.i64.wrap (((BitVec.ofInt 64 (z3 / 8589934592) ^^^ BitVec.ofInt 64 z12).toNat:Nat));let z7:=(.v (vI (Int.fdiv z3 (2 ^ 45))):S)= .v (vI z12);let z9:=z4 % 256;let z6:=(.v (vI (IntKind.i64.wrap (((BitVec.ofInt 64 z4&&&BitVec.ofInt 64 255).toNat:Nat)))):S)= .v (vI z9);(.seg [.ord (os 13 []) [],.as 17 (.v (vI (z3 / 8589934592))),.as 22 (.v (vI z12)),.as 24 (.v (vI z9)),.ord (os 10 []) []] (.br (.intro (Sx (c.b[Int.toNat c.i]?)) fun x1=>let z1:=IntKind.i64.wrap (z9+(IntKind.i64.wrap (x1)));.seg [.ord (os 15 []) [],.el .u8 x1,.as 48 (.v (vI (z1 % 256))),.as 54 (.v (vI (c.i+1)))] (.leaf (⟨z1 % 256,(⟨c.b,c.i+1,IntKind.i64.wrap z5⟩:Cur)⟩:L4) [0])) (.leaf (⟨z4 % 256,(⟨c.b,c.i,IntKind.i64.wrap z5⟩:Cur)⟩:L4) [0])),((0:Int)≤33)∧((0:Int)≤33)∧z8∧z8∧((0:Int)≤45)∧((0:Int)≤45)∧z7∧z7∧z6∧z6∧Bc (decide (c.i<((List.length c.b:Nat):Int))) (El (c.b[Int.toNat c.i]?) fun x1=>(let z2:=IntKind.i64.wrap (z9+(IntKind.i64.wrap (x1)));(c.b[Int.toNat c.i]? =some x1)∧((0:Int)≤c.i)∧(c.b[Int.toNat c.i]? =some x1)∧((0:Int)≤c.i)∧((.v (vI (IntKind.i64.wrap (((BitVec.ofInt 64 z2&&&BitVec.ofInt 64 255).toNat:Nat)))):S)= .v (vI (z2 % 256)))∧((.v (vI (IntKind.i64.wrap (((BitVec.ofInt 64 z2&&&BitVec.ofInt 64 255).toNat:Nat)))):S)= .v (vI (z2 % 256)))∧(wI (c.i+1))∧(((0:Int)≤(z2 % 256)∧(z2 % 256)≤255)∧(A0 (⟨c.b,c.i+1,IntKind.i64.wrap z5⟩:Cur)))∧Lf (.v (vI (z2 % 256))) (.v (vI (z2 % 256))) z10 z10)) ((((0:Int)≤z9∧z9≤255)∧(A0 (⟨c.b,c.i,IntKind.i64.wrap z5⟩:Cur)))∧Lf (.v (vI z9)) (.v (vI z9)) z11 z11))) Q4 ?_
 refine⟨Q18,Q18,(Wz (k:=33) Q18 Q18),(Wz (k:=33) Q18 Q18),Q18,Q18,(Wz (k:=45) Q18 Q18),(Wz (k:=45) Q18 Q18),(Gh (k:=8) Q18 Q18),(Gh (k:=8) Q18 Q18),dsp (fun h1 p1=>?_) fun h1 p1=>?_⟩
 refine⟨(Bo (l:=c.b) (i:=Int.toNat c.i) Q2),fun x1 hx1=>?_⟩
 exact⟨hx1,Q2,hx1,Q2,(Gh (k:=8) Q18 Q18),(Gh (k:=8) Q18 Q18),(Af Q2 Q2),⟨Q2,Q0⟩,rfl,rfl⟩
 exact⟨⟨Q2,Q0⟩,rfl,rfl⟩
structure C8 where
 x:Int
 c1:Cur
def Aj (c:Cur) (n:Int) (o:C8):Prop:=Fun Tryz.prog 85 [vP 0,vI n] [.cells (Ck c)] (.v (vI o.x)) [.cells (Ck o.c1)]
def Aa (c:Cur) (n:Int) (o:C8):Prop:=(((0:Int)≤o.x)∧((1:Int)≤n→o.x<n)∧(n≤(0:Int)→o.x=(0:Int))∧(A0 o.c1))∧Aj c n o
theorem Au (c:Cur) (n:Int) (hp1:A0 c): ∃o:C8,Aa c n o:=by
 have hN:Bn=274877906944:=rfl
 refine B4 Tryz.func85 Q4 Q4 (w:=let z8:=D4 c;(.br (.leaf (⟨0,c⟩:C8) [0]) (.br (.intro z8 fun o1=> .seg [.call [0] (.v (vI o1.x)) (Kc o1.c1)] (.leaf (⟨Int.tmod o1.x n,o1.c1⟩:C8) [0])) (.intro z8 fun o1=> .seg [.call [0] (.v (vI o1.x)) (Kc o1.c1)] (.intro (D4 o1.c1) fun o2=>let z6:=(o1.x*16777216)+(o2.x*65536);.seg [.call [0] (.v (vI o2.x)) (Kc o2.c1)] (.intro (D4 o2.c1) fun o3=>let z4:=z6+(o3.x*256);.seg [.call [0] (.v (vI o3.x)) (Kc o3.c1)] (.intro (D4 o3.c1) fun o4=>let z2:=z4+o4.x;.seg [.call [0] (.v (vI o4.x)) (Kc o4.c1),.as 26 (.v (vI (o1.x*16777216))),.as 28 (.v (vI (o2.x*65536))),.as 29 (.v (vI z6)),.as 31 (.v (vI (o3.x*256))),.as 32 (.v (vI z4)),.as 34 (.v (vI z2))] (.leaf (⟨Int.tmod z2 n,o4.c1⟩:C8) [0])))))),Bc (decide (n≤0)) ((((0:Int)≤0)∧((1:Int)≤n→0<n)∧(n≤(0:Int)→0=(0:Int))∧(A0 c))∧Lf (.v (vI 0)) (.v (vI 0)) (Kc c) (Kc c)) (Bc (decide (n≤256)) (In z8 fun o1=>(let z1:=Int.tmod o1.x n;(Gu c o1)∧(n≠0)∧(((0:Int)≤z1)∧((1:Int)≤n→z1<n)∧(n≤(0:Int)→z1=(0:Int))∧(A0 o1.c1))∧Lf (.v (vI z1)) (.v (vI z1)) (Kc o1.c1) (Kc o1.c1))) (In z8 fun o1=>((Gu c o1)∧In (D4 o1.c1) fun o2=>(let z7:=(o1.x*16777216)+(o2.x*65536);(Gu o1.c1 o2)∧In (D4 o2.c1) fun o3=>(let z5:=z7+(o3.x*256);(Gu o2.c1 o3)∧In (D4 o3.c1) fun o4=>(let z3:=z5+o4.x;(Gu o3.c1 o4)∧(wI (o1.x*16777216))∧(wI (o2.x*65536))∧(wI z7)∧(wI (o3.x*256))∧(wI z5)∧(wI z3)∧(n≠0)∧(((0:Int)≤(Int.tmod z3 n))∧((1:Int)≤n→(Int.tmod z3 n)<n)∧(n≤(0:Int)→(Int.tmod z3 n)=(0:Int))∧(A0 o4.c1))∧Lf (.v (vI (Int.tmod z3 n))) (.v (vI (Int.tmod z3 n))) (Kc o4.c1) (Kc o4.c1))))))))) Q4 ?_
 refine dsp (fun h1 p1=>?_) fun h1 p1=>?_
 exact⟨⟨Q2,Q2,Q2,Q0⟩,rfl,rfl⟩
 refine dsp (fun h2 p2=>?_) fun h2 p2=>?_
 refine⟨(M1 c Q0),fun o1 ho_o1=>?_⟩
 obtain ⟨⟨hp_o1_0,hp_o1_1⟩,hf_o1⟩:=ho_o1
 exact⟨hf_o1,Q2,⟨(by have:=U6 o1.x n;omega),(by have:=U6 o1.x n;omega),(by have:=U6 o1.x n;omega),Q0⟩,rfl,rfl⟩
 refine⟨(M1 c Q0),fun o1 ho_o1=>?_⟩
 obtain ⟨⟨hp_o1_0,hp_o1_1⟩,hf_o1⟩:=ho_o1
 refine⟨hf_o1,(M1 o1.c1 Q0),fun o2 ho_o2=>?_⟩
 obtain ⟨⟨hp_o2_0,hp_o2_1⟩,hf_o2⟩:=ho_o2
 refine⟨hf_o2,(M1 o2.c1 Q0),fun o3 ho_o3=>?_⟩
 obtain ⟨⟨hp_o3_0,hp_o3_1⟩,hf_o3⟩:=ho_o3
 refine⟨hf_o3,(M1 o3.c1 Q0),fun o4 ho_o4=>?_⟩
 obtain ⟨⟨hp_o4_0,hp_o4_1⟩,hf_o4⟩:=ho_o4
 exact⟨hf_o4,(Af Q2 Q2),(Af Q2 Q2),(Af Q2 Q2),(Af Q2 Q2),(Af Q2 Q2),(Af Q2 Q2),Q2,⟨Q49,Q49,Q49,Q0⟩,rfl,rfl⟩
structure Px where
 p:Bool
 c1:Cur
def Bg (c:Cur) (n:Int) (o:Px):Prop:=Fun Tryz.prog 81 [vP 0,vI n] [.cells (Ck c)] (.v (vB o.p)) [.cells (Ck o.c1)]
def Am (c:Cur) (n:Int) (o:Px):Prop:=((A0 o.c1))∧Bg c n o
theorem Bx (c:Cur) (n:Int) (hp1:A0 c): ∃o:Px,Am c n o:=by
 have hN:Bn=274877906944:=rfl
 refine B4 Tryz.func81 Q4 Q4 (w:=(.intro (Aa c n) fun o1=> .seg [.call [0] (.v (vI o1.x)) (Kc o1.c1)] (.leaf (⟨decide (o1.x=0),o1.c1⟩:Px) [0]),In (Aa c n) fun o1=>((Aj c n o1)∧((A0 o1.c1))∧Lf (.v (vB (decide (o1.x=0)))) (.v (vB (decide (o1.x=0)))) (Kc o1.c1) (Kc o1.c1)))) Q4 ?_
 refine⟨(Au c n Q0),fun o1 ho_o1=>?_⟩
 obtain ⟨⟨hp_o1_0,hp_o1_1,hp_o1_2,hp_o1_3⟩,hf_o1⟩:=ho_o1
 exact⟨hf_o1,Q0,rfl,rfl⟩
structure Jq where
 x:Int
 c1:Cur
def Dk (c:Cur) (l:List Int) (o:Jq):Prop:=Fun Tryz.prog 86 [vP 0,.c (.seq .int l)] [.cells (Ck c)] (.v (vI o.x)) [.cells (Ck o.c1)]
def B3 (c:Cur) (l:List Int) (o:Jq):Prop:=((o.x∈l)∧(A0 o.c1))∧Dk c l o
theorem Fn (c:Cur) (l:List Int) (hp1:A0 c) (hp2:1≤List.length l) (hp3:List.length l≤1000): ∃o:Jq,B3 c l o:=by
 have hN:Bn=274877906944:=rfl
 refine B4 Tryz.func86 Q4 Q4 (w:=let z1:=((List.length l:Nat):Int);(.intro (Aa c z1) fun o1=> .seg [.call [0] (.v (vI o1.x)) (Kc o1.c1)] (.intro (Sx (l[Int.toNat o1.x]?)) fun x1=> .seg [.el .int x1] (.leaf (⟨x1,o1.c1⟩:Jq) [0])),In (Aa c z1) fun o1=>((Aj c z1 o1)∧El (l[Int.toNat o1.x]?) fun x1=>((l[Int.toNat o1.x]? =some x1)∧((0:Int)≤o1.x)∧((x1∈l)∧(A0 o1.c1))∧Lf (.v (vI x1)) (.v (vI x1)) (Kc o1.c1) (Kc o1.c1))))) Q4 ?_
 refine⟨(Au c ((List.length l:Nat):Int) Q0),fun o1 ho_o1=>?_⟩
 obtain ⟨⟨hp_o1_0,hp_o1_1,hp_o1_2,hp_o1_3⟩,hf_o1⟩:=ho_o1
 refine⟨hf_o1,(Bo (l:=l) (i:=Int.toNat o1.x) Q2),fun x1 hx1=>?_⟩
 exact⟨hx1,Q2,⟨(List.mem_of_getElem? hx1),Q0⟩,rfl,rfl⟩
structure Ang where
 x:Int
 c1:Cur
structure Pd where
 c1:Cur
def Aac (b:List Int) (o:Pd):Prop:=Fun Tryz.prog 53 [.c (.seq .u8 b)] [] (.v (vP 0)) [.cells (Ck o.c1)]
def Vw (b:List Int) (o:Pd):Prop:=((A0 o.c1))∧Aac b o
structure Py where
 h:Int
 i:Nat
def Pz (b:List Int):Fam:=⟨Py,fun q1=>[(0,.v (.c (.seq .u8 b))),(3,.v (vI q1.h)),(4,.v (vI ((q1.i:Nat):Int)))],fun _=>[],fun q1=>q1.i≤List.length b∧(0:Int)≤q1.h∧q1.h≤1073741823,fun q1=>List.length b-q1.i⟩
theorem Anh (b:List Int) (hp1:List.length b≤1048576): ∃o:Pd,Vw b o:=by
 have hN:Bn=274877906944:=rfl
 refine B4 Tryz.func53 Q4 Q4 (w:=let z5:=((List.length b:Nat):Int);let z6:=Pz b;(.seg [.as 7 (.v (vI (28433+z5))),.at 0,.keep [0,3,4],.sel []] (.loop z6 fun q1=> .br (.br (.seg [.as 19 (.v (vI (q1.h*131)))] (.intro (Sx (b[q1.i]?)) fun x1=> .seg [.el .u8 x1,.as 27 (.v (vI ((IntKind.i64.wrap ((IntKind.i64.wrap ((q1.h*131)+(IntKind.i64.wrap (x1))))+7)) % 1073741824))),.as 17 (.v (vI (((q1.i:Nat):Int)+1))),.at 0,.keep [0,3,4],.sel []] (.next))) (.leaf (⟨(⟨b,0,q1.h⟩:Cur)⟩:Pd) [0])) (.leaf (⟨(⟨b,0,q1.h⟩:Cur)⟩:Pd) [0])),(wI (28433+z5))∧z6.Has [(0,.v (.c (.seq .u8 b))),(3,.v (vI (28433+z5))),(4,.v (vI 0))] []∧∀q1,z6.inv q1→(let z3:=((q1.i:Nat):Int);let z4:List Blk:=[.cells [.seq .u8 b,.int .i64 0,.int .i64 q1.h]];let z2:=((A0 (⟨b,0,q1.h⟩:Cur)))∧Lf (.v (vP 0)) (.v (vP 0)) z4 z4;Bc (decide (z3<z5)) (Bc (decide (z3<4000)) ((wI (q1.h*131))∧El (b[q1.i]?) fun x1=>(let z1:=IntKind.i64.wrap ((IntKind.i64.wrap ((q1.h*131)+(IntKind.i64.wrap (x1))))+7);(b[q1.i]? =some x1)∧((0:Int)≤z3)∧((.v (vI (IntKind.i64.wrap (((BitVec.ofInt 64 z1&&&BitVec.ofInt 64 1073741823).toNat:Nat)))):S)= .v (vI (z1 % 1073741824)))∧(wI (z3+1))∧z6.Nxt q1 [(0,.v (.c (.seq .u8 b))),(3,.v (vI (z1 % 1073741824))),(4,.v (vI (z3+1)))] [])) z2) z2))) Q4 ?_
 refine⟨(Af Q2 Q2),Cm (j:=(⟨28433+((List.length b:Nat):Int),0⟩:Py)) Q9 rfl (by dsimp only[Pz];exact⟨by omega,by omega,by omega⟩),fun (q1:Py) hq_q1=>?_⟩
 have hi_q1:q1.i≤List.length b∧(0:Int)≤q1.h∧q1.h≤1073741823:=hq_q1
 obtain ⟨v1,v2,v3⟩:=hi_q1
 refine dsp (fun h1 p1=>?_) fun h1 p1=>?_
 refine dsp (fun h2 p2=>?_) fun h2 p2=>?_
 refine⟨(Af Q2 Q2),(Bo (l:=b) (i:=q1.i) Q2),fun x1 hx1=>?_⟩
 exact⟨hx1,Q2,(Gh (k:=30) Q18 Q18),(Af Q2 Q2),Be (j:=(⟨(IntKind.i64.wrap ((IntKind.i64.wrap ((q1.h*131)+(IntKind.i64.wrap (x1))))+7)) % 1073741824,q1.i+1⟩:Py)) Q9 rfl (by dsimp only[Pz];exact⟨by omega,by omega,by omega⟩) (by dsimp only[Pz];omega)⟩
 exact⟨(⟨by dsimp only;omega,hp1⟩),rfl,rfl⟩
 exact⟨(⟨by dsimp only;omega,hp1⟩),rfl,rfl⟩
structure M2 where
 l:List Int
 c1:Cur
def C1 (c:Cur) (n:Int) (o:M2):Prop:=Fun Tryz.prog 193 [vP 0,vI n] [.cells (Ck c)] (.v (vO 1)) [.cells (Ck o.c1),.lst .u8 o.l]
def Bp (c:Cur) (n:Int) (o:M2):Prop:=((List.length o.l≤Int.toNat n)∧(A0 o.c1))∧C1 c n o
structure K9 where
 c:Cur
 b:List Int
 i:Nat
def La (n:Int):Fam:=⟨K9,fun q1=>[(0,.v (vP 0)),(1,.v (vI n)),(5,.v (vO 1)),(6,.v (vI ((q1.i:Nat):Int)))],fun q1=>[.cells (Ck q1.c),.lst .u8 q1.b],fun q1=>A0 q1.c∧List.length q1.b=q1.i∧(q1.i=0∨((q1.i:Nat):Int)≤n),fun q1=>Int.toNat n-q1.i⟩
theorem Eg (c:Cur) (n:Int) (hp1:A0 c) (hp2:n≤100000): ∃o:M2,Bp c n o:=by
 have hN:Bn=274877906944:=rfl
 refine B4 Tryz.func193 Q4 Q4 (w:=let z2:=La n;(.seg [.ty .u8,.at 0,.keep [0,1,5,6],.sel [0,1]] (.loop z2 fun q1=> .br (.intro (D4 q1.c) fun o1=> .seg [.call [0] (.v (vI o1.x)) (Kc o1.c1),.as 16 (.v (.c (.int .u8 o1.x))),.ty .u8,.ty .u8,.as 12 (.v (vI (((q1.i:Nat):Int)+1))),.at 0,.keep [0,1,5,6],.sel [0,3]] (.next)) (.leaf (⟨q1.b,q1.c⟩:M2) [0,1])),z2.Has [(0,.v (vP 0)),(1,.v (vI n)),(5,.v (vO 1)),(6,.v (vI 0))] [.cells (Ck c),.lst .u8 ([]:List Int)]∧∀q1,z2.inv q1→(let z1:=((q1.i:Nat):Int);Bc (decide (z1<n)) (In (D4 q1.c) fun o1=>((Gu q1.c o1)∧((.v (.c (.int .u8 (IntKind.u8.wrap (o1.x)))):S)= .v (.c (.int .u8 o1.x)))∧(List.length q1.b+List.length [o1.x]≤Bn)∧(wI (z1+1))∧z2.Nxt q1 [(0,.v (vP 0)),(1,.v (vI n)),(5,.v (vO 1)),(6,.v (vI (z1+1)))] [.cells (Ck o1.c1),.lst .u8 (q1.b++[o1.x])])) (((List.length q1.b≤Int.toNat n)∧(A0 q1.c))∧Lf (.v (vO 1)) (.v (vO 1)) [.cells (Ck q1.c),.lst .u8 q1.b] [.cells (Ck q1.c),.lst .u8 q1.b])))) Q4 ?_
 refine⟨Cm (j:=(⟨c,([]:List Int),0⟩:K9)) Q9 rfl (by dsimp only[La];exact⟨hp1,rfl,.inl rfl⟩),fun (q1:K9) hq_q1=>?_⟩
 have hi_q1:A0 q1.c∧List.length q1.b=q1.i∧(q1.i=0∨((q1.i:Nat):Int)≤n):=hq_q1
 obtain ⟨v1,v2,v3⟩:=hi_q1
 refine dsp (fun h1 p1=>?_) fun h1 p1=>?_
 refine⟨(M1 q1.c Q0),fun o1 ho_o1=>?_⟩
 obtain ⟨⟨hp_o1_0,hp_o1_1⟩,hf_o1⟩:=ho_o1
 exact⟨hf_o1,(P9 Q2 Q2),Q5,(Af Q2 Q2),Be (j:=(⟨o1.c1,q1.b++[o1.x],q1.i+1⟩:K9)) Q9 rfl (by dsimp only[La];exact⟨by assumption,by simp;omega,by omega⟩) (by dsimp only[La];omega)⟩
 exact⟨⟨Q2,Q0⟩,rfl,rfl⟩
structure Aju where
 l:List Rd
 c1:Cur
structure Aic where
 c:Cur
 out:List Rd
 i:Nat
structure Raw where
 msgs:List Shp
structure Vio where
 code:Int
 msg:Int
 field:Int
structure Ap8 (ids:List Int) (f:Fld):Prop where
 num:Dd f.number=true
 kd:1≤f.kind∧f.kind≤8
 pk:f.packed=true→f.rep=true∧f.kind≤5
 ref:f.kind=8→f.msg∈ids
 no:f.kind≠8→f.msg=0
 n44:f.number≠44
def Aid (fs:List Fld):List Int:=fs.map fun f=>f.number
def Gv (l:List Shp):List Int:=l.map fun m=>m.id
def Pe (l:List Shp) (id:Int):Bool:=l.any fun m=>decide (m.id=id)
def Ca (l:List Fld) (n:Int):Bool:=l.any fun f=>decide (f.number=n)
structure FldsG (ids:List Int) (fs:List Fld):Prop where
 len:fs.length≤5
 num:(Aid fs).Nodup
 all: ∀f∈fs,Ap8 ids f
structure RawK (n:Nat) (l:List Shp):Prop where
 len:l.length=n
 pos:1≤n∧n≤3
 ids:Gv l=[5,1,99].take n
 flds: ∀m∈l,FldsG (Gv l) m.fields
theorem Ac6 {l:List Fld} {n:Int} :Ca l n=false↔∀f∈l,f.number≠n:=by
 simp[Ca]
theorem Abo {l:List Shp} {x:Int} :Pe l x=true↔x∈Gv l:=by
 simp[Pe,Gv]
theorem Xr {l:List Int} (h:l.Nodup) {i:Nat} {x:Int} (hx:l[i]? =some x):x ∉ l.take i:=by
 intro hm
 obtain ⟨j,hj,he⟩:=List.mem_take_iff_getElem.1 hm
 have hi:=(List.getElem?_eq_some_iff.1 hx)
 obtain ⟨hi1,hi2⟩:=hi
 exact List.pairwise_iff_getElem.1 h j i Q2 hi1 Q2 (by rw[hi2,he])
theorem RawK.nodup {n:Nat} {l:List Shp} (h:RawK n l):(Gv l).Nodup:=by
 rw[h.ids]
 have h2:=h.pos
 have:n=1∨n=2∨n=3:=by omega
 rcases this with rfl|rfl|rfl<;>decide
theorem RawK.noId {n:Nat} {l:List Shp} (h:RawK n l) {i:Nat} {m:Shp} (hm:l[i]? =some m):Pe (l.take i) m.id=false:=by
 cases hc:Pe (l.take i) m.id with
 |false=>rfl
 |true=>
  have:=Abo.1 hc
  unfold Gv at this
  rw[List.map_take] at this
  exact absurd this (Xr (l:=Gv l) h.nodup (by unfold Gv;rw[List.getElem?_map,hm];rfl))
theorem FldsG.noNum {ids:List Int} {fs:List Fld} (h:FldsG ids fs) {i:Nat} {f:Fld} (hf:fs[i]? =some f):Ca (fs.take i) f.number=false:=by
 rw[Ac6]
 intro g hg he
 have:f.number∈(Aid fs).take i:=by
  unfold Aid
  rw[←List.map_take]
  exact List.mem_map.2 ⟨g,hg,he⟩
 exact absurd this (Xr (l:=Aid fs) h.num (by unfold Aid;rw[List.getElem?_map,hf];rfl))
theorem RawK.id_ok {n:Nat} {l:List Shp} (h:RawK n l) {m:Shp} (hm:m∈l):1≤m.id∧m.id≤99:=by
 have hx:m.id∈Gv l:=List.mem_map.2 ⟨m,hm,rfl⟩
 rw[h.ids] at hx
 have:=List.mem_of_mem_take hx
 simp at this
 omega
theorem Ahj {l:List Shp} {i:Nat} {m:Shp} {fs:List Fld} (h:l[i]? =some m):Gv (l.set i ⟨m.id,fs⟩)=Gv l:=by
 unfold Gv
 apply List.ext_getElem?
 intro j
 rw[List.getElem?_map,List.getElem?_map,List.getElem?_set]
 split
 ·rename_i hij
  subst hij
  have hl:=(List.getElem?_eq_some_iff.1 h).1
  rw[if_pos hl,h]
  rfl
 ·rfl
theorem Ajv (fs:List Fld) (f:Fld):Aid (fs++[f])=Aid fs++[f.number]:=by simp[Aid]
theorem RawK.add {n:Nat} {l:List Shp} (h:RawK n l) {i:Nat} {m:Shp} {f:Fld} (hm:l[i]? =some m) (hf:Ap8 (Gv l) f) (hn:Ca m.fields f.number=false) (hk:m.fields.length≤4):RawK n (l.set i ⟨m.id,m.fields++[f]⟩):=by
 have hM:=h.flds m (List.mem_of_getElem? hm)
 refine⟨by rw[List.length_set];exact h.len,h.pos,by rw[Ahj hm];exact h.ids,fun x hx=>?_⟩
 rw[Ahj hm]
 rcases List.mem_or_eq_of_mem_set hx with hx|rfl
 ·exact h.flds x hx
 ·refine⟨by rw[List.length_append];simp;omega,?_,fun g hg=>?_⟩
  ·show (Aid (m.fields++[f])).Nodup
   rw[Ajv,List.nodup_append]
   refine⟨hM.num,by simp,fun a ha b hb=>?_⟩
   simp at hb
   subst hb
   intro e
   subst e
   obtain ⟨g,hg,he⟩:=List.mem_map.1 ha
   exact Ac6.1 hn g hg he
  ·rcases List.mem_append.1 hg with hg|hg
   ·exact hM.all g hg
   ·simp at hg;subst hg;exact hf
def Vx (l:List Shp) (id:Int):Nat:=(l.filter fun m=>decide (m.id<id)).length
theorem Aad {l:List Shp} {i:Nat} {m:Shp} {id:Int} (h:l[i]? =some m):Vx (l.take (i+1)) id=Vx (l.take i) id+(if m.id<id then 1 else 0):=by
 have ht:l.take (i+1)=l.take i++[m]:=by rw[List.take_add_one,h];rfl
 unfold Vx
 rw[ht,List.filter_append,List.length_append]
 split<;>simp[*]
theorem Ani (l:List Shp) (id:Int):Vx l id≤l.length:=List.length_filter_le _ _
theorem Ahk {l:List Shp} {id:Int} (h:id∈Gv l):Vx l id<l.length:=by
 obtain ⟨m,hm,rfl⟩:=List.mem_map.1 h
 unfold Vx
 rcases Nat.lt_or_ge (l.filter fun x=>decide (x.id<m.id)).length l.length with h|h
 ·exact h
 ·have:=List.length_filter_eq_length_iff.1 (Nat.le_antisymm (List.length_filter_le _ _) h) m hm
  simp at this
theorem RawK.no55 {n:Nat} {l:List Shp} (h:RawK n l) {x:Int} (hx:x∈Gv l):x≠55:=by
 rw[h.ids] at hx
 have hm:=List.mem_of_mem_take hx
 simp at hm
 omega
def Amb (n:Nat) (e:Shp):Prop:=(e.fields.length≤5∧e.id≠55)∧∀f∈e.fields,1≤f.kind∧f.kind≤8∧(f.kind=8→0≤f.msg∧f.msg<(n:Int))∧f.number≠44
def SchG (l:List Shp):Prop:=(1≤l.length∧l.length≤3)∧∀e∈l,Amb l.length e
structure PlnG (p:Pln):Prop where
 sch:SchG p.shapes
 root:0≤p.root∧p.root<(p.shapes.length:Int)
 deep:1≤p.deep∧p.deep≤4
 most:0≤p.most∧p.most≤2000
def Ae1 (p:Pln):Prop:=p.shapes.length≤7∧∀e∈p.shapes,e.fields.length≤6
theorem PlnG.b {p:Pln} (h:PlnG p):Ae1 p:=⟨by have:=h.sch.1;omega,fun e he=>by have:=(h.sch.2 e he).1;omega⟩
theorem Aae {α:Type} {l:List α} {i:Nat} {x:α} (h:l[i]? =some x):l.take (i+1)=l.take i++[x]:=by rw[List.take_add_one,h];rfl
theorem Aei {l:List Shp} {i:Nat} {m:Shp} {id:Int} (h:l[i]? =some m):Pe (l.take (i+1)) id=(Pe (l.take i) id||decide (m.id=id)):=by
 rw[Aae h];simp[Pe]
theorem Abp {l:List Fld} {i:Nat} {f:Fld} {n:Int} (h:l[i]? =some f):Ca (l.take (i+1)) n=(Ca (l.take i) n||decide (f.number=n)):=by
 rw[Aae h];simp[Ca]
theorem Aej {l:List Shp} {i:Nat} {m:Shp} {id:Int} {k:Nat} (h:l[i]? =some m) (hi:i<k) (he:m.id=id):Pe (l.take k) id=true:=by
 rw[Pe,List.any_eq_true]
 exact⟨m,List.mem_of_getElem? (by rw[List.getElem?_take,if_pos hi];exact h),by simpa using he⟩
theorem Abq {l:List Fld} {i:Nat} {f:Fld} {n:Int} (h:l[i]? =some f) (he:f.number=n):Ca l n=true:=by
 rw[Ca,List.any_eq_true]
 exact⟨f,List.mem_of_getElem? h,by simpa using he⟩
structure P1 where
 i:Nat
def P2 (r:Raw) (id:Int) (n:Int):Fam:=⟨P1,fun q1=>[(1,.v (vI id)),(2,.v (vI n)),(3,.v (vP 0)),(7,.v (vI ((q1.i:Nat):Int)))],fun _=>[.cells [.seq .shp r.msgs]],fun q1=>((q1.i:Nat):Int)≤n∧Pe (List.take q1.i r.msgs) id=false,fun q1=>Int.toNat n-q1.i⟩
theorem Abr (r:Raw) (id:Int) (n:Int) (hp1:(0:Int)≤n∧n≤((List.length (r).msgs:Nat):Int)) (hp2:List.length (r).msgs≤1000):Fun Tryz.prog 232 [.agg [.seq .shp r.msgs],vI id,vI n] [] (.v (vB (Pe (List.take (Int.toNat n) (r).msgs) id))) []:=by
 have hN:Bn=274877906944:=rfl
 refine Av Tryz.func232 Q4 Q4 (w:=let z2:S:= .v (vB (Pe (List.take (Int.toNat n) (r).msgs) id));let z3:=P2 r id n;(.seg [.at 0,.keep [1,2,3,7],.sel [0]] (.loop z3 fun q1=> .br (.intro (Sx (r.msgs[q1.i]?)) fun x1=> .seg [.el .shp x1] (.br (.leaf () []) (.seg [.as 12 (.v (vI (((q1.i:Nat):Int)+1))),.at 0,.keep [1,2,3,7],.sel [0]] (.next)))) (.leaf () [])),z3.Has [(1,.v (vI id)),(2,.v (vI n)),(3,.v (vP 0)),(7,.v (vI 0))] [.cells [.seq .shp r.msgs]]∧∀q1,z3.inv q1→(let z1:=((q1.i:Nat):Int);Bc (decide (z1<n)) (El (r.msgs[q1.i]?) fun x1=>((r.msgs[q1.i]? =some x1)∧((0:Int)≤z1)∧Bc (decide (x1.id=id)) (Lf (.v (vB true)) z2 [] []) ((wI (z1+1))∧z3.Nxt q1 [(1,.v (vI id)),(2,.v (vI n)),(3,.v (vP 0)),(7,.v (vI (z1+1)))] [.cells [.seq .shp r.msgs]]))) (Lf (.v (vB false)) z2 [] [])))) Q4 ?_
 refine⟨Cm (j:=(⟨0⟩:P1)) Q9 rfl (by dsimp only[P2];exact⟨by omega,rfl⟩),fun (q1:P1) hq_q1=>?_⟩
 have hi_q1:((q1.i:Nat):Int)≤n∧Pe (List.take q1.i r.msgs) id=false:=hq_q1
 obtain ⟨v1,v2⟩:=hi_q1
 refine dsp (fun h1 p1=>?_) fun h1 p1=>?_
 refine⟨(Bo (l:=r.msgs) (i:=q1.i) Q2),fun x1 hx1=>?_⟩
 refine⟨hx1,Q2,dsp (fun h2 p2=>?_) fun h2 p2=>?_⟩
 refine⟨(sB ?_),rfl⟩
 rotate_left
 exact⟨(Af Q2 Q2),Be (j:=(⟨q1.i+1⟩:P1)) Q9 rfl (by dsimp only[P2];exact⟨by omega,by rw[Aei hx1,v2];simpa using by assumption⟩) (by dsimp only[P2];omega)⟩
 have hin:Int.toNat n=q1.i:=by omega
 refine⟨(sB ?_),rfl⟩
 rotate_left
 all_goals first|((rw[hin,v2];done))|((rw[Aej hx1 (by omega) (by assumption)];done))|(grind)
structure M3 where
 i:Nat
def M4 (l:List Fld) (n:Int):Fam:=⟨M3,fun q1=>[(0,.v (.c (.seq .fld l))),(1,.v (vI n)),(5,.v (vI ((q1.i:Nat):Int)))],fun _=>[],fun q1=>q1.i≤List.length l∧Ca (List.take q1.i l) n=false,fun q1=>List.length l-q1.i⟩
theorem F1 (l:List Fld) (n:Int) (hp1:List.length l≤1000):Fun Tryz.prog 221 [.c (.seq .fld l),vI n] [] (.v (vB (Ca l n))) []:=by
 have hN:Bn=274877906944:=rfl
 refine Av Tryz.func221 Q4 Q4 (w:=let z2:=M4 l n;(.seg [.at 0,.keep [0,1,5],.sel []] (.loop z2 fun q1=> .br (.intro (Sx (l[q1.i]?)) fun x1=> .seg [.el .fld x1] (.br (.leaf () []) (.seg [.as 11 (.v (vI (((q1.i:Nat):Int)+1))),.at 0,.keep [0,1,5],.sel []] (.next)))) (.leaf () [])),z2.Has [(0,.v (.c (.seq .fld l))),(1,.v (vI n)),(5,.v (vI 0))] []∧∀q1,z2.inv q1→(let z1:=((q1.i:Nat):Int);Bc (decide (z1<((List.length l:Nat):Int))) (El (l[q1.i]?) fun x1=>((l[q1.i]? =some x1)∧((0:Int)≤z1)∧Bc (decide (x1.number=n)) (Lf (.v (vB true)) (.v (vB (Ca l n))) [] []) ((wI (z1+1))∧z2.Nxt q1 [(0,.v (.c (.seq .fld l))),(1,.v (vI n)),(5,.v (vI (z1+1)))] []))) (Lf (.v (vB false)) (.v (vB (Ca l n))) [] [])))) Q4 ?_
 refine⟨Cm (j:=(⟨0⟩:M3)) Q9 rfl (by dsimp only[M4];exact⟨by omega,rfl⟩),fun (q1:M3) hq_q1=>?_⟩
 have hi_q1:q1.i≤List.length l∧Ca (List.take q1.i l) n=false:=hq_q1
 obtain ⟨v1,v2⟩:=hi_q1
 refine dsp (fun h1 p1=>?_) fun h1 p1=>?_
 refine⟨(Bo (l:=l) (i:=q1.i) Q2),fun x1 hx1=>?_⟩
 refine⟨hx1,Q2,dsp (fun h2 p2=>?_) fun h2 p2=>?_⟩
 refine⟨(sB ?_),rfl⟩
 rotate_left
 exact⟨(Af Q2 Q2),Be (j:=(⟨q1.i+1⟩:M3)) Q9 rfl (by dsimp only[M4];exact⟨by omega,by rw[Abp hx1,v2];simpa using by assumption⟩) (by dsimp only[M4];omega)⟩
 have hin:List.take q1.i l=l:=List.take_of_length_le (by omega)
 rw[hin] at v2
 refine⟨(sB ?_),rfl⟩
 rotate_left
 all_goals first|((rw[v2];done))|((rw[Abq hx1 (by assumption)];done))|(grind)
theorem Ahm (r:Raw) (msg:Int) (hp1:RawK (List.length (r).msgs) (r).msgs) (hp2:(0:Int)≤msg∧msg<((List.length (r).msgs:Nat):Int)):Fun Tryz.prog 229 [.agg [.seq .shp r.msgs],vI msg] [] (.v (vI 0)) []:=by
 have hN:Bn=274877906944:=rfl
 have hpos:=hp1.pos
 refine Av Tryz.func229 Q4 Q4 (w:=let z2:=((List.length r.msgs:Nat):Int)-1;let z3:=List.take (Int.toNat msg) (r).msgs;let z4:S:= .v (vI 0);(.seg [.as 10 (.v (vI z2)),.call [] (.v (vB (Ai msg 0 z2))) []] (.br (.leaf () []) (.intro (Sx (r.msgs[Int.toNat msg]?)) fun x1=> .seg [.el .shp x1,.call [] (.v (vB (Ai x1.id 1 99))) []] (.br (.leaf () []) (.seg [.call [] (.v (vB (Pe z3 x1.id))) [],.br false,.br false] (.leaf () []))))),(wI z2)∧(Fp 44 [vI msg,vI 0,vI z2] [] (.v (vB (Ai msg 0 z2))) [])∧Bc (!(Ai msg 0 z2)) (Lf z4 z4 [] []) (El (r.msgs[Int.toNat msg]?) fun x1=>(let z1:=Pe z3 x1.id;(r.msgs[Int.toNat msg]? =some x1)∧((0:Int)≤msg)∧(Fp 44 [vI x1.id,vI 1,vI 99] [] (.v (vB (Ai x1.id 1 99))) [])∧Bc (!(Ai x1.id 1 99)) (Lf (.v (vI 2)) z4 [] []) ((Fp 232 [.agg [.seq .shp r.msgs],vI x1.id,vI msg] [] (.v (vB z1)) [])∧(z1=false)∧((decide (8<((List.length x1.fields:Nat):Int)))=false)∧Lf z4 z4 [] []))))) Q4 ?_
 refine⟨(Af Q2 Q2),(Bw _ _ _),fun h1=>have q1:=Aq h1;have p1:=A7 q1;?_,fun h1=>have q1:=Ao h1;have p1:=Aw q1;?_⟩
 exact⟨rfl,rfl⟩
 refine⟨(Bo (l:=r.msgs) (i:=Int.toNat msg) Q2),fun x1 hx1=>?_⟩
 have hid:=hp1.id_ok (List.mem_of_getElem? hx1)
 have hfl:=(hp1.flds _ (List.mem_of_getElem? hx1)).len
 have hno:=hp1.noId hx1
 refine⟨hx1,Q2,(Bw _ _ _),fun h2=>have q2:=Aq h2;have p2:=A7 q2;?_,fun h2=>have q2:=Ao h2;have p2:=Aw q2;?_⟩
 refine⟨(sI ?_),rfl⟩
 rotate_left
 exact⟨(Abr r _ _ Q2 Q2),hno,(decide_eq_false Q2),rfl,rfl⟩
 all_goals first|(rfl)|((exfalso;omega))|((exfalso;simp_all;done))|(grind)
theorem Abs (r:Raw) (msg:Int) (field:Int) (hp1:RawK (List.length (r).msgs) (r).msgs) (hp2:(0:Int)≤msg∧msg<((List.length (r).msgs:Nat):Int)) (hp3: ∀m,(r).msgs[Int.toNat msg]? =some m→(0:Int)≤field∧field<((List.length m.fields:Nat):Int)):Fun Tryz.prog 230 [.agg [.seq .shp r.msgs],vI msg,vI field] [] (.v (vI 0)) []:=by
 have hN:Bn=274877906944:=rfl
 have hpos:=hp1.pos
 refine Av Tryz.func230 Q4 Q4 (w:=let z9:=((List.length r.msgs:Nat):Int);let z10:S:= .v (vI 0);let z11:=Lf (.v (vI 9)) z10 [] [];let z12:=Lf z10 z10 [] [];let z13:=Ai msg 0 (z9-1);let z14:=List.take (Int.toNat z9) (r).msgs;let z15:=(0:Int)≤field;(.seg [.as 13 (.v (vI (z9-1))),.call [] (.v (vB z13)) []] (.br (.leaf () []) (.intro (Sx (r.msgs[Int.toNat msg]?)) fun x1=>let z5:=((List.length x1.fields:Nat):Int)-1;.seg [.el .shp x1,.as 25 (.v (vI z5)),.call [] (.v (vB (Ai field 0 z5))) []] (.br (.leaf () []) (.seg [.el .shp x1] (.intro (Sx (x1.fields[Int.toNat field]?)) fun x2=>let z1:S:= .v (vB (Pe z14 x2.msg));.seg [.el .fld x2,.call [] (.v (vB (Dd x2.number))) []] (.br (.leaf () []) (.seg [.ord (os 7 [5]) [],.call [] (.v (vB (Ca (List.take (Int.toNat field) x1.fields) x2.number))) [],.br false,.call [] (.v (vB (Dy x2.kind))) []] (.br (.leaf () []) (.br (.br (.leaf () []) (.seg [.call [] (.v (vB (Cf x2.kind))) []] (.br (.leaf () []) (.br (.seg [.call [] z1 []] (.br (.leaf () []) (.br (.br (.leaf () []) (.leaf () [])) (.leaf () [])))) (.br (.br (.leaf () []) (.leaf () [])) (.leaf () [])))))) (.br (.seg [.call [] z1 []] (.br (.leaf () []) (.br (.br (.leaf () []) (.leaf () [])) (.leaf () [])))) (.br (.br (.leaf () []) (.leaf () [])) (.leaf () [])))))))))))),(wI (z9-1))∧(Fp 44 [vI msg,vI 0,vI (z9-1)] [] (.v (vB z13)) [])∧Bc (!z13) z12 (El (r.msgs[Int.toNat msg]?) fun x1=>(let z6:=((List.length x1.fields:Nat):Int);let z7:=List.take (Int.toNat field) x1.fields;let z8:=r.msgs[Int.toNat msg]? =some x1;z8∧((0:Int)≤msg)∧(wI (z6-1))∧(Fp 44 [vI field,vI 0,vI (z6-1)] [] (.v (vB (Ai field 0 (z6-1)))) [])∧Bc (!(Ai field 0 (z6-1))) z12 (z8∧((0:Int)≤msg)∧El (x1.fields[Int.toNat field]?) fun x2=>(let z2:=Bc (!decide (x2.kind=8)) (Bc (!decide (x2.msg=0)) z11 z12) z12;let z3:=Pe z14 x2.msg;let z4:=Ca z7 x2.number;(x1.fields[Int.toNat field]? =some x2)∧z15∧(Fp 156 [vI x2.number] [] (.v (vB (Dd x2.number))) [])∧Bc (!(Dd x2.number)) (Lf (.v (vI 5)) z10 [] []) ((field≤z6)∧z15∧(field≤z6)∧z15∧(Fp 221 [.c (.seq .fld z7),vI x2.number] [] (.v (vB z4)) [])∧(z4=false)∧(Fp 157 [vI x2.kind] [] (.v (vB (Dy x2.kind))) [])∧Bc (!(Dy x2.kind)) (Lf (.v (vI 7)) z10 [] []) (Bc x2.packed (Bc (!x2.rep) (Lf (.v (vI 8)) z10 [] []) ((Fp 158 [vI x2.kind] [] (.v (vB (Cf x2.kind))) [])∧Bc (!(Cf x2.kind)) (Lf (.v (vI 8)) z10 [] []) (Bc (decide (x2.kind=8)) ((Fp 232 [.agg [.seq .shp r.msgs],vI x2.msg,vI z9] [] (.v (vB z3)) [])∧Bc (!z3) z11 z2) z2))) (Bc (decide (x2.kind=8)) ((Fp 232 [.agg [.seq .shp r.msgs],vI x2.msg,vI z9] [] (.v (vB z3)) [])∧Bc (!z3) z11 z2) z2))))))))) Q4 ?_
 refine⟨(Af Q2 Q2),(Bw _ _ _),fun h1=>have q1:=Aq h1;have p1:=A7 q1;?_,fun h1=>have q1:=Ao h1;have p1:=Aw q1;?_⟩
 exact⟨rfl,rfl⟩
 refine⟨(Bo (l:=r.msgs) (i:=Int.toNat msg) Q2),fun x1 hx1=>?_⟩
 have hfb:=hp3 _ hx1
 have hfg:=hp1.flds _ (List.mem_of_getElem? hx1)
 have hfl:=hfg.len
 refine⟨hx1,Q2,(Af Q2 Q2),(Bw _ _ _),fun h2=>have q2:=Aq h2;have p2:=A7 q2;?_,fun h2=>have q2:=Ao h2;have p2:=Aw q2;?_⟩
 exact⟨rfl,rfl⟩
 refine⟨hx1,Q2,(Bo (l:=x1.fields) (i:=Int.toNat field) Q2),fun x2 hx2=>?_⟩
 have hg:=hfg.all _ (List.mem_of_getElem? hx2)
 have hnn:=hfg.noNum hx2
 have hgk:=hg.kd
 have hgm:=hg.num
 have hgo:Dy x2.kind=true:=by simp only[Dy,Ai,Bool.and_eq_true,decide_eq_true_eq];omega
 have hgp:=hg.pk
 have hgn:=hg.no
 refine⟨hx2,Q2,(Xb _),fun h3=>have q3:=Aq h3;?_,fun h3=>have q3:=Ao h3;?_⟩
 refine⟨(sI ?_),rfl⟩
 rotate_left
 refine⟨Q2,Q2,Q2,Q2,(F1 _ _ (by simp only[List.length_take];omega)),hnn,(Ue _),fun h4=>have q4:=Aq h4;have p4:=A7 q4;?_,fun h4=>have q4:=Ao h4;have p4:=Aw q4;?_⟩
 refine⟨(sI ?_),rfl⟩
 rotate_left
 refine⟨fun h5=>?_,fun h5=>?_⟩
 refine⟨fun h6=>have q6:=Aq h6;?_,fun h6=>have q6:=Ao h6;?_⟩
 refine⟨(sI ?_),rfl⟩
 rotate_left
 refine⟨(Lq _),fun h7=>have q7:=Aq h7;have p7:=A7 q7;?_,fun h7=>have q7:=Ao h7;have p7:=Aw q7;?_⟩
 refine⟨(sI ?_),rfl⟩
 rotate_left
 refine dsp (fun h8 p8=>?_) fun h8 p8=>?_
 have hir:=(Abo (l:=r.msgs)).2 (hg.ref (by omega))
 refine⟨(Abr r _ _ Q2 Q2),fun h9=>have q9:=Aq h9;?_,fun h9=>have q9:=Ao h9;?_⟩
 refine⟨(sI ?_),rfl⟩
 rotate_left
 refine⟨fun h10=>have q10:=Aq h10;have p10:=of_decide_eq_false q10;?_,fun h10=>have q10:=Ao h10;have p10:=of_decide_eq_true q10;?_⟩
 refine⟨fun h11=>have q11:=Aq h11;have p11:=of_decide_eq_false q11;?_,fun h11=>have q11:=Ao h11;have p11:=of_decide_eq_true q11;?_⟩
 refine⟨(sI ?_),rfl⟩
 rotate_left
 exact⟨rfl,rfl⟩
 exact⟨rfl,rfl⟩
 refine⟨fun h9=>have q9:=Aq h9;have p9:=of_decide_eq_false q9;?_,fun h9=>have q9:=Ao h9;have p9:=of_decide_eq_true q9;?_⟩
 refine⟨fun h10=>have q10:=Aq h10;have p10:=of_decide_eq_false q10;?_,fun h10=>have q10:=Ao h10;have p10:=of_decide_eq_true q10;?_⟩
 refine⟨(sI ?_),rfl⟩
 rotate_left
 exact⟨rfl,rfl⟩
 exact⟨rfl,rfl⟩
 refine dsp (fun h6 p6=>?_) fun h6 p6=>?_
 have hir:=(Abo (l:=r.msgs)).2 (hg.ref (by omega))
 refine⟨(Abr r _ _ Q2 Q2),fun h7=>have q7:=Aq h7;?_,fun h7=>have q7:=Ao h7;?_⟩
 refine⟨(sI ?_),rfl⟩
 rotate_left
 refine⟨fun h8=>have q8:=Aq h8;have p8:=of_decide_eq_false q8;?_,fun h8=>have q8:=Ao h8;have p8:=of_decide_eq_true q8;?_⟩
 refine⟨fun h9=>have q9:=Aq h9;have p9:=of_decide_eq_false q9;?_,fun h9=>have q9:=Ao h9;have p9:=of_decide_eq_true q9;?_⟩
 refine⟨(sI ?_),rfl⟩
 rotate_left
 exact⟨rfl,rfl⟩
 exact⟨rfl,rfl⟩
 refine⟨fun h7=>have q7:=Aq h7;have p7:=of_decide_eq_false q7;?_,fun h7=>have q7:=Ao h7;have p7:=of_decide_eq_true q7;?_⟩
 refine⟨fun h8=>have q8:=Aq h8;have p8:=of_decide_eq_false q8;?_,fun h8=>have q8:=Ao h8;have p8:=of_decide_eq_true q8;?_⟩
 refine⟨(sI ?_),rfl⟩
 rotate_left
 exact⟨rfl,rfl⟩
 exact⟨rfl,rfl⟩
 all_goals first|(rfl)|((exfalso;simp_all[Cf,Ai];omega))|((exfalso;simp_all[Cf,Ai];done))|((exfalso;omega))|(grind)
structure L5 where
 i:Nat
def P3 (r:Raw):Fam:=⟨L5,fun q1=>[(1,.v (vP 0)),(2,.v (vP 1)),(3,.v (vI ((q1.i:Nat):Int)))],fun _=>[.cells [.seq .shp r.msgs],.cells [.int .i64 0,.int .i64 0,.int .i64 0]],fun q1=>q1.i≤List.length r.msgs,fun q1=>List.length r.msgs-q1.i⟩
structure P4 where
 k:Nat
def Hu (r:Raw) (q1:L5):Fam:=⟨P4,fun q2=>[(1,.v (vP 0)),(2,.v (vP 1)),(3,.v (vI ((q1.i:Nat):Int))),(5,.v (vI ((q2.k:Nat):Int)))],fun _=>[.cells [.seq .shp r.msgs],.cells [.int .i64 0,.int .i64 0,.int .i64 0]],fun q2=>q2.k≤5,fun q2=>5-q2.k⟩
theorem Anj (r:Raw) (hp1:RawK (List.length (r).msgs) (r).msgs):Fun Tryz.prog 218 [.agg [.seq .shp r.msgs]] [] (.v (.agg [.int .i64 0,.int .i64 0,.int .i64 0])) []:=by
 have hN:Bn=274877906944:=rfl
 have hpos:=hp1.pos
 refine Av Tryz.func218 Q4 Q4 (w:=let zi:Int→C:= .int .i64;let z3:List Blk:=[.cells [.seq .shp r.msgs],.cells [zi 0,zi 0,zi 0]];let z4:S:= .v (.agg [zi 0,zi 0,zi 0]);let z5:=P3 r;let z6:=((List.length r.msgs:Nat):Int);(.br (.leaf () []) (.seg [.at 0,.keep [1,2,3],.sel [0,1]] (.loop z5 fun q1=> .br (.seg [.call [] (.v (vI 0)) [],.br false,.at 0,.keep [1,2,3,5],.sel [0,1]] (.loop (Hu r q1) fun q2=> .intro (Sx (r.msgs[q1.i]?)) fun x1=> .seg [.el .shp x1] (.br (.seg [.call [] (.v (vI 0)) [],.br false,.as 36 (.v (vI (((q2.k:Nat):Int)+1))),.at 0,.keep [1,2,3,5],.sel [0,1]] (.next)) (.seg [.as 17 (.v (vI (((q1.i:Nat):Int)+1))),.at 0,.keep [1,2,3],.sel [0,1]] (.next))))) (.leaf () []))),Bc (decide (6<z6)) (Lf (.v (.agg [zi 1,zi 6,zi (-1)])) z4 [] []) (z5.Has [(1,.v (vP 0)),(2,.v (vP 1)),(3,.v (vI 0))] z3∧∀q1,z5.inv q1→(let z2:=((q1.i:Nat):Int);Bc (decide (z2<z6)) ((Fp 229 [.agg [.seq .shp r.msgs],vI z2] [] (.v (vI 0)) [])∧((!decide (0=0))=false)∧(Hu r q1).Has [(1,.v (vP 0)),(2,.v (vP 1)),(3,.v (vI z2)),(5,.v (vI 0))] z3∧∀q2,(Hu r q1).inv q2→(let z1:=((q2.k:Nat):Int);El (r.msgs[q1.i]?) fun x1=>((r.msgs[q1.i]? =some x1)∧((0:Int)≤z2)∧Bc (decide (z1<((List.length x1.fields:Nat):Int))) ((Fp 230 [.agg [.seq .shp r.msgs],vI z2,vI z1] [] (.v (vI 0)) [])∧((!decide (0=0))=false)∧(wI (z1+1))∧(Hu r q1).Nxt q2 [(1,.v (vP 0)),(2,.v (vP 1)),(3,.v (vI z2)),(5,.v (vI (z1+1)))] z3) ((wI (z2+1))∧z5.Nxt q1 [(1,.v (vP 0)),(2,.v (vP 1)),(3,.v (vI (z2+1)))] z3)))) (Lf z4 z4 [] []))))) Q4 ?_
 refine dsp (fun h1 p1=>?_) fun h1 p1=>?_
 refine⟨(congrArg S.v (congrArg V.agg (Ac (congrArg (C.int .i64) ?_) (Ac (congrArg (C.int .i64) ?_) (Ac (congrArg (C.int .i64) ?_) rfl))))),rfl⟩
 rotate_left 3
 refine⟨Cm (j:=(⟨0⟩:L5)) Q9 rfl (by dsimp only[P3];omega),fun (q1:L5) hq_q1=>?_⟩
 have hi_q1:q1.i≤List.length r.msgs:=hq_q1
 have v1:=hi_q1
 refine dsp (fun h2 p2=>?_) fun h2 p2=>?_
 refine⟨(Ahm r _ Q2 Q2),Q18,Cm (j:=(⟨0⟩:P4)) Q9 rfl (by dsimp only[Hu];omega),fun (q2:P4) hq_q2=>?_⟩
 have hi_q2:q2.k≤5:=hq_q2
 have w1:=hi_q2
 refine⟨(Bo (l:=r.msgs) (i:=q1.i) Q2),fun x1 hx1=>?_⟩
 have hfl:=(hp1.flds _ (List.mem_of_getElem? hx1)).len
 refine⟨hx1,Q2,dsp (fun h3 p3=>?_) fun h3 p3=>?_⟩
 exact⟨(Abs r _ _ Q2 Q2 (fun m hm=>by (try simp only[Int.toNat_natCast] at hm);rw[hx1] at hm;cases hm;omega)),Q18,(Af Q2 Q2),Be (j:=(⟨q2.k+1⟩:P4)) Q9 rfl (by dsimp only[Hu];omega) (by dsimp only[Hu];omega)⟩
 exact⟨(Af Q2 Q2),Be (j:=(⟨q1.i+1⟩:L5)) Q9 rfl (by dsimp only[P3];omega) (by dsimp only[P3];omega)⟩
 exact⟨rfl,rfl⟩
 all_goals first|(rfl)|((exfalso;simp_all[Cf,Ai];omega))|((exfalso;simp_all[Cf,Ai];done))|((exfalso;omega))|(grind)
structure Pf where
 n:Int
 i:Nat
def L6 (r:Raw) (id:Int):Fam:=⟨Pf,fun q1=>[(1,.v (vI id)),(2,.v (vP 0)),(5,.v (vI q1.n)),(6,.v (vI ((q1.i:Nat):Int)))],fun _=>[.cells [.seq .shp r.msgs]],fun q1=>q1.i≤List.length r.msgs∧q1.n=((Vx (List.take q1.i r.msgs) id:Nat):Int),fun q1=>List.length r.msgs-q1.i⟩
theorem Amc (r:Raw) (id:Int) (hp1:List.length (r).msgs≤1000):Fun Tryz.prog 219 [.agg [.seq .shp r.msgs],vI id] [] (.v (vI ((Vx (r).msgs id:Nat):Int))) []:=by
 have hN:Bn=274877906944:=rfl
 refine Av Tryz.func219 Q4 Q4 (w:=let z3:=L6 r id;let z4:List Blk:=[.cells [.seq .shp r.msgs]];(.seg [.at 0,.keep [1,2,5,6],.sel [0]] (.loop z3 fun q1=>let z1:S:= .v (vI (((q1.i:Nat):Int)+1));.br (.intro (Sx (r.msgs[q1.i]?)) fun x1=> .seg [.el .shp x1] (.br (.seg [.as 23 (.v (vI (q1.n+1))),.as 13 z1,.at 0,.keep [1,2,5,6],.sel [0]] (.next)) (.seg [.as 13 z1,.at 0,.keep [1,2,5,6],.sel [0]] (.next)))) (.leaf () [])),z3.Has [(1,.v (vI id)),(2,.v (vP 0)),(5,.v (vI 0)),(6,.v (vI 0))] z4∧∀q1,z3.inv q1→(let z2:=((q1.i:Nat):Int);Bc (decide (z2<((List.length r.msgs:Nat):Int))) (El (r.msgs[q1.i]?) fun x1=>((r.msgs[q1.i]? =some x1)∧((0:Int)≤z2)∧Bc (decide (x1.id<id)) ((wI (q1.n+1))∧(wI (z2+1))∧z3.Nxt q1 [(1,.v (vI id)),(2,.v (vP 0)),(5,.v (vI (q1.n+1))),(6,.v (vI (z2+1)))] z4) ((wI (z2+1))∧z3.Nxt q1 [(1,.v (vI id)),(2,.v (vP 0)),(5,.v (vI q1.n)),(6,.v (vI (z2+1)))] z4))) (Lf (.v (vI q1.n)) (.v (vI ((Vx (r).msgs id:Nat):Int))) [] [])))) Q4 ?_
 refine⟨Cm (j:=(⟨0,0⟩:Pf)) Q9 rfl (by dsimp only[L6];exact⟨by omega,by simp[Vx]⟩),fun (q1:Pf) hq_q1=>?_⟩
 have hi_q1:q1.i≤List.length r.msgs∧q1.n=((Vx (List.take q1.i r.msgs) id:Nat):Int):=hq_q1
 obtain ⟨v1,v2⟩:=hi_q1
 refine dsp (fun h1 p1=>?_) fun h1 p1=>?_
 refine⟨(Bo (l:=r.msgs) (i:=q1.i) Q2),fun x1 hx1=>?_⟩
 have hrk:=Ani (List.take q1.i r.msgs) id
 have hrl:(List.take q1.i r.msgs).length≤q1.i:=by rw[List.length_take];omega
 refine⟨hx1,Q2,dsp (fun h2 p2=>?_) fun h2 p2=>?_⟩
 exact⟨(Af Q2 Q2),(Af Q2 Q2),Be (j:=(⟨q1.n+1,q1.i+1⟩:Pf)) Q9 rfl (by dsimp only[L6];exact⟨by omega,by rw[Aad hx1];split<;>omega⟩) (by dsimp only[L6];omega)⟩
 exact⟨(Af Q2 Q2),Be (j:=(⟨q1.n,q1.i+1⟩:Pf)) Q9 rfl (by dsimp only[L6];exact⟨by omega,by rw[Aad hx1];split<;>omega⟩) (by dsimp only[L6];omega)⟩
 have hin:List.take q1.i r.msgs=r.msgs:=List.take_of_length_le (by omega)
 rw[hin] at v2
 refine⟨(sI ?_),rfl⟩
 rotate_left
 all_goals first|((rw[v2];done))|((exact v2))|(omega)
theorem Ahn {l:List Fld} {f g:Fld} {k:Nat} (h:g∈(([]++List.take k l)++[f])++List.drop k l):g=f∨g∈l:=by
 simp only[List.nil_append,List.mem_append,List.mem_singleton] at h
 rcases h with (h|h)|h
 ·exact .inr (List.mem_of_mem_take h)
 ·exact .inl h
 ·exact .inr (List.mem_of_mem_drop h)
structure Vy where
 o:List Fld
def Abt (l:List Fld) (f:Fld) (o:Vy):Prop:=Fun Tryz.prog 220 [.c (.seq .fld l),.agg (Fv f)] [] (.v (vO 0)) [.lst .fld o.o]
def Vz (l:List Fld) (f:Fld) (o:Vy):Prop:=((List.length o.o=List.length l+1)∧(∀g∈o.o,g=f∨g∈l))∧Abt l f o
structure Uo where
 k:Nat
def Up (l:List Fld) (f:Fld):Fam:=⟨Uo,fun q1=>[(0,.v (.c (.seq .fld l))),(3,.v (vP 0)),(5,.v (vI ((q1.k:Nat):Int)))],fun _=>[.cells (Fv f)],fun q1=>q1.k≤List.length l,fun q1=>List.length l-q1.k⟩
theorem Ao3 (l:List Fld) (f:Fld) (hp1:List.length l≤1000): ∃o:Vy,Vz l f o:=by
 have hN:Bn=274877906944:=rfl
 refine B4 Tryz.func220 Q4 Q4 (w:=let z7:=((List.length l:Nat):Int);let z8:=Up l f;(.seg [.at 0,.keep [0,3,5],.sel [0]] (.loop z8 fun q1=>let z1:=(([]:List Fld)++(List.take q1.k l))++[f];.case (decide (((q1.k:Nat):Int)<z7)) (.intro (Sx (l[q1.k]?)) fun x1=> .seg [.ord (os 14 []) [],.br true,.el .fld x1] (.br (.seg [.as 22 (.v (vI (((q1.k:Nat):Int)+1))),.at 0,.keep [0,3,5],.sel [0]] (.next)) (.seg [.ty .fld,.ty .fld,.ord [(0,true),(1,true),(4,true),(5,true),(6,true),(2,false),(3,false),(7,false),(8,true)] [2],.ty .fld,.ty .fld,.ty .fld] (.leaf (⟨z1++(List.drop q1.k l)⟩:Vy) [5])))) (.seg [.ord (os 14 []) [],.br false,.ty .fld,.ty .fld,.ord [(0,true),(1,true),(4,true),(5,true),(6,true),(2,false),(3,false),(7,false),(8,true)] [2],.ty .fld,.ty .fld,.ty .fld] (.leaf (⟨z1++(List.drop q1.k l)⟩:Vy) [5]))),z8.Has [(0,.v (.c (.seq .fld l))),(3,.v (vP 0)),(5,.v (vI 0))] [.cells (Fv f)]∧∀q1,z8.inv q1→(let z3:=((q1.k:Nat):Int);let z4:=([]:List Fld)++(List.take q1.k l);let z2:=(z4++[f])++(List.drop q1.k l);let z5:=List.length ([]:List Fld)+List.length (List.take q1.k l)≤Bn;let z6:=List.length (z4++[f])+List.length (List.drop q1.k l)≤Bn;Bc (decide (z3<z7)) (El (l[q1.k]?) fun x1=>(((decide (z3<z7))=true)∧(l[q1.k]? =some x1)∧((0:Int)≤z3)∧(l[q1.k]? =some x1)∧((0:Int)≤z3)∧Bc (decide (x1.number<f.number)) ((wI (z3+1))∧z8.Nxt q1 [(0,.v (.c (.seq .fld l))),(3,.v (vP 0)),(5,.v (vI (z3+1)))] [.cells (Fv f)]) ((z3≤z7)∧((0:Int)≤z3)∧z5∧(z3≤z7)∧((0:Int)≤z3)∧(z3≤z7)∧((0:Int)≤z3)∧(List.length z4+List.length [f]≤Bn)∧z6∧((List.length z2=List.length l+1)∧(∀g∈z2,g=f∨g∈l))∧Lf (.v (vO 0)) (.v (vO 0)) [.lst .fld z2] [.lst .fld z2]))) (((decide (z3<z7))=false)∧(z3≤z7)∧((0:Int)≤z3)∧z5∧(z3≤z7)∧((0:Int)≤z3)∧(z3≤z7)∧((0:Int)≤z3)∧(List.length z4+List.length [f]≤Bn)∧z6∧((List.length z2=List.length l+1)∧(∀g∈z2,g=f∨g∈l))∧Lf (.v (vO 0)) (.v (vO 0)) [.lst .fld z2] [.lst .fld z2])))) Q4 ?_
 refine⟨Cm (j:=(⟨0⟩:Uo)) Q9 rfl (by dsimp only[Up];omega),fun (q1:Uo) hq_q1=>?_⟩
 have hi_q1:q1.k≤List.length l:=hq_q1
 have v1:=hi_q1
 refine dsp (fun h1 p1=>?_) fun h1 p1=>?_
 refine⟨(Bo (l:=l) (i:=q1.k) Q2),fun x1 hx1=>?_⟩
 refine⟨h1,hx1,Q2,hx1,Q2,dsp (fun h2 p2=>?_) fun h2 p2=>?_⟩
 exact⟨(Af Q2 Q2),Be (j:=(⟨q1.k+1⟩:Uo)) Q9 rfl (by dsimp only[Up];omega) (by dsimp only[Up];omega)⟩
 exact⟨Q2,Q2,(by simp only[List.length_take,List.length_cons,List.length_nil];omega),Q2,Q2,Q2,Q2,(by simp;omega),(by simp;omega),⟨(by simp;omega),(fun g hg=>Ahn hg)⟩,rfl,rfl⟩
 exact⟨h1,Q2,Q2,(by simp only[List.length_take,List.length_cons,List.length_nil];omega),Q2,Q2,Q2,Q2,(by simp;omega),(by simp;omega),⟨(by simp;omega),(fun g hg=>Ahn hg)⟩,rfl,rfl⟩
def Ap9 (n:Nat) (f:Fld):Prop:=1≤f.kind∧f.kind≤8∧(f.kind=8→0≤f.msg∧f.msg<(n:Int))∧f.number≠44
theorem Ajw {n m:Nat} {e:Shp} (h:e∈List.replicate m (⟨0,[]⟩:Shp)):Amb n e:=by
 rw[List.eq_of_mem_replicate h]
 exact⟨⟨by simp,by decide⟩,fun f hf=>by cases hf⟩
theorem Ajx {n k:Nat} {l:List Shp} {x e:Shp} (h: ∀e∈l,Amb n e) (hx:Amb n x) (he:e∈l.set k x):Amb n e:=by
 rcases List.mem_or_eq_of_mem_set he with he|rfl
 ·exact h e he
 ·exact hx
theorem Gg {l:List Shp} {i:Nat} {x:Shp} (h:l[i]? =some x):l.set i ⟨x.id,x.fields⟩=l:=by
 apply List.ext_getElem?
 intro j
 rw[List.getElem?_set]
 split
 ·rename_i hij
  subst hij
  rw[if_pos (List.getElem?_eq_some_iff.1 h).1,h]
 ·rfl
theorem Aho {l:List Shp} {i:Nat} {x:Int} (hl:Gv l=List.take i [5,1,99]) (hi:i<3) (hx:([5,1,99,7]:List Int)[i]? =some x):Gv (l++[⟨x,[]⟩])=List.take (i+1) [5,1,99]:=by
 have:Gv (l++[⟨x,[]⟩])=Gv l++[x]:=by simp[Gv]
 rw[this,hl]
 have h3:i=0∨i=1∨i=2:=by omega
 rcases h3 with rfl|rfl|rfl<;>simp at hx<;>subst hx<;>rfl
theorem Ahp {n:Nat} {l:List Shp} (h1:l.length=n) (h2:1≤n∧n≤3) (h3:Gv l=List.take n [5,1,99]) (h4: ∀m∈l,m.fields=[]):RawK n l:=
 ⟨h1,h2,h3,fun m hm=>by rw[h4 m hm];exact⟨by simp,by simp[Aid],fun f hf=>by cases hf⟩⟩
theorem Ank {l:List Shp} {i j:Nat} {x m:Shp} (h: ∀j m,i<j→l[j]? =some m→m.fields=[]) (hj:i<j) (hm:(l.set i x)[j]? =some m):m.fields=[]:=by
 rw[List.getElem?_set_ne (by omega)] at hm
 exact h j m hj hm
structure M5 where
 l:List Shp
def V0 (r:Raw) (o:M5):Prop:=Fun Tryz.prog 196 [.agg [.seq .shp r.msgs]] [] (.tup [.agg [.own 0],.agg [.int .i64 0,.int .i64 0,.int .i64 0]]) [.tree o.l]
def Ra (r:Raw) (o:M5):Prop:=((SchG o.l))∧V0 r o
structure Ja where
 shapes:List Shp
 i:Nat
def Lb (r:Raw):Fam:=⟨Ja,fun q1=>[(1,.v (vP 0)),(2,.v (vP 1)),(3,.v (vP 2)),(4,.v (vP 3)),(5,.v (vP 4)),(6,.v (vI ((q1.i:Nat):Int)))],fun q1=>[.cells [.seq .shp r.msgs],.cells [.nil],.cells [.int .i64 0,.int .i64 0,.int .i64 0],.cells [.int .i64 0,.int .i64 0,.int .i64 0],.cells [.own 5],.tree q1.shapes],fun q1=>q1.i≤List.length r.msgs∧List.length q1.shapes=List.length r.msgs∧∀e∈q1.shapes,Amb (List.length r.msgs) e,fun q1=>List.length r.msgs-q1.i⟩
structure Jb where
 x:Shp
 k:Nat
def Fo (r:Raw) (q1:Ja) (x1:Shp):Fam:=⟨Jb,fun q2=>[(1,.v (vP 0)),(2,.v (vP 1)),(3,.v (vP 2)),(4,.v (vP 3)),(5,.v (vP 4)),(6,.v (vI ((q1.i:Nat):Int))),(7,.v (vP 6)),(8,.v (vI ((q2.k:Nat):Int)))],fun q2=>[.cells [.seq .shp r.msgs],.cells [.nil],.cells [.int .i64 0,.int .i64 0,.int .i64 0],.cells [.int .i64 0,.int .i64 0,.int .i64 0],.cells [.own 5],.tree q1.shapes,.cells [.int .i64 q2.x.id,.own 7],.lst .fld q2.x.fields],fun q2=>q2.k≤List.length x1.fields∧(q2.x).id=x1.id∧List.length (q2.x).fields=q2.k∧∀f∈(q2.x).fields,Ap9 (List.length r.msgs) f,fun q2=>List.length x1.fields-q2.k⟩
theorem Ahq (r:Raw) (hp1:RawK (List.length (r).msgs) (r).msgs): ∃o:M5,Ra r o:=by
 have hN:Bn=274877906944:=rfl
 have hpos:=hp1.pos
 refine B4 Tryz.func196 Q4 Q4 (w:=let zi:Int→C:= .int .i64;let z11:=((List.length r.msgs:Nat):Int);let z12:S:= .tup [.agg [.own 0],.agg [zi 0,zi 0,zi 0]];let z13:S:= .v (.agg [zi 0,zi 0,zi 0]);let z14:=Lb r;(.seg [.call [] z13 [],.br false,.tyT,.at 0,.keep [1,2,3,4,5,6],.sel [0,1,2,3,5,4]] (.loop z14 fun q1=> .br (.intro (Sx (r.msgs[q1.i]?)) fun x1=> .seg [.el .shp x1,.at 0,.mk 6 1 .fld,.keep [1,2,3,4,5,6,7,8],.sel [0,1,2,3,4,5,6,7]] (.loop (Fo r q1 x1) fun q2=>let z5:S:= .v (vI (((q2.k:Nat):Int)+1));.seg [.el .shp x1] (.br (.seg [.el .shp x1] (.intro (Sx (x1.fields[q2.k]?)) fun x2=>let z1:=((Vx (r).msgs x2.msg:Nat):Int);.seg [.el .fld x2] (.br (.seg [.call [] (.v (vI z1)) []] (.intro (Vz q2.x.fields (⟨x2.number,x2.kind,x2.rep,x2.packed,z1⟩:Fld)) fun o1=> .seg [.call [] (.v (vO 0)) [.lst .fld o1.o],.as 47 z5,.at 0,.keep [1,2,3,4,5,6,7,8],.sel [0,1,2,3,4,5,6,10]] (.next))) (.intro (Vz q2.x.fields (⟨x2.number,x2.kind,x2.rep,x2.packed,(-1)⟩:Fld)) fun o1=> .seg [.call [] (.v (vO 0)) [.lst .fld o1.o],.as 47 z5,.at 0,.keep [1,2,3,4,5,6,7,8],.sel [0,1,2,3,4,5,6,10]] (.next))))) (.intro (Sx (q1.shapes[Vx (r).msgs q2.x.id]?)) fun x2=> .seg [.ord [(0,true),(1,true),(2,true),(3,true),(4,true),(6,true),(5,false),(7,true),(8,false)] [],.call [] (.v (vI ((Vx (r).msgs q2.x.id:Nat):Int))) [],.el .shp x2,.as 29 (.v (vI (((q1.i:Nat):Int)+1))),.at 0,.keep [1,2,3,4,5,6],.sel [0,1,2,3,4,5]] (.next))))) (.seg [.ord (os 4 [2,3]) [1]] (.leaf (⟨q1.shapes⟩:M5) [5]))),(Fp 218 [.agg [.seq .shp r.msgs]] [] z13 [])∧((!decide (0=0))=false)∧(z11≤9223372036854775807)∧(((32:Nat):Int)*z11≤281474976710656)∧(z11≤z11)∧((0:Int)≤z11)∧z14.Has [(1,.v (vP 0)),(2,.v (vP 1)),(3,.v (vP 2)),(4,.v (vP 3)),(5,.v (vP 4)),(6,.v (vI 0))] [.cells [.seq .shp r.msgs],.cells [.nil],.cells [zi 0,zi 0,zi 0],.cells [zi 0,zi 0,zi 0],.cells [.own 5],.tree (List.replicate (List.length r.msgs) (⟨0,([]:List Fld)⟩:Shp))]∧∀q1,z14.inv q1→(let z10:=((q1.i:Nat):Int);Bc (decide (z10<z11)) (El (r.msgs[q1.i]?) fun x1=>(let z8:=Fo r q1 x1;let z9:=r.msgs[q1.i]? =some x1;z9∧((0:Int)≤z10)∧z8.Has [(1,.v (vP 0)),(2,.v (vP 1)),(3,.v (vP 2)),(4,.v (vP 3)),(5,.v (vP 4)),(6,.v (vI z10)),(7,.v (vP 6)),(8,.v (vI 0))] [.cells [.seq .shp r.msgs],.cells [.nil],.cells [zi 0,zi 0,zi 0],.cells [zi 0,zi 0,zi 0],.cells [.own 5],.tree q1.shapes,.cells [zi x1.id,.own 7],.lst .fld ([]:List Fld)]∧∀q2,z8.inv q2→(let z6:=((q2.k:Nat):Int);let z7:=((Vx (r).msgs q2.x.id:Nat):Int);z9∧((0:Int)≤z10)∧Bc (decide (z6<((List.length x1.fields:Nat):Int))) (z9∧((0:Int)≤z10)∧El (x1.fields[q2.k]?) fun x2=>(let z3:=(⟨x2.number,x2.kind,x2.rep,x2.packed,(-1)⟩:Fld);let z4:=((Vx (r).msgs x2.msg:Nat):Int);let z2:=(⟨x2.number,x2.kind,x2.rep,x2.packed,z4⟩:Fld);(x1.fields[q2.k]? =some x2)∧((0:Int)≤z6)∧Bc (decide (x2.kind=8)) ((Fp 219 [.agg [.seq .shp r.msgs],vI x2.msg] [] (.v (vI z4)) [])∧In (Vz q2.x.fields z2) fun o1=>((Abt q2.x.fields z2 o1)∧(wI (z6+1))∧z8.Nxt q2 [(1,.v (vP 0)),(2,.v (vP 1)),(3,.v (vP 2)),(4,.v (vP 3)),(5,.v (vP 4)),(6,.v (vI z10)),(7,.v (vP 6)),(8,.v (vI (z6+1)))] [.cells [.seq .shp r.msgs],.cells [.nil],.cells [zi 0,zi 0,zi 0],.cells [zi 0,zi 0,zi 0],.cells [.own 5],.tree q1.shapes,.cells [zi q2.x.id,.own 7],.lst .fld o1.o])) (In (Vz q2.x.fields z3) fun o1=>((Abt q2.x.fields z3 o1)∧(wI (z6+1))∧z8.Nxt q2 [(1,.v (vP 0)),(2,.v (vP 1)),(3,.v (vP 2)),(4,.v (vP 3)),(5,.v (vP 4)),(6,.v (vI z10)),(7,.v (vP 6)),(8,.v (vI (z6+1)))] [.cells [.seq .shp r.msgs],.cells [.nil],.cells [zi 0,zi 0,zi 0],.cells [zi 0,zi 0,zi 0],.cells [.own 5],.tree q1.shapes,.cells [zi q2.x.id,.own 7],.lst .fld o1.o])))) (El (q1.shapes[Vx (r).msgs q2.x.id]?) fun x2=>((Fp 219 [.agg [.seq .shp r.msgs],vI q2.x.id] [] (.v (vI z7)) [])∧(z7<((List.length q1.shapes:Nat):Int))∧((0:Int)≤z7)∧(q1.shapes[Vx (r).msgs q2.x.id]? =some x2)∧(wI (z10+1))∧z14.Nxt q1 [(1,.v (vP 0)),(2,.v (vP 1)),(3,.v (vP 2)),(4,.v (vP 3)),(5,.v (vP 4)),(6,.v (vI (z10+1)))] [.cells [.seq .shp r.msgs],.cells [.nil],.cells [zi 0,zi 0,zi 0],.cells [zi 0,zi 0,zi 0],.cells [.own 5],.tree (List.set q1.shapes (Vx (r).msgs q2.x.id) (⟨q2.x.id,q2.x.fields⟩:Shp))]))))) (((SchG q1.shapes))∧Lf z12 z12 [.tree q1.shapes] [.tree q1.shapes])))) Q4 ?_
 refine⟨(Anj r Q2),Q18,Q2,Q2,Q2,Q2,Cm (j:=(⟨List.replicate (List.length r.msgs) (⟨0,([]:List Fld)⟩:Shp),0⟩:Ja)) Q9 rfl (by dsimp only[Lb];exact⟨by omega,by simp,fun e he=>Ajw he⟩),fun (q1:Ja) hq_q1=>?_⟩
 have hi_q1:q1.i≤List.length r.msgs∧List.length q1.shapes=List.length r.msgs∧∀e∈q1.shapes,Amb (List.length r.msgs) e:=hq_q1
 obtain ⟨v1,v2,v3⟩:=hi_q1
 refine dsp (fun h1 p1=>?_) fun h1 p1=>?_
 refine⟨(Bo (l:=r.msgs) (i:=q1.i) Q2),fun x1 hx1=>?_⟩
 have hfg:=hp1.flds _ (List.mem_of_getElem? hx1)
 have hfl:=hfg.len
 have hmi:x1.id∈Gv r.msgs:=List.mem_map.2 ⟨_,List.mem_of_getElem? hx1,rfl⟩
 have hrl:=Ahk hmi
 have h55:=hp1.no55 hmi
 refine⟨hx1,Q2,Cm (j:=(⟨(⟨x1.id,([]:List Fld)⟩:Shp),0⟩:Jb)) Q9 Q9 (by dsimp only[Fo];exact⟨by omega,rfl,rfl,fun f hf=>by cases hf⟩),fun (q2:Jb) hq_q2=>?_⟩
 have hi_q2:q2.k≤List.length x1.fields∧(q2.x).id=x1.id∧List.length (q2.x).fields=q2.k∧∀f∈(q2.x).fields,Ap9 (List.length r.msgs) f:=hq_q2
 obtain ⟨w1,w2,w3,w4⟩:=hi_q2
 refine⟨hx1,Q2,dsp (fun h2 p2=>?_) fun h2 p2=>?_⟩
 refine⟨hx1,Q2,(Bo (l:=x1.fields) (i:=q2.k) Q2),fun x2 hx2=>?_⟩
 have hg:=hfg.all _ (List.mem_of_getElem? hx2)
 have hgk:=hg.kd
 refine⟨hx2,Q2,dsp (fun h3 p3=>?_) fun h3 p3=>?_⟩
 have hir:=Ahk (hg.ref (by omega))
 refine⟨(Amc r _ Q2),(Ao3 q2.x.fields (⟨x2.number,x2.kind,x2.rep,x2.packed,((Vx (r).msgs x2.msg:Nat):Int)⟩:Fld) Q2),fun o1 ho_o1=>?_⟩
 obtain ⟨⟨hp_o1_0,hp_o1_1⟩,hf_o1⟩:=ho_o1
 exact⟨hf_o1,(Af Q2 Q2),Be (j:=(⟨(⟨q2.x.id,o1.o⟩:Shp),q2.k+1⟩:Jb)) Q9 Q9 (by dsimp only[Fo];exact⟨by omega,w2,by omega,fun f hf=>by
          rcases hp_o1_1 f hf with rfl|hf
          ·exact⟨by dsimp only;omega,by dsimp only;omega,fun h8=>by dsimp only at h8 ⊢;omega,by dsimp only;exact hg.n44⟩
          ·exact w4 f hf⟩) (by dsimp only[Fo];omega)⟩
 refine⟨(Ao3 q2.x.fields (⟨x2.number,x2.kind,x2.rep,x2.packed,(-1)⟩:Fld) Q2),fun o1 ho_o1=>?_⟩
 obtain ⟨⟨hp_o1_0,hp_o1_1⟩,hf_o1⟩:=ho_o1
 exact⟨hf_o1,(Af Q2 Q2),Be (j:=(⟨(⟨q2.x.id,o1.o⟩:Shp),q2.k+1⟩:Jb)) Q9 Q9 (by dsimp only[Fo];exact⟨by omega,w2,by omega,fun f hf=>by
          rcases hp_o1_1 f hf with rfl|hf
          ·exact⟨by dsimp only;omega,by dsimp only;omega,fun h8=>by dsimp only at h8 ⊢;omega,by dsimp only;exact hg.n44⟩
          ·exact w4 f hf⟩) (by dsimp only[Fo];omega)⟩
 have hxg:Amb (List.length r.msgs) q2.x:=⟨⟨by omega,by rw[w2];exact h55⟩,w4⟩
 have hrx:Vx r.msgs q2.x.id<List.length r.msgs:=by rw[w2];exact hrl
 refine⟨(Bo (l:=q1.shapes) (i:=Vx (r).msgs q2.x.id) Q2),fun x2 hx2=>?_⟩
 exact⟨(Amc r _ Q2),Q2,Q2,hx2,(Af Q2 Q2),Be (j:=(⟨List.set q1.shapes (Vx (r).msgs q2.x.id) (⟨q2.x.id,q2.x.fields⟩:Shp),q1.i+1⟩:Ja)) Q9 rfl (by dsimp only[Lb];exact⟨by omega,by rw[List.length_set];exact v2,fun e he=>Ajx v3 hxg he⟩) (by dsimp only[Lb];omega)⟩
 have hsg:SchG q1.shapes:=⟨by omega,fun e he=>by rw[v2];exact v3 e he⟩
 exact⟨(hsg),rfl,rfl⟩
end Go.Proofs.YtphecbmdhbphgaaGreat.Ax
