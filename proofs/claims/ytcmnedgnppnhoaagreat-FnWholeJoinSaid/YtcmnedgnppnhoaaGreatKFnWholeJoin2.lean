/- The grammar: messages. Models: Fu inputs. Whole inputs: what is said of them. Readings of own, comparisons. Whole inputs. Draws of Fu inputs. Models: one reading beside another. Models: readings go on, are moved. Models: a framed message. -/
import Derived.Test.YtcmnedgnppnhoaaGreatKFnWholeJoin1
import Derived.Test.YtcmnedgnppnhoaaGreatKS2
import Derived.Test.YtcmnedgnppnhoaaGreatKS4
set_option linter.unusedSimpArgs false
set_option linter.unusedVariables false
namespace Go.Proofs.YtcmnedgnppnhoaaGreat.Ax
open Go.RowKit
structure Lx where
 r:Mr
def Ue (r:Mr) (shape:Int) (end_:Int) (deep:Int):Fam:=⟨Lx,fun q1=>[(0,.v (vP 0)),(1,.v (vI shape)),(2,.v (vI end_)),(3,.v (vI deep))],fun q1=>[.cells (B7 2 q1.r),.dead,.lst .ev q1.r.out],fun q1=>LInv (Dv (Gh (Int.toNat (r.plan.deep-deep))) shape end_) end_ r q1.r∧(q1.r).fail.kind=0,fun q1=>Gq q1.r⟩
theorem Ap9 (K:Nat) (hM:Aje K) (r:Mr) (shape:Int) (end_:Int) (deep:Int) (hp1:List.length (r).s≤1048576) (hp2:(r).at_≤((List.length (r).s:Nat):Int)) (hp3:(r).fail.kind=0) (hp4:((List.length (r).out:Nat):Int)+4*(((List.length (r).s:Nat):Int)-(r).at_)≤100000000) (hp5:(0:Int)≤(r).at_) (hp6: -1000000000≤end_∧end_≤9223372036854775807) (hp7:B5 (r).plan=true) (hp8:(1:Int)≤deep∧deep≤(r).plan.deep) (hp9:Int.toNat ((r).plan.deep-deep)≤K):Fun Tryz.prog 108 [vP 0,vI shape,vI end_,vI deep] [.cells (B7 1 r),.lst .ev r.out] (.v (vB (decide ((D8 (Int.toNat ((r).plan.deep-deep)) shape end_ r).fail.kind=0)))) [.cells (B7 2 (D8 (Int.toNat ((r).plan.deep-deep)) shape end_ r)),.dead,.lst .ev (D8 (Int.toNat ((r).plan.deep-deep)) shape end_ r).out]:=by
 have hN:Be=274877906944:=rfl
 have hpt:=By hp7
 refine Ar Tryz.func108 Q4 Q4 (w:=let z16:=D8 (Int.toNat ((r).plan.deep-deep)) shape end_ r;let z17:List Blk:=[.cells (B7 2 z16),.dead,.lst .ev z16.out];let z18:=vB (decide (z16.fail.kind=0));let z19:=Ue r shape end_ deep;let z21:=vB false;let z20:=(.v z21:S);(.seg [.at 0,.cut 0 6,.keep [0,1,2,3],.sel [0,1,2]] (.loop z19 fun q1=>let z4:=Ae q1.r end_;let z5:=An q1.r end_;let z2:=fieldAt z4.plan.shapes shape (Ba z5);let z1:=Bf (Gh (Int.toNat ((z4).plan.deep-deep))) z4 (z2.getD fld0) (z2.isSome) end_;let z3:=Ag z5;.br (.seg [.call [0,2] (.tup [.c (.int .u64 z5),vB (Bd q1.r end_)]) [.cells (B7 1 z4),.lst .ev z4.out]] (.br (.leaf () [0,1,2]) (.seg [.call [] (.tup [vI (Ba z5),vI z3,vB (Gv z5)]) [],.call [] (.tup [.agg (Ej (z2.getD fld0)),vB z2.isSome]) []] (.br (.seg [.call [0,2] (.v z21) [.cells (B7 1 (Bg z4 2 q1.r.at_)),.lst .ev (Bg z4 2 q1.r.at_).out]] (.leaf () [0,1,2])) (.seg [.call [] (.v (vB (C7 z3))) []] (.br (.seg [.call [0,2] (.v z21) [.cells (B7 1 (Bg z4 3 q1.r.at_)),.lst .ev (Bg z4 3 q1.r.at_).out]] (.leaf () [0,1,2])) (.br (.seg [.call [] (.v (vB (Cq (z2.getD fld0) z3))) []] (.br (.seg [.call [0,2] (.v z21) [.cells (B7 1 (Bg z4 4 q1.r.at_)),.lst .ev (Bg z4 4 q1.r.at_).out]] (.leaf () [0,1,2])) (.br (.seg [.call [0,2] (.v (vB (decide (z1.fail.kind=0)))) [.cells (B7 2 z1),.dead,.lst .ev z1.out]] (.br (.leaf () [0,1,4]) (.seg [.at 0,.keep [0,1,2,3],.sel [0,1,4]] (.next)))) (.seg [.call [0,2] (.tup [.c (.int .u64 (Eh z4 z3 end_)),vB (Dp z4 z3 end_)]) [.cells (B7 1 (Cp z4 z3 end_)),.lst .ev (Cp z4 z3 end_).out]] (.br (.leaf () [0,1,2]) (.seg [.br true,.ord (os 13 [7,8,9,12]) [2],.call [] (.v (.agg (cEv (D1 (z2.getD fld0) (Eh z4 z3 end_))))) [],.ty .ev,.ty .ev,.at 0,.keep [0,1,2,3],.sel [0,1,5]] (.next))))))) (.br (.seg [.call [0,2] (.v (vB (decide (z1.fail.kind=0)))) [.cells (B7 2 z1),.dead,.lst .ev z1.out]] (.br (.leaf () [0,1,4]) (.seg [.at 0,.keep [0,1,2,3],.sel [0,1,4]] (.next)))) (.seg [.call [0,2] (.tup [.c (.int .u64 (Eh z4 z3 end_)),vB (Dp z4 z3 end_)]) [.cells (B7 1 (Cp z4 z3 end_)),.lst .ev (Cp z4 z3 end_).out]] (.br (.leaf () [0,1,2]) (.seg [.br false,.at 0,.keep [0,1,2,3],.sel [0,1,2]] (.next)))))))))))) (.leaf () [0,1,2])),z19.Has [(0,.v (vP 0)),(1,.v (vI shape)),(2,.v (vI end_)),(3,.v (vI deep))] [.cells (B7 2 r),.dead,.lst .ev r.out]∧∀q1,z19.inv q1→(let z9:=Ae q1.r end_;let z11:=An q1.r end_;let z7:=fieldAt z9.plan.shapes shape (Ba z11);let z6:=Bf (Gh (Int.toNat ((z9).plan.deep-deep))) z9 (z7.getD fld0) (z7.isSome) end_;let z8:=Ag z11;let z10:=(!(decide (z6.fail.kind=0)))=false→z19.Nxt q1 [(0,.v (vP 0)),(1,.v (vI shape)),(2,.v (vI end_)),(3,.v (vI deep))] [.cells (B7 2 z6),.dead,.lst .ev z6.out];let z12:=Bg z9 2 q1.r.at_;let z13:=Bg z9 3 q1.r.at_;let z14:=Bg z9 4 q1.r.at_;let z15:=Bd q1.r end_;((decide (q1.r.at_<end_))=true→(Fun Tryz.prog 106 [vP 0,vI end_] [.cells (B7 1 q1.r),.lst .ev q1.r.out] (.tup [.c (.int .u64 z11),vB z15]) [.cells (B7 1 z9),.lst .ev z9.out])∧((!z15)=true→z20= .v z18∧([.cells (B7 2 z9),.dead,.lst .ev z9.out]:List Blk)=z17)∧((!z15)=false→(Fun Tryz.prog 160 [.c (.int .u64 z11)] [] (.tup [vI (Ba z11),vI z8,vB (Gv z11)]) [])∧(Fun Tryz.prog 140 [.agg [.seq .shp z9.plan.shapes],vI shape,vI (Ba z11)] [] (.tup [.agg (Ej (z7.getD fld0)),vB z7.isSome]) [])∧((!(Gv z11))=true→(Fun Tryz.prog 107 [vP 0,vI 2,vI q1.r.at_] [.cells (B7 1 z9),.lst .ev z9.out] (.v z21) [.cells (B7 1 z12),.lst .ev z12.out])∧z20= .v z18∧([.cells (B7 2 z12),.dead,.lst .ev z12.out]:List Blk)=z17)∧((!(Gv z11))=false→(Fun Tryz.prog 81 [vI z8] [] (.v (vB (C7 z8))) [])∧((!(C7 z8))=true→(Fun Tryz.prog 107 [vP 0,vI 3,vI q1.r.at_] [.cells (B7 1 z9),.lst .ev z9.out] (.v z21) [.cells (B7 1 z13),.lst .ev z13.out])∧z20= .v z18∧([.cells (B7 2 z13),.dead,.lst .ev z13.out]:List Blk)=z17)∧((!(C7 z8))=false→(z7.isSome=true→(Fun Tryz.prog 145 [.agg (Ej (z7.getD fld0)),vI z8] [] (.v (vB (Cq (z7.getD fld0) z8))) [])∧((!(Cq (z7.getD fld0) z8))=true→(Fun Tryz.prog 107 [vP 0,vI 4,vI q1.r.at_] [.cells (B7 1 z9),.lst .ev z9.out] (.v z21) [.cells (B7 1 z14),.lst .ev z14.out])∧z20= .v z18∧([.cells (B7 2 z14),.dead,.lst .ev z14.out]:List Blk)=z17)∧((!(Cq (z7.getD fld0) z8))=false→((decide (Ag z11=2))=true→(Fun Tryz.prog 161 [vP 0,.agg (Ej (z7.getD fld0)),vB z7.isSome,vI end_,vI deep] [.cells (B7 1 z9),.lst .ev z9.out] (.v (vB (decide (z6.fail.kind=0)))) [.cells (B7 2 z6),.dead,.lst .ev z6.out])∧((!(decide (z6.fail.kind=0)))=true→z20= .v z18∧([.cells (B7 2 z6),.dead,.lst .ev z6.out]:List Blk)=z17)∧z10)∧((decide (Ag z11=2))=false→(Fun Tryz.prog 162 [vP 0,vI z8,vI end_] [.cells (B7 1 z9),.lst .ev z9.out] (.tup [.c (.int .u64 (Eh z9 z8 end_)),vB (Dp z9 z8 end_)]) [.cells (B7 1 (Cp z9 z8 end_)),.lst .ev (Cp z9 z8 end_).out])∧((!(Dp z9 z8 end_))=true→z20= .v z18∧([.cells (B7 2 (Cp z9 z8 end_)),.dead,.lst .ev (Cp z9 z8 end_).out]:List Blk)=z17)∧((!(Dp z9 z8 end_))=false→(z7.isSome=true)∧(Fun Tryz.prog 163 [.agg (Ej (z7.getD fld0)),.c (.int .u64 (Eh z9 z8 end_))] [] (.v (.agg (cEv (D1 (z7.getD fld0) (Eh z9 z8 end_))))) [])∧(List.length (Cp z9 z8 end_).out+List.length [(D1 (z7.getD fld0) (Eh z9 z8 end_))]≤Be)∧z19.Nxt q1 [(0,.v (vP 0)),(1,.v (vI shape)),(2,.v (vI end_)),(3,.v (vI deep))] [.cells (B7 2 (Cp z9 z8 end_)),.dead,.lst .ev ((Cp z9 z8 end_).out++[(D1 (z7.getD fld0) (Eh z9 z8 end_))])]))))∧(z7.isSome=false→((decide (Ag z11=2))=true→(Fun Tryz.prog 161 [vP 0,.agg (Ej (z7.getD fld0)),vB z7.isSome,vI end_,vI deep] [.cells (B7 1 z9),.lst .ev z9.out] (.v (vB (decide (z6.fail.kind=0)))) [.cells (B7 2 z6),.dead,.lst .ev z6.out])∧((!(decide (z6.fail.kind=0)))=true→z20= .v z18∧([.cells (B7 2 z6),.dead,.lst .ev z6.out]:List Blk)=z17)∧z10)∧((decide (Ag z11=2))=false→(Fun Tryz.prog 162 [vP 0,vI z8,vI end_] [.cells (B7 1 z9),.lst .ev z9.out] (.tup [.c (.int .u64 (Eh z9 z8 end_)),vB (Dp z9 z8 end_)]) [.cells (B7 1 (Cp z9 z8 end_)),.lst .ev (Cp z9 z8 end_).out])∧((!(Dp z9 z8 end_))=true→z20= .v z18∧([.cells (B7 2 (Cp z9 z8 end_)),.dead,.lst .ev (Cp z9 z8 end_).out]:List Blk)=z17)∧((!(Dp z9 z8 end_))=false→(z7.isSome=false)∧z19.Nxt q1 [(0,.v (vP 0)),(1,.v (vI shape)),(2,.v (vI end_)),(3,.v (vI deep))] [.cells (B7 2 (Cp z9 z8 end_)),.dead,.lst .ev (Cp z9 z8 end_).out])))))))∧((decide (q1.r.at_<end_))=false→(.v (vB true):S)= .v z18∧([.cells (B7 2 q1.r),.dead,.lst .ev q1.r.out]:List Blk)=z17)))) Q4 ?_
 refine⟨Bs (j:=(⟨r⟩:Lx)) rfl rfl (by dsimp only[Ue];exact⟨LInv.refl hp2,hp3⟩),fun (q1:Lx) hq_q1=>?_⟩
 have hi_q1:LInv (Dv (Gh (Int.toNat (r.plan.deep-deep))) shape end_) end_ r q1.r∧(q1.r).fail.kind=0:=hq_q1
 have hfl:=hi_q1.2
 have hat:=hi_q1.1.at_ hfl
 have hrm:=hi_q1.1.room hfl
 obtain ⟨hv,hv2,hv3⟩:=Eo (r:=q1.r) (e:=end_) hat.2
 have hvk:=C1 (r:=q1.r) (e:=end_) hfl
 have hu:=Gs q1.r end_
 have hvs:=congrArg List.length hv.1.s
 have hvo:=congrArg List.length hv3
 have hvp:=hv.1.plan
 have hpl:=hvp.trans hrm.2.1
 have hsk:Dt (Ae q1.r end_).plan.shapes=true:=by rw[hpl];exact hpt.2.1
 have htw:=Acm (An q1.r end_)
 have hkn:=Ya (s:=shape) (n:=Ba (An q1.r end_)) hsk
 have hff:=S9 (s:=shape) (n:=Ba (An q1.r end_)) hsk
 refine dsp (fun h1 p1=>?_) fun h1 p1=>?_
 refine⟨(R9 q1.r _ Q2),fun h2=>have q2:=Ap h2;?_,fun h2=>have q2:=Ao h2;?_⟩
 have hok:=q2
 refine have hm1:D8 (Int.toNat ((r).plan.deep-deep)) shape end_ r=(Ae q1.r end_):=?_;?_
 rotate_left
 refine⟨(sB ?_),Q5⟩
 rotate_left
 have hok:=q2
 have hk:(Ae q1.r end_).fail.kind=0:=by rw[hvk] at hok;simpa using hok
 have ha:=hv.1.at_ hk
 have hb:=hv.2 hk
 have h2:=hv2 hok
 have hvl:=Ei (r:=Ae q1.r end_) (w:=Ag (An q1.r end_)) (e:=end_) hk
 have hvu:=Aa2 (Ae q1.r end_) (Ag (An q1.r end_)) end_
 have hvq:=congrArg List.length (T9 (r:=Ae q1.r end_) (w:=Ag (An q1.r end_)) (e:=end_) (by omega)).2
 refine⟨(Ah2 _ Q2),(Tn (Ae q1.r end_).plan.shapes _ _ Q77 (by rw[hpl];exact Di hpt.2.1)),fun h3=>have q3:=Ap h3;?_,fun h3=>have q3:=Ao h3;?_⟩
 refine⟨(Hm (Ae q1.r end_) _ _),?_⟩
 refine have hm1:D8 (Int.toNat ((r).plan.deep-deep)) shape end_ r=(Bg (Ae q1.r end_) 2 q1.r.at_):=?_;?_
 rotate_left
 refine⟨(sB ?_),Q5⟩
 rotate_left
 refine⟨(Aaj _),fun h4=>have q4:=Ap h4;?_,fun h4=>have q4:=Ao h4;?_⟩
 refine⟨(Hm (Ae q1.r end_) _ _),?_⟩
 refine have hm1:D8 (Int.toNat ((r).plan.deep-deep)) shape end_ r=(Bg (Ae q1.r end_) 3 q1.r.at_):=?_;?_
 rotate_left
 refine⟨(sB ?_),Q5⟩
 rotate_left
 refine⟨fun h5=>?_,fun h5=>?_⟩
 refine⟨(J2 ((fieldAt (Ae q1.r end_).plan.shapes shape (Ba (An q1.r end_))).getD fld0) _ Q2),fun h6=>have q6:=Ap h6;?_,fun h6=>have q6:=Ao h6;?_⟩
 refine⟨(Hm (Ae q1.r end_) _ _),?_⟩
 refine have hm1:D8 (Int.toNat ((r).plan.deep-deep)) shape end_ r=(Bg (Ae q1.r end_) 4 q1.r.at_):=?_;?_
 rotate_left
 refine⟨(sB ?_),Q5⟩
 rotate_left
 refine dsp (fun h7 p7=>?_) fun h7 p7=>?_
 refine⟨(Ano K hM (Ae q1.r end_) ((fieldAt (Ae q1.r end_).plan.shapes shape (Ba (An q1.r end_))).getD fld0) _ _ _ Q2 Q2 (hk) Q2 Q2 Q2 (by rw[hpl];exact hp7) Q77 (by grind) (by grind) Q77),fun h8=>have q8:=Ap h8;have p8:=of_decide_eq_false q8;?_,fun h8=>have q8:=Ao h8;have p8:=of_decide_eq_true q8;?_⟩
 refine have hm1:D8 (Int.toNat ((r).plan.deep-deep)) shape end_ r=(Bf (Gh (Int.toNat (((Ae q1.r end_)).plan.deep-deep))) (Ae q1.r end_) ((fieldAt (Ae q1.r end_).plan.shapes shape (Ba (An q1.r end_))).getD fld0) ((fieldAt (Ae q1.r end_).plan.shapes shape (Ba (An q1.r end_))).isSome) end_):=?_;?_
 rotate_left
 refine⟨(sB ?_),Q5⟩
 rotate_left
 exact Bc (j:=(⟨(Bf (Gh (Int.toNat (((Ae q1.r end_)).plan.deep-deep))) (Ae q1.r end_) ((fieldAt (Ae q1.r end_).plan.shapes shape (Ba (An q1.r end_))).getD fld0) ((fieldAt (Ae q1.r end_).plan.shapes shape (Ba (An q1.r end_))).isSome) end_)⟩:Lx)) rfl rfl Q44 Q68
 refine⟨(Aow (Ae q1.r end_) _ _ Q2 Q2 Q2),fun h8=>have q8:=Ap h8;?_,fun h8=>have q8:=Ao h8;?_⟩
 refine have hm1:D8 (Int.toNat ((r).plan.deep-deep)) shape end_ r=(Cp (Ae q1.r end_) (Ag (An q1.r end_)) end_):=?_;?_
 rotate_left
 refine⟨(sB ?_),Q5⟩
 rotate_left
 exact⟨h5,(Rs ((fieldAt (Ae q1.r end_).plan.shapes shape (Ba (An q1.r end_))).getD fld0) _ Q2),Q6,Bc (j:=(⟨(⟨(Cp (Ae q1.r end_) (Ag (An q1.r end_)) end_).plan,(Cp (Ae q1.r end_) (Ag (An q1.r end_)) end_).s,(Cp (Ae q1.r end_) (Ag (An q1.r end_)) end_).at_,(Cp (Ae q1.r end_) (Ag (An q1.r end_)) end_).out++[(D1 ((fieldAt (Ae q1.r end_).plan.shapes shape (Ba (An q1.r end_))).getD fld0) (Eh (Ae q1.r end_) (Ag (An q1.r end_)) end_))],(Cp (Ae q1.r end_) (Ag (An q1.r end_)) end_).fail⟩:Mr)⟩:Lx)) rfl Q9 Q44 Q68⟩
 refine dsp (fun h6 p6=>?_) fun h6 p6=>?_
 refine⟨(Ano K hM (Ae q1.r end_) ((fieldAt (Ae q1.r end_).plan.shapes shape (Ba (An q1.r end_))).getD fld0) _ _ _ Q2 Q2 (hk) Q2 Q2 Q2 (by rw[hpl];exact hp7) Q77 (by grind) (by grind) Q77),fun h7=>have q7:=Ap h7;have p7:=of_decide_eq_false q7;?_,fun h7=>have q7:=Ao h7;have p7:=of_decide_eq_true q7;?_⟩
 refine have hm1:D8 (Int.toNat ((r).plan.deep-deep)) shape end_ r=(Bf (Gh (Int.toNat (((Ae q1.r end_)).plan.deep-deep))) (Ae q1.r end_) ((fieldAt (Ae q1.r end_).plan.shapes shape (Ba (An q1.r end_))).getD fld0) ((fieldAt (Ae q1.r end_).plan.shapes shape (Ba (An q1.r end_))).isSome) end_):=?_;?_
 rotate_left
 refine⟨(sB ?_),Q5⟩
 rotate_left
 exact Bc (j:=(⟨(Bf (Gh (Int.toNat (((Ae q1.r end_)).plan.deep-deep))) (Ae q1.r end_) ((fieldAt (Ae q1.r end_).plan.shapes shape (Ba (An q1.r end_))).getD fld0) ((fieldAt (Ae q1.r end_).plan.shapes shape (Ba (An q1.r end_))).isSome) end_)⟩:Lx)) rfl rfl Q44 Q68
 refine⟨(Aow (Ae q1.r end_) _ _ Q2 Q2 Q2),fun h7=>have q7:=Ap h7;?_,fun h7=>have q7:=Ao h7;?_⟩
 refine have hm1:D8 (Int.toNat ((r).plan.deep-deep)) shape end_ r=(Cp (Ae q1.r end_) (Ag (An q1.r end_)) end_):=?_;?_
 rotate_left
 refine⟨(sB ?_),Q5⟩
 rotate_left
 exact⟨h5,Bc (j:=(⟨(Cp (Ae q1.r end_) (Ag (An q1.r end_)) end_)⟩:Lx)) rfl rfl Q44 Q68⟩
 refine have hm1:D8 (Int.toNat ((r).plan.deep-deep)) shape end_ r=q1.r:=?_;?_
 rotate_left
 refine⟨(sB ?_),Q5⟩
 rotate_left
 all_goals first|(exact(Fz _ _ _ _).trans (hi_q1.1.end_ (by omega)))|(exact(Fz _ _ _ _).trans (hi_q1.1.bad (by assumption)))|(rw[hm1];simp[Bg,Aw, *];done)|(exact(Fz _ _ _ _).trans (hi_q1.1.leave (Fi _ _ _) (by omega) hfl (by grind (ematch:=20) (gen:=20) [Dv,B4,Am,Bg]) (by first|(exact Ca _ _ _)|(simp_all;done)|(grind))))|(rw[hm1];grind)
theorem Anq: ∀K,Aje K
 |0=>fun r shape end_ deep hp1 hp2 hp3 hp4 hp5 hp6 hp7 hp8 hp9=>absurd hp9 (Nat.not_lt_zero _)
 |K+1=>fun r shape end_ deep hp1 hp2 hp3 hp4 hp5 hp6 hp7 hp8 hp9=>Ap9 K (Anq K) r shape end_ deep hp1 hp2 hp3 hp4 hp5 hp6 hp7 hp8 (Nat.le_of_lt_succ hp9)
theorem Aq7 (r:Mr) (shape:Int) (end_:Int) (deep:Int) (hp1:List.length (r).s≤1048576) (hp2:(r).at_≤((List.length (r).s:Nat):Int)) (hp3:(r).fail.kind=0) (hp4:((List.length (r).out:Nat):Int)+4*(((List.length (r).s:Nat):Int)-(r).at_)≤100000000) (hp5:(0:Int)≤(r).at_) (hp6: -1000000000≤end_∧end_≤9223372036854775807) (hp7:B5 (r).plan=true) (hp8:(1:Int)≤deep∧deep≤(r).plan.deep):Fun Tryz.prog 108 [vP 0,vI shape,vI end_,vI deep] [.cells (B7 1 r),.lst .ev r.out] (.v (vB (decide ((D8 (Int.toNat ((r).plan.deep-deep)) shape end_ r).fail.kind=0)))) [.cells (B7 2 (D8 (Int.toNat ((r).plan.deep-deep)) shape end_ r)),.dead,.lst .ev (D8 (Int.toNat ((r).plan.deep-deep)) shape end_ r).out]:=Anq _ r shape end_ deep hp1 hp2 hp3 hp4 hp5 hp6 hp7 hp8 (Nat.lt_succ_self _)
structure G4 where
 r:Mr
def Uf (r:Mr) (shape:Int) (end_:Int) (deep:Int):Fam:=⟨G4,fun q1=>[(0,.v (vP 0)),(1,.v (vI shape)),(2,.v (vI end_)),(3,.v (vI deep))],fun q1=>[.cells (B7 2 q1.r),.dead,.lst .ev q1.r.out],fun q1=>LInv (Dv (Gh (Int.toNat (r.plan.deep-deep))) shape end_) end_ r q1.r,fun q1=>Gq q1.r⟩
theorem Aqa (K:Nat) (hM:Ajf K) (r:Mr) (shape:Int) (end_:Int) (deep:Int) (hp1:List.length (r).s≤1048576) (hp2:(r).at_≤((List.length (r).s:Nat):Int)) (hp3:(r).fail.kind=0) (hp4:((List.length (r).out:Nat):Int)+4*(((List.length (r).s:Nat):Int)-(r).at_)≤100000000) (hp5:(0:Int)≤(r).at_) (hp6: -1000000000≤end_∧end_≤9223372036854775807) (hp7:B5 (r).plan=true) (hp8:(1:Int)≤deep∧deep≤(r).plan.deep) (hp9:Int.toNat ((r).plan.deep-deep)≤K):Fun Tryz.prog 164 [vP 0,vI shape,vI end_,vI deep] [.cells (B7 1 r),.lst .ev r.out] (.tup []) [.cells (B7 2 (D8 (Int.toNat ((r).plan.deep-deep)) shape end_ r)),.dead,.lst .ev (D8 (Int.toNat ((r).plan.deep-deep)) shape end_ r).out]:=by
 have hN:Be=274877906944:=rfl
 have hpt:=By hp7
 refine Ar Tryz.func164 Q4 Q4 (w:=let zi:Int→C:= .int .i64;let z14:=Uf r shape end_ deep;let z15:=D8 (Int.toNat ((r).plan.deep-deep)) shape end_ r;let z13:List Blk:=[.cells (B7 2 z15),.dead,.lst .ev z15.out];let z16:=vI shape;(.seg [.at 0,.cut 0 6,.keep [0,1,2,3],.sel [0,1,2]] (.loop z14 fun q1=>let z4:=An q1.r end_;let z5:=Ae q1.r end_;let z1:=(fieldAt z5.plan.shapes shape (Ba z4)).getD fld0;let z2:=Bf (Gh (Int.toNat ((z5).plan.deep-deep))) z5 z1 (decide ((z1).number≠0)) end_;let z3:=B4 z5 z1 (Ag z4) end_;.br (.br (.seg [.call [0,2] (.v (.c (.int .u64 z4))) [.cells (B7 1 z5),.lst .ev z5.out]] (.br (.leaf () [0,1,2]) (.seg [.call [] (.tup [vI (Ba z4),vI (Ag z4),vB (Gv z4)]) [],.call [] (.tup [.agg (Ej z1),vB (fieldAt z5.plan.shapes shape (Ba z4)).isSome]) []] (.br (.seg [.call [] (.v (.agg (cEv (Aw 2 q1.r.at_)))) [],.at 0,.keep [0,1,2,3],.sel [0,1,2]] (.next)) (.seg [.call [] (.v (vB (C7 (Ag z4)))) []] (.br (.seg [.call [] (.v (.agg (cEv (Aw 3 q1.r.at_)))) [],.at 0,.keep [0,1,2,3],.sel [0,1,2]] (.next)) (.br (.seg [.call [] (.v (vB (Cq z1 (Ag z4)))) []] (.br (.seg [.call [] (.v (.agg (cEv (Aw 4 q1.r.at_)))) [],.at 0,.keep [0,1,2,3],.sel [0,1,2]] (.next)) (.br (.seg [.call [0,2] (.tup []) [.cells (B7 2 z2),.dead,.lst .ev z2.out],.at 0,.keep [0,1,2,3],.sel [0,1,4]] (.next)) (.seg [.call [0,2] (.tup []) [.cells (B7 2 z3),.dead,.lst .ev z3.out],.at 0,.keep [0,1,2,3],.sel [0,1,4]] (.next))))) (.br (.seg [.call [0,2] (.tup []) [.cells (B7 2 z2),.dead,.lst .ev z2.out],.at 0,.keep [0,1,2,3],.sel [0,1,4]] (.next)) (.seg [.call [0,2] (.tup []) [.cells (B7 2 z3),.dead,.lst .ev z3.out],.at 0,.keep [0,1,2,3],.sel [0,1,4]] (.next)))))))))) (.leaf () [0,1,2])) (.leaf () [0,1,2])),z14.Has [(0,.v (vP 0)),(1,.v z16),(2,.v (vI end_)),(3,.v (vI deep))] [.cells (B7 2 r),.dead,.lst .ev r.out]∧∀q1,z14.inv q1→(let z7:=Ae q1.r end_;let z8:=An q1.r end_;let z6:=(fieldAt z7.plan.shapes shape (Ba z8)).getD fld0;let z9:=Aw 2 q1.r.at_;let z10:=Aw 3 q1.r.at_;let z11:=Aw 4 q1.r.at_;let z12:=([.cells (B7 2 q1.r),.dead,.lst .ev q1.r.out]:List Blk);((decide (q1.r.at_<end_))=true→((decide (q1.r.fail.kind=0))=true→(Fun Tryz.prog 199 [vP 0,vI end_] [.cells (B7 1 q1.r),.lst .ev q1.r.out] (.v (.c (.int .u64 z8))) [.cells (B7 1 z7),.lst .ev z7.out])∧((!decide (z7.fail.kind=0))=true→(.tup []:S)= .tup []∧([.cells (B7 2 z7),.dead,.lst .ev z7.out]:List Blk)=z13)∧((!decide (z7.fail.kind=0))=false→(Fun Tryz.prog 182 [.c (.int .u64 z8)] [] (.tup [vI (Ba z8),vI (Ag z8),vB (Gv z8)]) [])∧(Fun Tryz.prog 133 [.agg [.seq .shp z7.plan.shapes],vI shape,vI (Ba z8)] [] (.tup [.agg (Ej z6),vB (fieldAt z7.plan.shapes shape (Ba z8)).isSome]) [])∧((!(Gv z8))=true→(Fun Tryz.prog 110 [vI 2,vI q1.r.at_] [] (.v (.agg (cEv z9))) [])∧z14.Nxt q1 [(0,.v (vP 0)),(1,.v z16),(2,.v (vI end_)),(3,.v (vI deep))] [.cells [.seq .shp z7.plan.shapes,zi z7.plan.root,zi z7.plan.deep,zi z7.plan.most,.str z7.s,zi z7.at_,.own 2,zi z9.kind,zi z9.field,.int .u64 z9.bits,zi z9.len,.str z9.text,zi z9.code,zi z9.at_],.dead,.lst .ev z7.out])∧((!(Gv z8))=false→(Fun Tryz.prog 69 [vI (Ag z8)] [] (.v (vB (C7 (Ag z8)))) [])∧((!(C7 (Ag z8)))=true→(Fun Tryz.prog 110 [vI 3,vI q1.r.at_] [] (.v (.agg (cEv z10))) [])∧z14.Nxt q1 [(0,.v (vP 0)),(1,.v z16),(2,.v (vI end_)),(3,.v (vI deep))] [.cells [.seq .shp z7.plan.shapes,zi z7.plan.root,zi z7.plan.deep,zi z7.plan.most,.str z7.s,zi z7.at_,.own 2,zi z10.kind,zi z10.field,.int .u64 z10.bits,zi z10.len,.str z10.text,zi z10.code,zi z10.at_],.dead,.lst .ev z7.out])∧((!(C7 (Ag z8)))=false→((fieldAt z7.plan.shapes shape (Ba z8)).isSome=true→(Fun Tryz.prog 75 [.agg (Ej z6),vI (Ag z8)] [] (.v (vB (Cq z6 (Ag z8)))) [])∧((!(Cq z6 (Ag z8)))=true→(Fun Tryz.prog 110 [vI 4,vI q1.r.at_] [] (.v (.agg (cEv z11))) [])∧z14.Nxt q1 [(0,.v (vP 0)),(1,.v z16),(2,.v (vI end_)),(3,.v (vI deep))] [.cells [.seq .shp z7.plan.shapes,zi z7.plan.root,zi z7.plan.deep,zi z7.plan.most,.str z7.s,zi z7.at_,.own 2,zi z11.kind,zi z11.field,.int .u64 z11.bits,zi z11.len,.str z11.text,zi z11.code,zi z11.at_],.dead,.lst .ev z7.out])∧((!(Cq z6 (Ag z8)))=false→((decide (Ag z8=2))=true→(Fun Tryz.prog 200 [vP 0,.agg (Ej z6),vI end_,vI deep] [.cells (B7 1 z7),.lst .ev z7.out] (.tup []) [.cells (B7 2 (Bf (Gh (Int.toNat ((z7).plan.deep-deep))) z7 z6 (decide ((z6).number≠0)) end_)),.dead,.lst .ev (Bf (Gh (Int.toNat ((z7).plan.deep-deep))) z7 z6 (decide ((z6).number≠0)) end_).out])∧z14.Nxt q1 [(0,.v (vP 0)),(1,.v z16),(2,.v (vI end_)),(3,.v (vI deep))] [.cells (B7 2 (Bf (Gh (Int.toNat ((z7).plan.deep-deep))) z7 z6 (decide ((z6).number≠0)) end_)),.dead,.lst .ev (Bf (Gh (Int.toNat ((z7).plan.deep-deep))) z7 z6 (decide ((z6).number≠0)) end_).out])∧((decide (Ag z8=2))=false→(Fun Tryz.prog 201 [vP 0,.agg (Ej z6),vI (Ag z8),vI end_] [.cells (B7 1 z7),.lst .ev z7.out] (.tup []) [.cells (B7 2 (B4 z7 z6 (Ag z8) end_)),.dead,.lst .ev (B4 z7 z6 (Ag z8) end_).out])∧z14.Nxt q1 [(0,.v (vP 0)),(1,.v z16),(2,.v (vI end_)),(3,.v (vI deep))] [.cells (B7 2 (B4 z7 z6 (Ag z8) end_)),.dead,.lst .ev (B4 z7 z6 (Ag z8) end_).out])))∧((fieldAt z7.plan.shapes shape (Ba z8)).isSome=false→((decide (Ag z8=2))=true→(Fun Tryz.prog 200 [vP 0,.agg (Ej z6),vI end_,vI deep] [.cells (B7 1 z7),.lst .ev z7.out] (.tup []) [.cells (B7 2 (Bf (Gh (Int.toNat ((z7).plan.deep-deep))) z7 z6 (decide ((z6).number≠0)) end_)),.dead,.lst .ev (Bf (Gh (Int.toNat ((z7).plan.deep-deep))) z7 z6 (decide ((z6).number≠0)) end_).out])∧z14.Nxt q1 [(0,.v (vP 0)),(1,.v z16),(2,.v (vI end_)),(3,.v (vI deep))] [.cells (B7 2 (Bf (Gh (Int.toNat ((z7).plan.deep-deep))) z7 z6 (decide ((z6).number≠0)) end_)),.dead,.lst .ev (Bf (Gh (Int.toNat ((z7).plan.deep-deep))) z7 z6 (decide ((z6).number≠0)) end_).out])∧((decide (Ag z8=2))=false→(Fun Tryz.prog 201 [vP 0,.agg (Ej z6),vI (Ag z8),vI end_] [.cells (B7 1 z7),.lst .ev z7.out] (.tup []) [.cells (B7 2 (B4 z7 z6 (Ag z8) end_)),.dead,.lst .ev (B4 z7 z6 (Ag z8) end_).out])∧z14.Nxt q1 [(0,.v (vP 0)),(1,.v z16),(2,.v (vI end_)),(3,.v (vI deep))] [.cells (B7 2 (B4 z7 z6 (Ag z8) end_)),.dead,.lst .ev (B4 z7 z6 (Ag z8) end_).out]))))))∧((decide (q1.r.fail.kind=0))=false→(.tup []:S)= .tup []∧z12=z13))∧((decide (q1.r.at_<end_))=false→(.tup []:S)= .tup []∧z12=z13)))) Q4 ?_
 refine⟨Bs (j:=(⟨r⟩:G4)) rfl rfl (by dsimp only[Uf];exact LInv.refl hp2),fun (q1:G4) hq_q1=>?_⟩
 have hi_q1:LInv (Dv (Gh (Int.toNat (r.plan.deep-deep))) shape end_) end_ r q1.r:=hq_q1
 refine dsp (fun h1 p1=>?_) fun h1 p1=>?_
 refine dsp (fun h2 p2=>?_) fun h2 p2=>?_
 have hfl:=p2
 have hat:=hi_q1.at_ hfl
 have hrm:=hi_q1.room hfl
 obtain ⟨hv,hv2,hv3⟩:=Eo (r:=q1.r) (e:=end_) hat.2
 have hvk:=C1 (r:=q1.r) (e:=end_) hfl
 have hu:=Gs q1.r end_
 have hvs:=congrArg List.length hv.1.s
 have hvo:=congrArg List.length hv3
 have hvp:=hv.1.plan
 have hpl:=hvp.trans hrm.2.1
 have hsk:Dt (Ae q1.r end_).plan.shapes=true:=by rw[hpl];exact hpt.2.1
 have htw:=Acm (An q1.r end_)
 have hkn:=Ya (s:=shape) (n:=Ba (An q1.r end_)) hsk
 have hff:=S9 (s:=shape) (n:=Ba (An q1.r end_)) hsk
 refine⟨(U8 q1.r _ Q2),fun h3=>have q3:=Ap h3;have p3:=of_decide_eq_false q3;?_,fun h3=>have q3:=Ao h3;have p3:=of_decide_eq_true q3;?_⟩
 have hok:Bd q1.r end_=false:=by rw[hvk];simpa using q3
 refine have hm1:D8 (Int.toNat ((r).plan.deep-deep)) shape end_ r=(Ae q1.r end_):=?_;?_
 rotate_left
 exact⟨rfl,Q5⟩
 have hok:Bd q1.r end_=true:=by rw[hvk];simpa using q3
 have hk:(Ae q1.r end_).fail.kind=0:=by rw[hvk] at hok;simpa using hok
 have ha:=hv.1.at_ hk
 have hb:=hv.2 hk
 have h2:=hv2 hok
 have hvl:=Ei (r:=Ae q1.r end_) (w:=Ag (An q1.r end_)) (e:=end_) hk
 have hvu:=Aa2 (Ae q1.r end_) (Ag (An q1.r end_)) end_
 have hvq:=congrArg List.length (T9 (r:=Ae q1.r end_) (w:=Ag (An q1.r end_)) (e:=end_) (by omega)).2
 refine⟨(Ah3 _ Q2),(To (Ae q1.r end_).plan.shapes _ _ Q77 (by rw[hpl];exact Di hpt.2.1)),fun h4=>have q4:=Ap h4;?_,fun h4=>have q4:=Ao h4;?_⟩
 exact⟨(Dk _ _),Bc (j:=(⟨(⟨(Ae q1.r end_).plan,(Ae q1.r end_).s,(Ae q1.r end_).at_,(Ae q1.r end_).out,(Aw 2 q1.r.at_)⟩:Mr)⟩:G4)) rfl Q9 Q47 Q46⟩
 refine⟨(Aak _),fun h5=>have q5:=Ap h5;?_,fun h5=>have q5:=Ao h5;?_⟩
 exact⟨(Dk _ _),Bc (j:=(⟨(⟨(Ae q1.r end_).plan,(Ae q1.r end_).s,(Ae q1.r end_).at_,(Ae q1.r end_).out,(Aw 3 q1.r.at_)⟩:Mr)⟩:G4)) rfl Q9 Q47 Q46⟩
 refine⟨fun h6=>?_,fun h6=>?_⟩
 refine⟨(Xj ((fieldAt (Ae q1.r end_).plan.shapes shape (Ba (An q1.r end_))).getD fld0) _ Q2),fun h7=>have q7:=Ap h7;?_,fun h7=>have q7:=Ao h7;?_⟩
 exact⟨(Dk _ _),Bc (j:=(⟨(⟨(Ae q1.r end_).plan,(Ae q1.r end_).s,(Ae q1.r end_).at_,(Ae q1.r end_).out,(Aw 4 q1.r.at_)⟩:Mr)⟩:G4)) rfl Q9 Q47 Q46⟩
 refine dsp (fun h8 p8=>?_) fun h8 p8=>?_
 exact⟨(Anp K hM (Ae q1.r end_) ((fieldAt (Ae q1.r end_).plan.shapes shape (Ba (An q1.r end_))).getD fld0) _ _ Q2 Q2 (hk) Q2 Q2 Q2 (by rw[hpl];exact hp7) Q77 (by grind) (by grind[C7]) Q77),Bc (j:=(⟨(Bf (Gh (Int.toNat (((Ae q1.r end_)).plan.deep-deep))) (Ae q1.r end_) ((fieldAt (Ae q1.r end_).plan.shapes shape (Ba (An q1.r end_))).getD fld0) (decide ((((fieldAt (Ae q1.r end_).plan.shapes shape (Ba (An q1.r end_))).getD fld0)).number≠0)) end_)⟩:G4)) rfl rfl Q47 Q46⟩
 exact⟨(Aox (Ae q1.r end_) ((fieldAt (Ae q1.r end_).plan.shapes shape (Ba (An q1.r end_))).getD fld0) _ _ Q2 Q2 (hk) Q2 Q2 Q2 (by grind[C7])),Bc (j:=(⟨(B4 (Ae q1.r end_) ((fieldAt (Ae q1.r end_).plan.shapes shape (Ba (An q1.r end_))).getD fld0) (Ag (An q1.r end_)) end_)⟩:G4)) rfl rfl Q47 Q46⟩
 refine dsp (fun h7 p7=>?_) fun h7 p7=>?_
 exact⟨(Anp K hM (Ae q1.r end_) ((fieldAt (Ae q1.r end_).plan.shapes shape (Ba (An q1.r end_))).getD fld0) _ _ Q2 Q2 (hk) Q2 Q2 Q2 (by rw[hpl];exact hp7) Q77 (by grind) (by grind[C7]) Q77),Bc (j:=(⟨(Bf (Gh (Int.toNat (((Ae q1.r end_)).plan.deep-deep))) (Ae q1.r end_) ((fieldAt (Ae q1.r end_).plan.shapes shape (Ba (An q1.r end_))).getD fld0) (decide ((((fieldAt (Ae q1.r end_).plan.shapes shape (Ba (An q1.r end_))).getD fld0)).number≠0)) end_)⟩:G4)) rfl rfl Q47 Q46⟩
 exact⟨(Aox (Ae q1.r end_) ((fieldAt (Ae q1.r end_).plan.shapes shape (Ba (An q1.r end_))).getD fld0) _ _ Q2 Q2 (hk) Q2 Q2 Q2 (by grind[C7])),Bc (j:=(⟨(B4 (Ae q1.r end_) ((fieldAt (Ae q1.r end_).plan.shapes shape (Ba (An q1.r end_))).getD fld0) (Ag (An q1.r end_)) end_)⟩:G4)) rfl rfl Q47 Q46⟩
 refine have hm1:D8 (Int.toNat ((r).plan.deep-deep)) shape end_ r=q1.r:=?_;?_
 rotate_left
 exact⟨rfl,Q5⟩
 refine have hm1:D8 (Int.toNat ((r).plan.deep-deep)) shape end_ r=q1.r:=?_;?_
 rotate_left
 exact⟨rfl,Q5⟩
 all_goals first|(exact(Fz _ _ _ _).trans (hi_q1.end_ (by omega)))|(exact(Fz _ _ _ _).trans (hi_q1.bad (by assumption)))|(rw[hm1];simp[Bg,Aw, *];done)|(exact(Fz _ _ _ _).trans (hi_q1.leave (Fi _ _ _) (by omega) hfl (by grind (ematch:=20) (gen:=20) [Dv,B4,Am,Bg]) (by first|(exact Ca _ _ _)|(simp_all;done)|(grind))))|(rw[hm1];grind)
theorem Anr: ∀K,Ajf K
 |0=>fun r shape end_ deep hp1 hp2 hp3 hp4 hp5 hp6 hp7 hp8 hp9=>absurd hp9 (Nat.not_lt_zero _)
 |K+1=>fun r shape end_ deep hp1 hp2 hp3 hp4 hp5 hp6 hp7 hp8 hp9=>Aqa K (Anr K) r shape end_ deep hp1 hp2 hp3 hp4 hp5 hp6 hp7 hp8 (Nat.le_of_lt_succ hp9)
theorem Aq8 (r:Mr) (shape:Int) (end_:Int) (deep:Int) (hp1:List.length (r).s≤1048576) (hp2:(r).at_≤((List.length (r).s:Nat):Int)) (hp3:(r).fail.kind=0) (hp4:((List.length (r).out:Nat):Int)+4*(((List.length (r).s:Nat):Int)-(r).at_)≤100000000) (hp5:(0:Int)≤(r).at_) (hp6: -1000000000≤end_∧end_≤9223372036854775807) (hp7:B5 (r).plan=true) (hp8:(1:Int)≤deep∧deep≤(r).plan.deep):Fun Tryz.prog 164 [vP 0,vI shape,vI end_,vI deep] [.cells (B7 1 r),.lst .ev r.out] (.tup []) [.cells (B7 2 (D8 (Int.toNat ((r).plan.deep-deep)) shape end_ r)),.dead,.lst .ev (D8 (Int.toNat ((r).plan.deep-deep)) shape end_ r).out]:=Anr _ r shape end_ deep hp1 hp2 hp3 hp4 hp5 hp6 hp7 hp8 (Nat.lt_succ_self _)
/-! ### More told Ck -/
def Ck (o:List Ev) (r:Mr):Mr:=⟨r.plan,r.s,r.at_,o++r.out,r.fail⟩
theorem Jn (o:List Ev) (r:Mr) (e:Ev):Am (Ck o r) e=Ck o (Am r e):=by simp[Am,Ck]
theorem Rk (o:List Ev) (r:Mr) (e:Int):Ae (Ck o r) e=Ck o (Ae r e):=by
 unfold Ae;rw[show Bd (Ck o r) e=Bd r e from rfl];split<;>rfl
theorem Ajg (o:List Ev) (r:Mr) (w e:Int):Fb (Ck o r) w e=Ck o (Fb r w e):=by
 unfold Fb
 rw[show (Ck o r).at_=r.at_ from rfl,show (Ck o r).s=r.s from rfl]
 split
 ·rfl
 ·split<;>rfl
theorem Ajh (o:List Ev) (r:Mr) (w e:Int):Cp (Ck o r) w e=Ck o (Cp r w e):=by
 unfold Cp;split
 ·exact Ajg o r _ e
 ·exact Rk o r e
theorem Acn (o:List Ev) (r:Mr) (f:Fld) (w e:Int):B4 (Ck o r) f w e=Ck o (B4 r f w e):=by
 unfold B4
 rw[show Dp (Ck o r) w e=Dp r w e from rfl,show Eh (Ck o r) w e=Eh r w e from rfl,Ajh]
 split
 ·exact Jn o _ _
 ·rfl
theorem Sa (o:List Ev) {step:Mr→Mr} (hs: ∀r,step (Ck o r)=Ck o (step r)) (e:Int): ∀(k:Nat) (r:Mr),Cz (Eu e) step k (Ck o r)=Ck o (Cz (Eu e) step k r)
 |0,r=>rfl
 |k+1,r=>by
  simp only[Cz]
  rw[show Eu e (Ck o r)=Eu e r from rfl]
  split
  ·rw[hs,Sa o hs e k]
  ·rfl
theorem Aji (o:List Ev) (r:Mr) (f:Fld) (e:Int):Ho (Ck o r) f e=Ck o (Ho r f e):=Sa o (fun r=>Acn o r f _ e) e _ r
theorem Agj (o:List Ev) (r:Mr) (f:Fld) (n:Int):Ew (Ck o r) f n=Ck o (Ew r f n):=by
 unfold Ew
 rw[show Lw (Ck o r) f n=Lw r f n from rfl]
 split<;>simp only[Jn]
theorem Ajj (o:List Ev) (r:Mr) (f:Fld) (n:Int):Bx (Ck o r) f n=Ck o (Bx r f n):=by
 unfold Bx
 rw[show Kf (Ck o r) f n=Kf r f n from rfl,show A0 (Ck o r) n=A0 r n from rfl,show Yt (Ck o r) f n=Yt r f n from rfl,Agj,show (Ck o r).s=r.s from rfl,show (Ck o r).at_=r.at_ from rfl]
 split
 ·rfl
 split
 ·rfl
 split
 ·rfl
 ·exact Jn o (S8 (Ew r f n) (r.at_+n)) G3
def Ws (o:List Ev) (sub:Mr→Fld→Int→Int→Mr):Prop:= ∀(v:Mr) (f:Fld) (n s:Int),sub (Ck o v) f n s=Ck o (sub v f n s)
theorem Agk {o:List Ev} {sub:Mr→Fld→Int→Int→Mr} (hs:Ws o sub) (r:Mr) (f:Fld) (known:Bool) (e:Int):Bf sub (Ck o r) f known e=Ck o (Bf sub r f known e):=by
 unfold Bf
 rw[show Bd (Ck o r) e=Bd r e from rfl,show An (Ck o r) e=An r e from rfl,Rk]
 simp only[show ∀x,(Ck o x).at_=x.at_ from fun _=>rfl,show ∀x,(Ck o x).s=x.s from fun _=>rfl]
 split
 ·rfl
 split
 ·rfl
 split
 ·split<;>rfl
 split
 ·exact hs _ _ _ _
 split
 ·exact Aji o _ _ _
 ·exact Ajj o _ _ _
theorem Ajk {o:List Ev} {sub:Mr→Fld→Int→Int→Mr} (hs:Ws o sub) (shape e:Int) (r:Mr):Dv sub shape e (Ck o r)=Ck o (Dv sub shape e r):=by
 unfold Dv
 rw[show Bd (Ck o r) e=Bd r e from rfl,show An (Ck o r) e=An r e from rfl,Rk]
 simp only[show ∀x,(Ck o x).at_=x.at_ from fun _=>rfl,show ∀x,(Ck o x).plan=x.plan from fun _=>rfl]
 split
 ·rfl
 split
 ·rfl
 split
 ·rfl
 split
 ·rfl
 split
 ·exact Agk hs _ _ _ _
 ·exact Acn o _ _ _ _
theorem Yb {o:List Ev} {D:Nat} (hs:Ws o (Gh D)) (shape e:Int) (r:Mr):D8 D shape e (Ck o r)=Ck o (D8 D shape e r):=by
 rw[Fz,Fz]
 exact Sa o (fun r=>Ajk hs shape e r) e _ r
theorem Aco (o:List Ev): ∀D,Ws o (Gh D)
 |0=>fun _ _ _ _=>rfl
 |D+1=>fun v f n s=>by
  simp only[Gh]
  rw[show (Ck o v).at_=v.at_ from rfl,Jn,Yb (Aco o D)]
  split<;>rename_i h
  ·rw[if_pos (show (D8 D f.msg (v.at_+n) (Am v (En f n))).fail.kind=0 from h),Jn]
  ·rw[if_neg (show¬(D8 D f.msg (v.at_+n) (Am v (En f n))).fail.kind=0 from h)]
theorem Z3 (o:List Ev) (D:Nat) (shape e:Int) (r:Mr):D8 D shape e (Ck o r)=Ck o (D8 D shape e r):=Yb (Aco o D) shape e r
/-! ### Where a message ends -/
theorem Ae6 {step:Mr→Mr} (hs:He step) {e:Int} (ht: ∀r:Mr,r.at_≤(r.s.length:Int)→r.fail.kind=0→(step r).fail.kind=0→(step r).at_≤e): ∀(n:Nat) (r:Mr),Gq r≤n→r.at_≤(r.s.length:Int)→r.at_≤e→r.fail.kind=0→(Cz (Eu e) step (Gq r) r).fail.kind=0→(Cz (Eu e) step (Gq r) r).at_=e:=by
 intro n
 induction n with
 |zero=>intro r hn hl _ h0;simp only[Gq,if_pos h0] at hn;omega
 |succ n ih=>
  intro r hn hl he h0 hk
  by_cases hg:r.at_<e
  ·have hi:=(LInv.refl (step:=step) (e:=e) hl).go hs hg h0
   rw[←hi.1.run] at hk ⊢
   by_cases h1:(step r).fail.kind=0
   ·have ha:=hi.1.at_ h1
    exact ih _ Q2 ha.2 (ht r hl h0 h1) h1 hk
   ·rw[Cn (by simp[Eu,h1])] at hk
    exact(h1 hk).elim
  ·rw[Cn (by simp[Eu];omega)];omega
theorem Wt {r:Mr} {e:Int} (h0:r.fail.kind=0) (hl:r.at_≤(r.s.length:Int)) (hk:(Ae r e).fail.kind=0):(Ae r e).at_≤e:=by
 have:=C1 (e:=e) h0
 rw[hk] at this
 exact((Eo hl).2.1 (by simpa using this)).2
theorem Sb {r:Mr} {f:Fld} {w e:Int} (h0:r.fail.kind=0) (hl:r.at_≤(r.s.length:Int)) (hk:(B4 r f w e).fail.kind=0):(B4 r f w e).at_≤e:=by
 have hv:(Cp r w e).fail.kind=0→(Cp r w e).at_≤e:=fun h=>by
  unfold Cp at h ⊢
  split
  ·rename_i hw
   rw[if_pos hw] at h
   unfold Fb at h ⊢
   split
   ·rename_i h2;rw[if_pos h2] at h;exact(Ca _ _ _ h).elim
   ·rename_i h2
    rw[if_neg h2] at h
    split
    ·show r.at_+Az w≤e;omega
    ·rename_i h3;rw[if_neg h3] at h;exact(Ca _ _ _ h).elim
  ·rename_i hw
   rw[if_neg hw] at h
   exact Wt h0 hl h
 unfold B4 at hk ⊢
 split
 ·rename_i h;rw[if_pos h] at hk;exact hv hk
 ·rename_i h;rw[if_neg h] at hk;exact hv hk
def Amm (sub:Mr→Fld→Int→Int→Mr):Prop:= ∀(v:Mr) (f:Fld) (n s:Int),v.at_≤(v.s.length:Int)→v.fail.kind=0→0≤n→(sub v f n s).fail.kind=0→(sub v f n s).at_=v.at_+n
theorem Agm {r:Mr} {f:Fld} {n:Int} (hk:(Bx r f n).fail.kind=0):(Bx r f n).at_=r.at_+n:=by
 unfold Bx at hk ⊢
 split
 ·rename_i h;rw[if_pos h] at hk;exact(Ca _ _ _ hk).elim
 rename_i h;rw[if_neg h] at hk
 split
 ·rename_i h;rw[if_pos h] at hk;exact(Ca _ _ _ hk).elim
 rename_i h;rw[if_neg h] at hk
 split
 ·rename_i h;rw[if_pos h] at hk;exact(Ca _ _ _ hk).elim
 ·rfl
theorem Adx {sub:Mr→Fld→Int→Int→Mr} (ht:Amm sub) {r:Mr} {f:Fld} {known:Bool} {e:Int} (h0:r.fail.kind=0) (hl:r.at_≤(r.s.length:Int)) (hk:(Bf sub r f known e).fail.kind=0):(Bf sub r f known e).at_≤e:=by
 have hv:=Eo (e:=e) hl
 have hu:=Gs r e
 unfold Bf at hk ⊢
 split
 ·rename_i h;rw[if_pos h] at hk;exact Wt h0 hl hk
 rename_i hok;rw[if_neg hok] at hk
 have hok:Bd r e=true:=by simpa using hok
 have hvk:(Ae r e).fail.kind=0:=by rw[C1 h0] at hok;simpa using hok
 have ha:=hv.1.1.at_ hvk
 have hs:=congrArg List.length hv.1.1.s
 split
 ·rename_i h;rw[if_pos h] at hk;exact(Ca _ _ _ hk).elim
 rename_i hn;rw[if_neg hn] at hk
 split
 ·rename_i h;rw[if_pos h] at hk
  split
  ·rename_i h2;rw[if_pos h2] at hk;exact(Ca _ _ _ hk).elim
  ·show (Ae r e).at_+An r e≤e;omega
 rename_i h;rw[if_neg h] at hk
 split
 ·rename_i h2;rw[if_pos h2] at hk
  rw[ht _ _ _ _ (by omega) hvk hu.1 hk];omega
 rename_i h2;rw[if_neg h2] at hk
 split
 ·rename_i h3;rw[if_pos h3] at hk
  have:=Ae6 (Kg f (Br f.kind) ((Ae r e).at_+An r e)) (fun r hl h0 hk=>Sb h0 hl hk) _ (Ae r e) (Nat.le_refl _) (by omega) (by omega) hvk hk
  show (Ho (Ae r e) f ((Ae r e).at_+An r e)).at_≤e
  unfold Ho;rw[this];omega
 ·rename_i h3;rw[if_neg h3] at hk
  rw[Agm hk];omega
theorem Nj {sub:Mr→Fld→Int→Int→Mr} (ht:Amm sub) {shape e:Int} {r:Mr} (h0:r.fail.kind=0) (hl:r.at_≤(r.s.length:Int)) (hk:(Dv sub shape e r).fail.kind=0):(Dv sub shape e r).at_≤e:=by
 have hv:=Eo (e:=e) hl
 unfold Dv at hk ⊢
 split
 ·rename_i h;rw[if_pos h] at hk;exact Wt h0 hl hk
 rename_i hok;rw[if_neg hok] at hk
 have hok:Bd r e=true:=by simpa using hok
 have hvk:(Ae r e).fail.kind=0:=by rw[C1 h0] at hok;simpa using hok
 have ha:=hv.1.1.at_ hvk
 have hs:=congrArg List.length hv.1.1.s
 split
 ·rename_i h;rw[if_pos h] at hk;exact(Ca _ _ _ hk).elim
 rename_i h;rw[if_neg h] at hk
 split
 ·rename_i h;rw[if_pos h] at hk;exact(Ca _ _ _ hk).elim
 rename_i h;rw[if_neg h] at hk
 split
 ·rename_i h;rw[if_pos h] at hk;exact(Ca _ _ _ hk).elim
 rename_i h;rw[if_neg h] at hk
 split
 ·rename_i h;rw[if_pos h] at hk;exact Adx ht hvk (by omega) hk
 ·rename_i h;rw[if_neg h] at hk;exact Sb hvk (by omega) hk
theorem Ajm {D:Nat} (ht:Amm (Gh D)) {shape e:Int} {r:Mr} (hl:r.at_≤(r.s.length:Int)) (he:r.at_≤e) (h0:r.fail.kind=0) (hk:(D8 D shape e r).fail.kind=0):(D8 D shape e r).at_=e:=by
 rw[Fz] at hk ⊢
 exact Ae6 (Fi D shape e) (fun r hl h0 hk=>Nj ht h0 hl hk) _ r (Nat.le_refl _) hl he h0 hk
theorem U9: ∀D,Amm (Gh D)
 |0=>fun v f n s _ _ _ hk=>(Ca _ _ _ hk).elim
 |D+1=>fun v f n s hl h0 hn hk=>by
  have hm:=Ajm (U9 D) (shape:=f.msg) (e:=v.at_+n) (r:=Am v (En f n)) hl (by show v.at_≤v.at_+n;omega) h0
  simp only[Gh] at hk ⊢
  split
  ·rename_i h;exact hm h
  ·rename_i h;rw[if_neg h] at hk;exact hm hk
theorem Ae7 {D:Nat} {shape e:Int} {r:Mr} (hl:r.at_≤(r.s.length:Int)) (he:r.at_≤e) (h0:r.fail.kind=0) (hk:(D8 D shape e r).fail.kind=0):(D8 D shape e r).at_=e:=Ajm (U9 D) hl he h0 hk
/-! ### Whole inputs -/
def mr0 (p:Pln) (s:List UInt8) (a:Int):Mr:=⟨p,s,a,[],ev0⟩
def Ds (n:Int):Ev:=⟨1,0,0,n,[],0,0⟩
def frameEndEv:Ev:=⟨8,0,0,0,[],0,0⟩
def Ae8 (a:Int):Ev:=⟨9,0,0,0,[],0,a⟩
def maxI:Int:=9223372036854775807
def C5 (r:Mr):Mr:=D8 (Int.toNat (r.plan.deep-1)) r.plan.root ((Ae r maxI).at_+An r maxI) (Am (Ae r maxI) (Ds (An r maxI)))
def frmStep (r:Mr):Mr:=
 if Bd r maxI=false then Ae r maxI
 else if r.plan.most<An r maxI then Bg (Ae r maxI) 7 r.at_
 else if (C5 r).fail.kind=0 then Am (C5 r) frameEndEv else C5 r
theorem Gg {r:Mr} (hl:r.at_≤(r.s.length:Int)) (h0:r.fail.kind=0):Adv1 r (frmStep r):=by
 obtain ⟨hv,hv2,hv3⟩:=Eo (e:=maxI) hl
 unfold frmStep
 split
 ·exact hv
 ·rename_i hok
  have hok:Bd r maxI=true:=by simpa using hok
  have hk:(Ae r maxI).fail.kind=0:=by rw[C1 h0] at hok;simpa using hok
  have ha:=hv.1.at_ hk
  have hs:=congrArg List.length hv.1.s
  have hl':(Ae r maxI).at_≤((Ae r maxI).s.length:Int):=by omega
  have hr:=(Adv.refl (Ae r maxI) hl').b
  have hm0:AdvB 0 (Am (Ae r maxI) (Ds (An r maxI))) (C5 r):=(Ub (r:=Am (Ae r maxI) (Ds (An r maxI))) hl').b
  have hm:AdvB (0+1+0) (Ae r maxI) (C5 r):=(hr.tell (Ds (An r maxI))).trans hk hm0
  split
  ·exact hv.after hv3 hk (hr.failed _ _) (by decide)
  split
  ·exact hv.after hv3 hk (hm.tell _) (by decide)
  ·exact hv.after hv3 hk hm (by decide)
structure Wh where
 r:Mr
 ends:List Int
def Agn (w:Wh):Bool:=Eu (w.r.s.length:Int) w.r
def Fj (w:Wh):Wh:=⟨frmStep w.r,if (frmStep w.r).fail.kind=0 then w.ends++[(frmStep w.r).at_] else w.ends⟩
def Ajn (w:Wh):Wh:=Cz Agn Fj (Gq w.r) w
def wh0 (p:Pln) (s:List UInt8):Wh:=⟨mr0 p s 0,[0]⟩
def Fu (p:Pln) (s:List UInt8):Wh:=Ajn (wh0 p s)
def E7 (p:Pln) (s:List UInt8):List Ev:=(Fu p s).r.out++[if (Fu p s).r.fail.kind=0 then Ae8 (s.length:Int) else (Fu p s).r.fail]
structure WInv (w0 q:Wh):Prop where
 adv:Adv w0.r q.r
 ends:q.r.fail.kind=0→(q.ends.length:Int)≤1+q.r.at_
 run:Ajn q=Ajn w0
theorem WInv.refl {p:Pln} {s:List UInt8} :WInv (wh0 p s) (wh0 p s):=⟨Adv.refl _ (by simp[wh0,mr0]),fun _=>by simp[wh0,mr0],rfl⟩
theorem WInv.room {p:Pln} {s:List UInt8} {q:Wh} (h:WInv (wh0 p s) q) (hk:q.r.fail.kind=0):q.r.s=s∧q.r.plan=p∧0≤q.r.at_∧q.r.at_≤(s.length:Int)∧(q.r.out.length:Int)+4*((s.length:Int)-q.r.at_)≤4*(s.length:Int)∧q.r.fail=ev0:=by
 have:=h.adv.at_ hk
 have hr:=h.adv.room hk
 refine⟨h.adv.s,h.adv.plan,this.1,this.2,?_,h.adv.fail hk⟩
 simpa [wh0,mr0] using hr
theorem WInv.next {p:Pln} {s:List UInt8} {q x:Wh} (h:WInv (wh0 p s) q) (hg:q.r.at_<(s.length:Int)) (hk:q.r.fail.kind=0) (hx:Fj q=x):WInv (wh0 p s) x∧Gq x.r<Gq q.r:=by
 subst hx
 obtain ⟨h1,h2,h3,h4,h5,_⟩:=h.room hk
 have hl:q.r.at_≤(q.r.s.length:Int):=by rw[h1];exact h4
 have hf:=Gg hl hk
 have hgo:Agn q=true:=by simp[Agn,Eu,h1,hg,hk]
 refine⟨⟨h.adv.trans hk hf.1,fun hk2=>?_,?_⟩,Px hl hk hf⟩
 ·have:=h.ends hk
  have:=hf.2 hk2
  have hk3:(frmStep q.r).fail.kind=0:=hk2
  simp only[Fj,if_pos hk3,List.length_append,List.length_cons,List.length_nil];omega
 ·rw[←h.run]
  refine(Aa0 (fun w:Wh=>w.r.at_≤(w.r.s.length:Int)∨w.r.fail.kind≠0) (fun w=>Gq w.r) (fun a hi hg=>?_) (.inl hl) hgo).symm
  have hk':a.r.fail.kind=0:=Gf hg
  have hl:a.r.at_≤(a.r.s.length:Int):=hi.resolve_right (fun h=>h hk')
  have hf:=Gg hl hk'
  refine⟨?_,Px hl hk' hf⟩
  by_cases hk2:(frmStep a.r).fail.kind=0
  ·left
   show (frmStep a.r).at_≤((frmStep a.r).s.length:Int)
   rw[hf.1.s];exact(hf.1.at_ hk2).2
  ·exact .inr hk2
theorem WInv.stop {w0 q:Wh} (h:WInv w0 q) (hg:Agn q=false):Ajn w0=q:=by rw[←h.run];exact Cn hg
theorem WInv.end_ {p:Pln} {s:List UInt8} {q:Wh} (h:WInv (wh0 p s) q) (hg: ¬q.r.at_<(s.length:Int)):Fu p s=q:=h.stop (by
 have:q.r.s=s:=h.adv.s
 simp[Agn,Eu,this];omega)
theorem WInv.leave {p:Pln} {s:List UInt8} {q x:Wh} (h:WInv (wh0 p s) q) (hg:q.r.at_<(s.length:Int)) (hk:q.r.fail.kind=0) (hx:Fj q=x) (hx2:x.r.fail.kind≠0):Fu p s=x:=
 (h.next hg hk hx).1.stop (by simp[Agn,Eu,hx2])
theorem Ajo {s:List UInt8} {a e e':Int} (he:(s.length:Int)<e) (he':(s.length:Int)<e'): ∀(f:Nat) (k u:Int),a+k≤(s.length:Int)→vwA s a e f k u=vwA s a e' f k u
 |0,k,u,_=>rfl
 |f+1,k,u,h=>by
  rw[vwA,vwA,if_neg (show¬e≤a+k by omega),if_neg (show¬e'≤a+k by omega)]
  split
  ·rfl
  split
  ·rfl
  split
  ·rfl
  ·exact Ajo he he' f (k+1) _ (by omega)
theorem K0 {s:List UInt8} {a e e':Int} (he:(s.length:Int)<e) (he':(s.length:Int)<e'):Ah s a e=Ah s a e':=by
 unfold Ah
 split
 ·rename_i hw
  have:=Av hw
  rw[Ajo he he' 10 0 0 (by omega)]
 ·rfl
def Z4 (p:Pln) (shape:Int) (s:List UInt8) (a e deep:Int):Bool:=B5 p&&Aq shape 0 ((p.shapes.length:Int)-1)&&Aq a 0 (s.length:Int)&&decide (a≤e)&&Aq deep 1 p.deep
def B8 (p:Pln) (shape:Int) (s:List UInt8) (a e deep:Int):Mr:=if Z4 p shape s a e deep then D8 (Int.toNat (p.deep-deep)) shape e (mr0 p s a) else mr0 p s a
theorem Aoy {s:List UInt8} (hl:s.length≤4000) (a:Int):Ah s a 8000=Ah s a maxI:=K0 (by omega) (by unfold maxI;omega)
theorem Yc {p:Pln} {s:List UInt8} {a:Int} {o:List Ev} (hl:s.length≤4000):Bd ⟨p,s,a,o,ev0⟩ maxI=decide ((Ah s a 8000).2.2=0):=by rw[Aoy hl];rfl
theorem Ug {p:Pln} {s:List UInt8} {a:Int} {o:List Ev} (hl:s.length≤4000) (h:(Ah s a 8000).2.2=0):Bd ⟨p,s,a,o,ev0⟩ maxI=true∧Ae ⟨p,s,a,o,ev0⟩ maxI=⟨p,s,(Ah s a 8000).2.1,o,ev0⟩∧An ⟨p,s,a,o,ev0⟩ maxI=(Ah s a 8000).1:=by
 have hok:Bd ⟨p,s,a,o,ev0⟩ maxI=true:=by rw[Yc hl];simpa using h
 refine⟨hok,?_,?_⟩
 ·rw[Aa1 hok,Aoy hl];rfl
 ·unfold An;rw[if_pos hok,Aoy hl]
theorem Aqb {p:Pln} {s:List UInt8} {a:Int} {o:List Ev} {e:List Int} (hl:s.length≤4000) (h: ¬(Ah s a 8000).2.2=0):Fj ⟨⟨p,s,a,o,ev0⟩,e⟩=⟨⟨p,s,a,o,Aw (Ah s a 8000).2.2 (Ah s a 8000).2.1⟩,e⟩:=by
 have hok:Bd ⟨p,s,a,o,ev0⟩ maxI=false:=by rw[Yc hl];simpa using h
 have hv:=X7 hok
 have hf:frmStep ⟨p,s,a,o,ev0⟩=Ae ⟨p,s,a,o,ev0⟩ maxI:=by unfold frmStep;rw[if_pos hok]
 unfold Fj
 simp only[hf,hv]
 rw[if_neg (Ca _ _ _),Aoy hl]
 rfl
theorem Aoz {p:Pln} {s:List UInt8} {a:Int} {o:List Ev} {e:List Int} (hl:s.length≤4000) (h:(Ah s a 8000).2.2=0) (hm:p.most<(Ah s a 8000).1):Fj ⟨⟨p,s,a,o,ev0⟩,e⟩=⟨⟨p,s,(Ah s a 8000).2.1,o,Aw 7 a⟩,e⟩:=by
 obtain ⟨h1,h2,h3⟩:=Ug (p:=p) (o:=o) hl h
 have hf:frmStep ⟨p,s,a,o,ev0⟩=Bg ⟨p,s,(Ah s a 8000).2.1,o,ev0⟩ 7 a:=by
  unfold frmStep;rw[if_neg (by simp[h1]),h3,if_pos hm,h2]
 unfold Fj
 simp only[hf]
 rw[if_neg (Ca _ _ _)]
 rfl
theorem Uh {p:Pln} {s:List UInt8} {a:Int} {o:List Ev} (hp:B5 p=true) (hl:s.length≤4000) (h:(Ah s a 8000).2.2=0):C5 ⟨p,s,a,o,ev0⟩=Ck (o++[Ds (Ah s a 8000).1]) (B8 p p.root s (Ah s a 8000).2.1 ((Ah s a 8000).2.1+(Ah s a 8000).1) 1):=by
 obtain ⟨h1,h2,h3⟩:=Ug (p:=p) (o:=o) hl h
 have hw:=Mq h
 have hb:=Lh s a 8000
 have ht:=By hp
 have hr:Z4 p p.root s (Ah s a 8000).2.1 ((Ah s a 8000).2.1+(Ah s a 8000).1) 1=true:=by
  simp only[Z4,Aq,Bool.and_eq_true,decide_eq_true_eq]
  exact⟨⟨⟨⟨hp,by omega,by omega⟩,by omega,by omega⟩,by omega⟩,by omega,by omega⟩
 unfold C5 B8
 rw[if_pos hr,h2,h3,←Z3]
 simp[Am,Ck,mr0]
theorem Aqc {p:Pln} {s:List UInt8} {a:Int} {o:List Ev} {e:List Int} (hp:B5 p=true) (hl:s.length≤4000) (h:(Ah s a 8000).2.2=0) (hm: ¬p.most<(Ah s a 8000).1) (hk: ¬(B8 p p.root s (Ah s a 8000).2.1 ((Ah s a 8000).2.1+(Ah s a 8000).1) 1).fail.kind=0):
  Fj ⟨⟨p,s,a,o,ev0⟩,e⟩=⟨Ck (o++[Ds (Ah s a 8000).1]) (B8 p p.root s (Ah s a 8000).2.1 ((Ah s a 8000).2.1+(Ah s a 8000).1) 1),e⟩:=by
 obtain ⟨h1,h2,h3⟩:=Ug (p:=p) (o:=o) hl h
 have hf:frmStep ⟨p,s,a,o,ev0⟩=C5 ⟨p,s,a,o,ev0⟩:=by
  unfold frmStep;rw[if_neg (by simp[h1]),h3,if_neg hm,Uh hp hl h,if_neg (show¬(Ck (o++[Ds (Ah s a 8000).1]) (B8 p p.root s (Ah s a 8000).2.1 ((Ah s a 8000).2.1+(Ah s a 8000).1) 1)).fail.kind=0 from hk)]
 unfold Fj
 simp only[hf,Uh hp hl h]
 rw[if_neg (show¬(Ck (o++[Ds (Ah s a 8000).1]) (B8 p p.root s (Ah s a 8000).2.1 ((Ah s a 8000).2.1+(Ah s a 8000).1) 1)).fail.kind=0 from hk)]
theorem Yd {p:Pln} {shape:Int} {s:List UInt8} {a e d:Int} (hl:a≤(s.length:Int)):Adv (mr0 p s a) (B8 p shape s a e d):=by
 unfold B8;split
 ·exact Ub (r:=mr0 p s a) hl
 ·exact Adv.refl (mr0 p s a) hl
theorem Aqd {p:Pln} {s:List UInt8} {a:Int} {o:List Ev} {e:List Int} (hp:B5 p=true) (hl:s.length≤4000) (h:(Ah s a 8000).2.2=0) (hm: ¬p.most<(Ah s a 8000).1) (hk:(B8 p p.root s (Ah s a 8000).2.1 ((Ah s a 8000).2.1+(Ah s a 8000).1) 1).fail.kind=0):
  Fj ⟨⟨p,s,a,o,ev0⟩,e⟩=⟨⟨p,s,(Ah s a 8000).2.1+(Ah s a 8000).1,((o++[Ds (Ah s a 8000).1])++(B8 p p.root s (Ah s a 8000).2.1 ((Ah s a 8000).2.1+(Ah s a 8000).1) 1).out)++[frameEndEv],ev0⟩,e++[(Ah s a 8000).2.1+(Ah s a 8000).1]⟩:=by
 obtain ⟨h1,h2,h3⟩:=Ug (p:=p) (o:=o) hl h
 have hw:=Mq h
 have hb:=Lh s a 8000
 have hf:frmStep ⟨p,s,a,o,ev0⟩=Am (C5 ⟨p,s,a,o,ev0⟩) frameEndEv:=by
  unfold frmStep;rw[if_neg (by simp[h1]),h3,if_neg hm,Uh hp hl h,if_pos (show (Ck (o++[Ds (Ah s a 8000).1]) (B8 p p.root s (Ah s a 8000).2.1 ((Ah s a 8000).2.1+(Ah s a 8000).1) 1)).fail.kind=0 from hk)]
 have hadv:=Yd (p:=p) (shape:=p.root) (s:=s) (a:=(Ah s a 8000).2.1) (e:=(Ah s a 8000).2.1+(Ah s a 8000).1) (d:=1) (by omega)
 have hat:(B8 p p.root s (Ah s a 8000).2.1 ((Ah s a 8000).2.1+(Ah s a 8000).1) 1).at_=(Ah s a 8000).2.1+(Ah s a 8000).1:=by
  have hfr:=Uh (o:=o) hp hl h
  have hk2:(C5 ⟨p,s,a,o,ev0⟩).fail.kind=0:=by rw[hfr];exact hk
  have hat2:(C5 ⟨p,s,a,o,ev0⟩).at_=(Ae ⟨p,s,a,o,ev0⟩ maxI).at_+An ⟨p,s,a,o,ev0⟩ maxI:=by
   refine Ae7 ?_ ?_ ?_ hk2
   ·rw[h2];show (Ah s a 8000).2.1≤(s.length:Int);omega
   ·rw[h2,h3];show (Ah s a 8000).2.1≤(Ah s a 8000).2.1+(Ah s a 8000).1;omega
   ·rw[h2];rfl
  rw[hfr,h2,h3] at hat2
  exact hat2
 have hfa:(B8 p p.root s (Ah s a 8000).2.1 ((Ah s a 8000).2.1+(Ah s a 8000).1) 1).fail=ev0:=hadv.fail hk
 have hpl:(B8 p p.root s (Ah s a 8000).2.1 ((Ah s a 8000).2.1+(Ah s a 8000).1) 1).plan=p:=hadv.plan
 have hs:(B8 p p.root s (Ah s a 8000).2.1 ((Ah s a 8000).2.1+(Ah s a 8000).1) 1).s=s:=hadv.s
 unfold Fj
 simp only[hf,Uh hp hl h]
 rw[if_pos (show (Am (Ck (o++[Ds (Ah s a 8000).1]) (B8 p p.root s (Ah s a 8000).2.1 ((Ah s a 8000).2.1+(Ah s a 8000).1) 1)) frameEndEv).fail.kind=0 from hk)]
 simp only[Am,Ck,hat,hfa,hpl,hs]
def D3 (p:Pln) (s:List UInt8):List Ev:=if B5 p=true∧s.length≤4000 then E7 p s else []
theorem Ago {p:Pln} {s:List UInt8} (hs:s.length≤4000):(E7 p s).length≤16001:=by
 suffices h:((Fu p s).r.out.length:Int)≤16000 by
  unfold E7;rw[List.length_append];simp only[List.length_cons,List.length_nil];omega
 have key: ∀(k:Nat) (w:Wh),w.r.at_≤(w.r.s.length:Int)→Adv w.r (Cz Agn Fj k w).r:=by
  intro k
  induction k with
  |zero=>intro w h;exact Adv.refl _ h
  |succ k ih=>
   intro w h
   unfold Cz
   cases hg:Agn w with
   |false=>exact Adv.refl _ h
   |true=>
    have hk:w.r.fail.kind=0:=Gf hg
    have hf:=Gg h hk
    simp only[if_true]
    by_cases hk2:(frmStep w.r).fail.kind=0
    ·exact hf.1.trans hk2 (ih (Fj w) (by show (frmStep w.r).at_≤((frmStep w.r).s.length:Int);rw[hf.1.s];exact(hf.1.at_ hk2).2))
    ·have:Cz Agn Fj k (Fj w)=Fj w:=Cn (by
      cases hg':Agn (Fj w) with
      |false=>rfl
      |true=>exact(hk2 (Gf hg')).elim)
     rw[this];exact hf.1
 have:=(key (Gq (wh0 p s).r) (wh0 p s) (by simp[wh0,mr0])).most
 have e:(Fu p s)=Cz Agn Fj (Gq (wh0 p s).r) (wh0 p s):=rfl
 rw[e]
 simp only[wh0,mr0,List.length_nil] at this ⊢
 omega
theorem Agp (r:Mr):frmStep r=if Bd r 9223372036854775807=false then Ae r 9223372036854775807 else if r.plan.most<An r 9223372036854775807 then Bg (Ae r 9223372036854775807) 7 r.at_ else if (C5 r).fail.kind=0 then Am (C5 r) frameEndEv else C5 r:=rfl
theorem Ajp (r:Mr):C5 r=D8 (Int.toNat (r.plan.deep-1)) r.plan.root ((Ae r 9223372036854775807).at_+An r 9223372036854775807) (Am (Ae r 9223372036854775807) (Ds (An r 9223372036854775807))):=rfl
theorem Ajq (p:Pln) (shape:Int) (s:List UInt8) (at_:Int) (end_:Int) (deep:Int) (hp1:s.length≤1048576) (hp2:end_≤9223372036854775807):Fun Tryz.prog 111 [.agg (Ex p),vI shape,vT s,vI at_,vI end_,vI deep] [] (.tup [vO 0,.agg (cEv (B8 p shape s at_ end_ deep).fail)]) [.lst .ev (B8 p shape s at_ end_ deep).out]:=by
 have hN:Be=274877906944:=rfl
 refine Ar Tryz.func111 Q4 Q4 (w:=let zi:Int→C:= .int .i64;let z1:List C:=[zi 0,zi 0,.int .u64 0,zi 0,.str [],zi 0,zi 0];let z3:=B8 p shape s at_ end_ deep;let z4:=(p.shapes.length:Int)-1;let z6:=Aq at_ 0 (s.length:Int);let z7:List V:=[vO 0,.agg (cEv z3.fail)];let z8:=(.tup [vO 0,.agg z1]:S);let z9:List Blk:=[.lst .ev z3.out];let z11:=Aq deep 1 p.deep;let z12:=Aq shape 0 z4;let z13:=([]:List Ev);let z5:=([.lst .ev z13]:List Blk);let z10:=(⟨p,s,at_,z13,(⟨0,0,0,0,[],0,0⟩:Ev)⟩:Mr);let z2:=D8 (Int.toNat ((z10).plan.deep-deep)) shape end_ z10;let z14:List Blk:=[.cells (B7 2 z2),.dead,.lst .ev z2.out];(.seg [.call [] (.v (vB (B5 p))) []] (.br (.seg [.ty .ev] (.leaf () [2])) (.seg [.as 24 (.v (vI z4)),.call [] (.v (vB z12)) []] (.br (.seg [.ty .ev] (.leaf () [2])) (.seg [.call [] (.v (vB z6)) []] (.br (.seg [.ty .ev] (.leaf () [2])) (.br (.seg [.ty .ev] (.leaf () [2])) (.seg [.call [] (.v (vB z11)) []] (.br (.seg [.ty .ev] (.leaf () [2])) (.seg [.at 5,.mk 2 6 .ev,.call [2,3] (.tup []) z14,.ord [(1,true),(2,true),(3,true),(4,true),(6,true),(7,true),(8,true),(9,true),(0,false),(5,false),(10,true),(11,false)] [4],.ty .ev,.ty .ev] (.leaf () [6])))))))))),(Fun Tryz.prog 34 [.agg (Ex p)] [] (.v (vB (B5 p))) [])∧((!(B5 p))=true→z8= .tup z7∧z5=z9)∧((!(B5 p))=false→((.v (vI (IntKind.i64.wrap z4)):S)= .v (vI z4))∧(Fun Tryz.prog 59 [vI shape,vI 0,vI z4] [] (.v (vB z12)) [])∧((!z12)=true→z8= .tup z7∧z5=z9)∧((!z12)=false→(Fun Tryz.prog 59 [vI at_,vI 0,vI (s.length:Int)] [] (.v (vB z6)) [])∧((!z6)=true→z8= .tup z7∧z5=z9)∧((!z6)=false→((decide (end_<at_))=true→z8= .tup z7∧z5=z9)∧((decide (end_<at_))=false→(Fun Tryz.prog 59 [vI deep,vI 1,vI p.deep] [] (.v (vB z11)) [])∧((!z11)=true→z8= .tup z7∧z5=z9)∧((!z11)=false→(Fun Tryz.prog 164 [vP 0,vI shape,vI end_,vI deep] [.cells (.seq .shp p.shapes::zi p.root::zi p.deep::zi p.most:: .str s::zi at_:: .own 1::z1),.lst .ev z13] (.tup []) z14)∧(z13.length+z2.out.length≤Be)∧(.tup [vO 0,.agg (cEv z2.fail)]:S)= .tup z7∧([.lst .ev (z13++z2.out)]:List Blk)=z9))))))) Q4 ?_
 refine⟨(Rt p),fun h1=>have q1:=Ap h1;?_,fun h1=>have q1:=Ao h1;have p1:=By q1;?_⟩
 refine have hm1:(B8 p shape s at_ end_ deep).fail=(⟨0,0,0,0,[],0,0⟩:Ev):=?_;?_
 rotate_left
 refine have hm2:(B8 p shape s at_ end_ deep).out=([]:List Ev):=?_;?_
 rotate_left
 refine⟨(congrArg S.tup (Aa rfl (Aa (congrArg V.agg (Aa (congrArg (C.int .i64) ?_) (Aa (congrArg (C.int .i64) ?_) (Aa (congrArg (C.int .u64) ?_) (Aa (congrArg (C.int .i64) ?_) (Aa (congrArg C.str ?_) (Aa (congrArg (C.int .i64) ?_) (Aa (congrArg (C.int .i64) ?_) rfl)))))))) rfl))),(by rw[hm2]<;>rfl)⟩
 rotate_left 7
 have hpt:=By q1
 refine⟨(Ac Q2 Q2),(Bh _ _ _),fun h2=>have q2:=Ap h2;have p2:=A4 q2;?_,fun h2=>have q2:=Ao h2;have p2:=Av q2;?_⟩
 refine have hm1:(B8 p shape s at_ end_ deep).fail=(⟨0,0,0,0,[],0,0⟩:Ev):=?_;?_
 rotate_left
 refine have hm2:(B8 p shape s at_ end_ deep).out=([]:List Ev):=?_;?_
 rotate_left
 refine⟨(congrArg S.tup (Aa rfl (Aa (congrArg V.agg (Aa (congrArg (C.int .i64) ?_) (Aa (congrArg (C.int .i64) ?_) (Aa (congrArg (C.int .u64) ?_) (Aa (congrArg (C.int .i64) ?_) (Aa (congrArg C.str ?_) (Aa (congrArg (C.int .i64) ?_) (Aa (congrArg (C.int .i64) ?_) rfl)))))))) rfl))),(by rw[hm2]<;>rfl)⟩
 rotate_left 7
 refine⟨(Bh _ _ _),fun h3=>have q3:=Ap h3;have p3:=A4 q3;?_,fun h3=>have q3:=Ao h3;have p3:=Av q3;?_⟩
 refine have hm1:(B8 p shape s at_ end_ deep).fail=(⟨0,0,0,0,[],0,0⟩:Ev):=?_;?_
 rotate_left
 refine have hm2:(B8 p shape s at_ end_ deep).out=([]:List Ev):=?_;?_
 rotate_left
 refine⟨(congrArg S.tup (Aa rfl (Aa (congrArg V.agg (Aa (congrArg (C.int .i64) ?_) (Aa (congrArg (C.int .i64) ?_) (Aa (congrArg (C.int .u64) ?_) (Aa (congrArg (C.int .i64) ?_) (Aa (congrArg C.str ?_) (Aa (congrArg (C.int .i64) ?_) (Aa (congrArg (C.int .i64) ?_) rfl)))))))) rfl))),(by rw[hm2]<;>rfl)⟩
 rotate_left 7
 refine dsp (fun h4 p4=>?_) fun h4 p4=>?_
 refine have hm1:(B8 p shape s at_ end_ deep).fail=(⟨0,0,0,0,[],0,0⟩:Ev):=?_;?_
 rotate_left
 refine have hm2:(B8 p shape s at_ end_ deep).out=([]:List Ev):=?_;?_
 rotate_left
 refine⟨(congrArg S.tup (Aa rfl (Aa (congrArg V.agg (Aa (congrArg (C.int .i64) ?_) (Aa (congrArg (C.int .i64) ?_) (Aa (congrArg (C.int .u64) ?_) (Aa (congrArg (C.int .i64) ?_) (Aa (congrArg C.str ?_) (Aa (congrArg (C.int .i64) ?_) (Aa (congrArg (C.int .i64) ?_) rfl)))))))) rfl))),(by rw[hm2]<;>rfl)⟩
 rotate_left 7
 refine⟨(Bh _ _ _),fun h5=>have q5:=Ap h5;have p5:=A4 q5;?_,fun h5=>have q5:=Ao h5;have p5:=Av q5;?_⟩
 refine have hm1:(B8 p shape s at_ end_ deep).fail=(⟨0,0,0,0,[],0,0⟩:Ev):=?_;?_
 rotate_left
 refine have hm2:(B8 p shape s at_ end_ deep).out=([]:List Ev):=?_;?_
 rotate_left
 refine⟨(congrArg S.tup (Aa rfl (Aa (congrArg V.agg (Aa (congrArg (C.int .i64) ?_) (Aa (congrArg (C.int .i64) ?_) (Aa (congrArg (C.int .u64) ?_) (Aa (congrArg (C.int .i64) ?_) (Aa (congrArg C.str ?_) (Aa (congrArg (C.int .i64) ?_) (Aa (congrArg (C.int .i64) ?_) rfl)))))))) rfl))),(by rw[hm2]<;>rfl)⟩
 rotate_left 7
 refine⟨(Aq8 (⟨p,s,at_,([]:List Ev),(⟨0,0,0,0,[],0,0⟩:Ev)⟩:Mr) _ _ _ Q38 Q38 Q38 Q38 Q38 Q2 (by simp_all) Q38),(Nat.le_trans (Nat.le_of_eq (Nat.zero_add _)) (Z2 (by dsimp only;omega) (by simp only[List.length_nil];omega))),?_⟩
 refine have hm1:(B8 p shape s at_ end_ deep).fail=(D8 (Int.toNat (((⟨p,s,at_,([]:List Ev),(⟨0,0,0,0,[],0,0⟩:Ev)⟩:Mr)).plan.deep-deep)) shape end_ (⟨p,s,at_,([]:List Ev),(⟨0,0,0,0,[],0,0⟩:Ev)⟩:Mr)).fail:=?_;?_
 rotate_left
 refine have hm2:(B8 p shape s at_ end_ deep).out=([]:List Ev)++(D8 (Int.toNat (((⟨p,s,at_,([]:List Ev),(⟨0,0,0,0,[],0,0⟩:Ev)⟩:Mr)).plan.deep-deep)) shape end_ (⟨p,s,at_,([]:List Ev),(⟨0,0,0,0,[],0,0⟩:Ev)⟩:Mr)).out:=?_;?_
 rotate_left
 refine⟨(congrArg S.tup (Aa rfl (Aa (congrArg V.agg (Aa (congrArg (C.int .i64) ?_) (Aa (congrArg (C.int .i64) ?_) (Aa (congrArg (C.int .u64) ?_) (Aa (congrArg (C.int .i64) ?_) (Aa (congrArg C.str ?_) (Aa (congrArg (C.int .i64) ?_) (Aa (congrArg (C.int .i64) ?_) rfl)))))))) rfl))),(by rw[hm2]<;>rfl)⟩
 rotate_left 7
 all_goals first|(simp_all[B8,Z4,mr0,ev0,Aq];done)|(grind[B8,Z4,mr0,ev0])|(grind[B8,Z4,mr0,ev0,Aq])
structure Wu where
 out:List Ev
 places:List Int
 at_:Int
def Wv (p:Pln) (s:List UInt8):Fam:=⟨Wu,fun q1=>[(1,.v (vT s)),(2,.v (vP 0)),(6,.v (vO 1)),(7,.v (vO 2)),(8,.v (vI q1.at_))],fun q1=>[.cells (Ex p),.lst .ev q1.out,.lst .int q1.places],fun q1=>WInv (wh0 p s) ⟨⟨p,s,q1.at_,q1.out,ev0⟩,q1.places⟩,fun q1=>Gq ⟨p,s,q1.at_,q1.out,ev0⟩⟩
theorem Aq9 (p:Pln) (s:List UInt8) (hp1:B5 p=true) (hp2:s.length≤4000):Fun Tryz.prog 50 [.agg (Ex p),vT s] [] (.tup [vO 0,vO 1]) [.lst .ev (E7 p s),.lst .int (Fu p s).ends]:=by
 have hN:Be=274877906944:=rfl
 have hpt:=By hp1
 refine Ar Tryz.func50 Q4 Q4 (w:=let z6:List Blk:=[.lst .ev (E7 p s),.lst .int (Fu p s).ends];let z8:=(⟨9,0,0,0,[],0,(s.length:Int)⟩:Ev);let z9:=Wv p s;let z10:List V:=[vO 0,vO 1];let z7:=(.tup z10:S);(.seg [.ty .ev,.ty .int,.at 0,.keep [1,2,6,7,8],.sel [0,1,2]] (.loop z9 fun q1=>let z1:=Ah s q1.at_ 8000;.br (.seg [.call [] (.tup [.c (.int .u64 z1.1),vI z1.2.1,vI z1.2.2]) []] (.br (.seg [.call [] (.v (.agg (cEv (Aw z1.2.2 z1.2.1)))) [],.ty .ev,.ty .ev] (.leaf () [4,2])) (.seg [.as 40 (.v (.c (.int .u64 p.most)))] (.br (.seg [.call [] (.v (.agg (cEv (Aw 7 q1.at_)))) [],.ty .ev,.ty .ev] (.leaf () [4,2])) (.seg [.as 49 (.v (vI z1.1)),.ty .ev,.ty .ev,.as 63 (.v (vI (z1.2.1+z1.1))),.call [] (.tup [vO 0,.agg (cEv (B8 p p.root s z1.2.1 (z1.2.1+z1.1) 1).fail)]) [.lst .ev (B8 p p.root s z1.2.1 (z1.2.1+z1.1) 1).out],.ty .ev] (.br (.seg [.ty .ev,.ty .ev] (.leaf () [9,2])) (.seg [.ty .ev,.ty .ev,.as 84 (.v (vI (z1.2.1+z1.1))),.ty .int,.ty .int,.at 0,.keep [1,2,6,7,8],.sel [0,9,11]] (.next)))))))) (.seg [.ty .ev,.ty .ev] (.leaf () [4,2]))),z9.Has [(1,.v (vT s)),(2,.v (vP 0)),(6,.v (vO 1)),(7,.v (vO 2)),(8,.v (vI 0))] [.cells (Ex p),.lst .ev ([]:List Ev),.lst .int [0]]∧∀q1,z9.inv q1→(let z2:=Ah s q1.at_ 8000;let z4:=decide (q1.at_<(s.length:Int));let z5:=q1.out++[(⟨1,0,0,z2.1,[],0,0⟩:Ev)];let z3:=z5++(B8 p p.root s z2.2.1 (z2.2.1+z2.1) 1).out;(z4=true→(Fun Tryz.prog 109 [vT s,vI q1.at_,vI 8000] [] (.tup [.c (.int .u64 z2.1),vI z2.2.1,vI z2.2.2]) [])∧((!decide (z2.2.2=0))=true→(Fun Tryz.prog 110 [vI z2.2.2,vI z2.2.1] [] (.v (.agg (cEv (Aw z2.2.2 z2.2.1)))) [])∧(q1.out.length+List.length [(Aw z2.2.2 z2.2.1)]≤Be)∧z7= .tup z10∧([.lst .ev (q1.out++[(Aw z2.2.2 z2.2.1)]),.lst .int q1.places]:List Blk)=z6)∧((!decide (z2.2.2=0))=false→((.v (.c (.int .u64 (IntKind.u64.wrap (p.most)))):S)= .v (.c (.int .u64 p.most)))∧((decide (p.most<z2.1))=true→(Fun Tryz.prog 110 [vI 7,vI q1.at_] [] (.v (.agg (cEv (Aw 7 q1.at_)))) [])∧(q1.out.length+List.length [(Aw 7 q1.at_)]≤Be)∧z7= .tup z10∧([.lst .ev (q1.out++[(Aw 7 q1.at_)]),.lst .int q1.places]:List Blk)=z6)∧((decide (p.most<z2.1))=false→((.v (vI (IntKind.i64.wrap (z2.1))):S)= .v (vI z2.1))∧(q1.out.length+List.length [(⟨1,0,0,z2.1,[],0,0⟩:Ev)]≤Be)∧((.v (vI (IntKind.i64.wrap (z2.2.1+z2.1))):S)= .v (vI (z2.2.1+z2.1)))∧(Fun Tryz.prog 111 [.agg (Ex p),vI p.root,vT s,vI z2.2.1,vI (z2.2.1+z2.1),vI 1] [] (.tup [vO 0,.agg (cEv (B8 p p.root s z2.2.1 (z2.2.1+z2.1) 1).fail)]) [.lst .ev (B8 p p.root s z2.2.1 (z2.2.1+z2.1) 1).out])∧(z5.length+List.length (B8 p p.root s z2.2.1 (z2.2.1+z2.1) 1).out≤Be)∧((!decide ((B8 p p.root s z2.2.1 (z2.2.1+z2.1) 1).fail.kind=0))=true→(z3.length+List.length [(B8 p p.root s z2.2.1 (z2.2.1+z2.1) 1).fail]≤Be)∧z7= .tup z10∧([.lst .ev (z3++[(B8 p p.root s z2.2.1 (z2.2.1+z2.1) 1).fail]),.lst .int q1.places]:List Blk)=z6)∧((!decide ((B8 p p.root s z2.2.1 (z2.2.1+z2.1) 1).fail.kind=0))=false→(z3.length+List.length [(⟨8,0,0,0,[],0,0⟩:Ev)]≤Be)∧((.v (vI (IntKind.i64.wrap (z2.2.1+z2.1))):S)= .v (vI (z2.2.1+z2.1)))∧(q1.places.length+List.length [z2.2.1+z2.1]≤Be)∧z9.Nxt q1 [(1,.v (vT s)),(2,.v (vP 0)),(6,.v (vO 1)),(7,.v (vO 2)),(8,.v (vI (z2.2.1+z2.1)))] [.cells (Ex p),.lst .ev (z3++[(⟨8,0,0,0,[],0,0⟩:Ev)]),.lst .int (q1.places++[z2.2.1+z2.1])]))))∧(z4=false→(q1.out.length+List.length [z8]≤Be)∧z7= .tup z10∧([.lst .ev (q1.out++[z8]),.lst .int q1.places]:List Blk)=z6)))) Q4 ?_
 refine⟨Bs (j:=(⟨([]:List Ev),[0],0⟩:Wu)) rfl rfl (by dsimp only[Wv];exact WInv.refl),fun (q1:Wu) hq_q1=>?_⟩
 have hi_q1:WInv (wh0 p s) ⟨⟨p,s,q1.at_,q1.out,ev0⟩,q1.places⟩:=hq_q1
 have hrm:=hi_q1.room rfl
 dsimp only at hrm
 have hen:=hi_q1.ends rfl
 dsimp only at hen
 have hvb:=Lh s q1.at_ 8000
 refine dsp (fun h1 p1=>?_) fun h1 p1=>?_
 refine⟨(Xk _ _ _ Q2),fun h2=>have q2:=Ap h2;have p2:=of_decide_eq_false q2;?_,fun h2=>have q2:=Ao h2;have p2:=of_decide_eq_true q2;?_⟩
 refine⟨(Dk _ _),Q6,rfl,(Aa (congrArg (Blk.lst .ev) ?_) (Aa (congrArg (Blk.lst .int) ?_) rfl))⟩
 rotate_left 2
 have hw:=Mq p2
 have hra:((B8 p p.root s (Ah s q1.at_ 8000).2.1 ((Ah s q1.at_ 8000).2.1+(Ah s q1.at_ 8000).1) 1).out.length:Int)≤4*4000:=by have:=(Yd (p:=p) (shape:=p.root) (s:=s) (a:=(Ah s q1.at_ 8000).2.1) (e:=(Ah s q1.at_ 8000).2.1+(Ah s q1.at_ 8000).1) (d:=1) (by omega)).most;simp only[mr0,List.length_nil] at this;omega
 refine⟨(Bp Q2 Q2),dsp (fun h3 p3=>?_) fun h3 p3=>?_⟩
 refine⟨(Dk _ _),Q6,rfl,(Aa (congrArg (Blk.lst .ev) ?_) (Aa (congrArg (Blk.lst .int) ?_) rfl))⟩
 rotate_left 2
 refine⟨(Ac Q2 Q2),Q6,(Ac Q2 Q2),(Ajq p _ _ _ _ _ Q2 Q2),Q23,fun h4=>have q4:=Ap h4;have p4:=of_decide_eq_false q4;?_,fun h4=>have q4:=Ao h4;have p4:=of_decide_eq_true q4;?_⟩
 refine⟨Q23,rfl,(Aa (congrArg (Blk.lst .ev) ?_) (Aa (congrArg (Blk.lst .int) ?_) rfl))⟩
 rotate_left 2
 exact⟨Q23,(Ac Q2 Q2),Q6,Bc (j:=(⟨((q1.out++[(⟨1,0,0,(Ah s q1.at_ 8000).1,[],0,0⟩:Ev)])++(B8 p p.root s (Ah s q1.at_ 8000).2.1 ((Ah s q1.at_ 8000).2.1+(Ah s q1.at_ 8000).1) 1).out)++[(⟨8,0,0,0,[],0,0⟩:Ev)],q1.places++[(Ah s q1.at_ 8000).2.1+(Ah s q1.at_ 8000).1],_⟩:Wu)) rfl rfl (by dsimp only[Wv];exact(hi_q1.next (by show q1.at_<_;omega) rfl (Aqd hp1 hp2 Q84 Q84 Q84)).1) (by dsimp only[Wv];exact(hi_q1.next (by show q1.at_<_;omega) rfl (Aqd hp1 hp2 Q84 Q84 Q84)).2)⟩
 refine⟨Q6,rfl,(Aa (congrArg (Blk.lst .ev) ?_) (Aa (congrArg (Blk.lst .int) ?_) rfl))⟩
 rotate_left 2
 all_goals first|((have hw:=hi_q1.end_ (by show¬q1.at_<_;omega);first|(rw[E7,hw];simp[ev0,Ae8];done)|(rw[hw];done)))|((have hw:=hi_q1.leave (by show q1.at_<_;omega) rfl (Aqb hp2 (by assumption)) (by first|assumption|simp[Aw]);first|(rw[E7,hw];simp[Aw,Ck,Ds, *];done)|(rw[hw];done)))|((have hw:=hi_q1.leave (by show q1.at_<_;omega) rfl (Aoz hp2 (by assumption) (by assumption)) (by first|assumption|simp[Aw]);first|(rw[E7,hw];simp[Aw,Ck,Ds, *];done)|(rw[hw];done)))|((have hw:=hi_q1.leave (by show q1.at_<_;omega) rfl (Aqc hp1 hp2 (by assumption) (by assumption) (by assumption)) (by first|assumption|simp[Aw]);first|(rw[E7,hw];simp[Aw,Ck,Ds, *];done)|(rw[hw];done)))
theorem Ajr (p:Pln) (s:List UInt8) (hp1:s.length≤1048576):Fun Tryz.prog 14 [.agg (Ex p),vT s] [] (.v (vO 0)) [.lst .ev (D3 p s)]:=by
 have hN:Be=274877906944:=rfl
 refine Ar Tryz.func14 Q4 Q4 (w:=let z1:=decide (4000<(s.length:Int));let z2:List Blk:=[.lst .ev (E7 p s),.lst .int (Fu p s).ends];let z3:=([.lst .ev ([]:List Ev)]:List Blk);let z4:List Blk:=[.lst .ev (D3 p s)];(.seg [.call [] (.v (vB (B5 p))) []] (.br (.seg [.ty .ev] (.leaf () [1])) (.br (.seg [.ty .ev] (.leaf () [1])) (.seg [.call [] (.tup [vO 0,vO 1]) z2] (.leaf () [1])))),(Fun Tryz.prog 34 [.agg (Ex p)] [] (.v (vB (B5 p))) [])∧((!(B5 p))=true→(.v (vO 0):S)= .v (vO 0)∧z3=z4)∧((!(B5 p))=false→(z1=true→(.v (vO 0):S)= .v (vO 0)∧z3=z4)∧(z1=false→(Fun Tryz.prog 50 [.agg (Ex p),vT s] [] (.tup [vO 0,vO 1]) z2)∧(.v (vO 0):S)= .v (vO 0)∧([.lst .ev (E7 p s)]:List Blk)=z4)))) Q4 ?_
 refine⟨(Rt p),fun h1=>have q1:=Ap h1;?_,fun h1=>have q1:=Ao h1;have p1:=By q1;?_⟩
 refine⟨rfl,(Aa (congrArg (Blk.lst .ev) ?_) rfl)⟩
 rotate_left
 refine dsp (fun h2 p2=>?_) fun h2 p2=>?_
 refine⟨rfl,(Aa (congrArg (Blk.lst .ev) ?_) rfl)⟩
 rotate_left
 have hwl:D3 p s=E7 p s:=by unfold D3;rw[if_pos ⟨by simp_all,by omega⟩]
 refine⟨(Aq9 p _ Q2 Q2),rfl,(Aa (congrArg (Blk.lst .ev) ?_) rfl)⟩
 rotate_left
 all_goals first|(simp_all[D3];done)|(grind[D3])
theorem Jo {p:Pln} {s:List UInt8} :(D3 p s).length≤16001:=by unfold D3;split;exact Ago (by omega);simp
theorem Aqe {x y:Ev} (h:x.kind=y.kind∧x.field=y.field∧x.bits=y.bits∧x.len=y.len∧x.text=y.text∧x.code=y.code∧x.at_=y.at_):x=y:=by
 cases x;cases y;simp at h ⊢;exact h
theorem Ajs {a b:List Ev} {i:Nat} {x y:Ev} (h:a.take i=b.take i) (hx:a[i]? =some x) (hy:b[i]? =some y) (e:x=y):a.take (i+1)=b.take (i+1):=by
 rw[List.take_add_one,List.take_add_one,h,hx,hy,e]
theorem Amn {a b:List Ev} {i:Nat} (h:a.take i=b.take i) (hl:a.length=b.length) (hi:a.length≤i):a=b:=by
 rwa [List.take_of_length_le hi,List.take_of_length_le (by omega)] at h
structure Mt where
 i:Nat
def Mu (a:List Ev) (b:List Ev):Fam:=⟨Mt,fun q1=>[(0,.v (.c (.seq .ev a))),(1,.v (.c (.seq .ev b))),(5,.v (vI ((q1.i:Nat):Int)))],fun _=>[],fun q1=>q1.i≤List.length a∧List.length a=List.length b∧List.take q1.i a=List.take q1.i b,fun q1=>List.length a-q1.i⟩
theorem Ye (a:List Ev) (b:List Ev) (hp1:List.length a≤Be) (hp2:List.length b≤Be):Fun Tryz.prog 15 [.c (.seq .ev a),.c (.seq .ev b)] [] (.v (vB (decide (a=b)))) []:=by
 have hN:Be=274877906944:=rfl
 refine Ar Tryz.func15 Q4 Q4 (w:=let z3:=((List.length a:Nat):Int);let z4:=Mu a b;let z5:= !decide (z3=((List.length b:Nat):Int));let z6:=vB (decide (a=b));(.br (.leaf () []) (.seg [.at 0,.keep [0,1,5],.sel []] (.loop z4 fun q1=> .br (.intro (fun (x1:Ev)=>a[q1.i]? =some x1) fun x1=> .intro (fun (x2:Ev)=>b[q1.i]? =some x2) fun x2=> .seg [.ord (os 9 []) [],.el .ev x1,.el .ev x2] (.br (.leaf () []) (.seg [.as 16 (.v (vI (((q1.i:Nat):Int)+1))),.at 0,.keep [0,1,5],.sel []] (.next)))) (.leaf () []))),(z5=true→(.v (vB false):S)= .v z6∧([]:List Blk)=[])∧(z5=false→z4.Has [(0,.v (.c (.seq .ev a))),(1,.v (.c (.seq .ev b))),(5,.v (vI 0))] []∧∀q1,z4.inv q1→(let z2:=((q1.i:Nat):Int);((decide (z2<z3))=true→(∃(x1:Ev),a[q1.i]? =some x1)∧∀(x1:Ev),(a[q1.i]? =some x1)→((∃(x2:Ev),b[q1.i]? =some x2)∧∀(x2:Ev),(b[q1.i]? =some x2)→(let z1:= !(decide (x1.kind=x2.kind)&&(decide (x1.field=x2.field)&&(decide (x1.bits=x2.bits)&&(decide (x1.len=x2.len)&&(decide (x1.text=x2.text)&&(decide (x1.code=x2.code)&&decide (x1.at_=x2.at_)))))));(a[q1.i]? =some x1)∧((0:Int)≤z2)∧(a[q1.i]? =some x1)∧((0:Int)≤z2)∧(b[q1.i]? =some x2)∧((0:Int)≤z2)∧(b[q1.i]? =some x2)∧((0:Int)≤z2)∧(z1=true→(.v (vB false):S)= .v z6∧([]:List Blk)=[])∧(z1=false→((.v (vI (IntKind.i64.wrap (z2+1))):S)= .v (vI (z2+1)))∧z4.Nxt q1 [(0,.v (.c (.seq .ev a))),(1,.v (.c (.seq .ev b))),(5,.v (vI (z2+1)))] []))))∧((decide (z2<z3))=false→(.v (vB true):S)= .v z6∧([]:List Blk)=[]))))) Q4 ?_
 refine⟨fun h1=>have q1:=Ap h1;have p1:=of_decide_eq_false q1;?_,fun h1=>have q1:=Ao h1;have p1:=of_decide_eq_true q1;?_⟩
 refine⟨(sB ?_),rfl⟩
 rotate_left
 refine⟨Bs (j:=(⟨0⟩:Mt)) Q9 rfl (by dsimp only[Mu];exact⟨by omega,by omega,by simp⟩),fun (q1:Mt) hq_q1=>?_⟩
 have hi_q1:q1.i≤List.length a∧List.length a=List.length b∧List.take q1.i a=List.take q1.i b:=hq_q1
 obtain ⟨v1,v2,v3⟩:=hi_q1
 refine dsp (fun h2 p2=>?_) fun h2 p2=>?_
 refine⟨(Bq (l:=a) (i:=q1.i) Q2),fun x1 hx1=>?_⟩
 refine⟨(Bq (l:=b) (i:=q1.i) Q2),fun x2 hx2=>?_⟩
 refine⟨hx1,Q2,hx1,Q2,hx2,Q2,hx2,Q2,fun h3=>have q3:=Ap h3;have p3:=(Cx dT (Cx dT (Cx dT (Cx dT (Cx dT (Cx dT dF)))))).1 q3;?_,fun h3=>have q3:=Ao h3;have p3:=(Cw dT (Cw dT (Cw dT (Cw dT (Cw dT (Cw dT dT)))))).1 q3;?_⟩
 refine⟨(sB ?_),rfl⟩
 rotate_left
 exact⟨(Ac Q2 Q2),Bc (j:=(⟨q1.i+1⟩:Mt)) Q9 rfl (by dsimp only[Mu];exact⟨by omega,v2,Ajs v3 hx1 hx2 (Aqe p3)⟩) (by dsimp only[Mu];omega)⟩
 refine⟨(sB ?_),rfl⟩
 rotate_left
 all_goals first|(exact(decide_eq_true (Amn v3 v2 (by omega))).symm)|(exact(decide_eq_false (fun h=>by subst h;omega)).symm)|(exact(decide_eq_false (fun h=>by subst h;rw[hx1] at hx2;cases hx2;simp at p3)).symm)
structure Py where
 r:Mr
 ends:List Int
def Pz (p:Pln) (s:List UInt8):Fam:=⟨Py,fun q1=>[(1,.v (vT s)),(2,.v (vP 0)),(6,.v (vP 1)),(7,.v (vO 3))],fun q1=>[.cells (Ex p),.cells (B7 2 q1.r),.lst .ev q1.r.out,.lst .int q1.ends],fun q1=>WInv (wh0 p s) ⟨q1.r,q1.ends⟩∧(q1.r).fail.kind=0,fun q1=>Gq q1.r⟩
theorem Amo (p:Pln) (s:List UInt8) (hp1:B5 p=true) (hp2:s.length≤4000):Fun Tryz.prog 49 [.agg (Ex p),vT s] [] (.tup [vO 0,vO 1]) [.lst .ev (E7 p s),.lst .int (Fu p s).ends]:=by
 have hN:Be=274877906944:=rfl
 have hpt:=By hp1
 refine Ar Tryz.func49 Q4 Q4 (w:=let zi:Int→C:= .int .i64;let z15:=([(1,.v (vT s)),(2,.v (vP 0)),(6,.v (vP 1)),(7,.v (vO 3))]:List (Nat×S))=[(1,.v (vT s)),(2,.v (vP 0)),(6,.v (vP 1)),(7,.v (vO 3))];let z16:List Blk:=[.lst .ev (E7 p s),.lst .int (Fu p s).ends];let z17:=fr (.first 10 (.one 8 (.one 9 (.first 11 (.first 12 (.done)))))) 0 8;let z18:=(⟨8,0,0,0,[],0,0⟩:Ev);let z20:=(⟨9,0,0,0,[],0,(s.length:Int)⟩:Ev);let z21:=Pz p s;let z22:List V:=[vO 0,vO 1];let z19:=(.tup z22:S);(.seg [.ty .int,.at 0,.mk 1 6 .ev,.keep [1,2,6,7],.sel [0,1,3,2]] (.loop z21 fun q1=>let z2:=Ae q1.r 9223372036854775807;let z1:=(⟨z2.plan,z2.s,z2.at_,z2.out++[(⟨1,0,0,An q1.r 9223372036854775807,[],0,0⟩:Ev)],z2.fail⟩:Mr);let z4:=An q1.r 9223372036854775807;let z3:=D8 (Int.toNat ((z1).plan.deep-1)) p.root (z2.at_+z4) z1;.br (.seg [.call [1,2] (.tup [.c (.int .u64 z4),vB (Bd q1.r 9223372036854775807)]) [.cells (B7 1 z2),.lst .ev z2.out]] (.br (.seg [.as 37 (.v (.c (.int .u64 p.most)))] (.br (.seg [.call [1,2] (.v (vB false)) [.cells (B7 1 (Bg z2 7 q1.r.at_)),.lst .ev (Bg z2 7 q1.r.at_).out],.br false,.br true,.tree z17 9 [],.ty .ev,.ty .ev] (.leaf () [5,3])) (.seg [.br true,.as 50 (.v (vI z4)),.ty .ev,.ty .ev,.tree (fr (.one 10 (.first 11 (.done))) 0 10) 10 [],.as 64 (.v (vI z4)),.as 65 (.v (vI (z2.at_+z4))),.call [1,5] (.v (vB (decide (z3.fail.kind=0)))) [.cells (B7 2 z3),.dead,.lst .ev z3.out]] (.br (.seg [.tree z17 9 [],.ty .ev,.ty .ev] (.leaf () [8,3])) (.seg [.tree (fr (fr (.two 6 (.two 7 (.one 13 (.one 14 (.first 15 (.first 16 (.one 17 (.first 18 (.done))))))) 13 (.one 7 (.one 14 (.first 15 (.first 16 (.one 17 (.first 18 (.done)))))))) 13 (.one 6 (.one 7 (.one 14 (.first 15 (.first 16 (.one 17 (.first 18 (.done))))))))) 8 5) 0 6) 17 [3,6],.ty .ev,.ty .ev,.ty .int,.ty .int,.at 0,.keep [1,2,6,7],.sel [0,1,8,10],.ty .int,.ty .ev,.ty .int,.at 0,.keep [1,2,6,7],.sel [0,1,9,10],.ty .int,.ty .ev,.ty .ev,.ty .int,.at 0,.keep [1,2,6,7],.sel [0,1,9,10],.at 0,.keep [1,2,6,7],.sel [0,1,2,3]] (.next)))))) (.seg [.br false,.br true,.tree z17 9 [],.ty .ev,.ty .ev] (.leaf () [5,3])))) (.seg [.ty .ev,.ty .ev] (.leaf () [5,3]))),z21.Has [(1,.v (vT s)),(2,.v (vP 0)),(6,.v (vP 1)),(7,.v (vO 3))] [.cells (Ex p),.cells [.seq .shp p.shapes,zi p.root,zi p.deep,zi p.most,.str s,zi 0,.own 2,zi 0,zi 0,.int .u64 0,zi 0,.str [],zi 0,zi 0],.lst .ev ([]:List Ev),.lst .int [0]]∧∀q1,z21.inv q1→(let z6:=Ae q1.r 9223372036854775807;let z8:=An q1.r 9223372036854775807;let z9:=(⟨1,0,0,An q1.r 9223372036854775807,[],0,0⟩:Ev);let z5:=D8 (Int.toNat (((⟨z6.plan,z6.s,z6.at_,z6.out++[z9],z6.fail⟩:Mr)).plan.deep-1)) p.root (z6.at_+z8) (⟨z6.plan,z6.s,z6.at_,z6.out++[z9],z6.fail⟩:Mr);let z7:List Blk:=[.cells (Ex p),.cells (B7 2 z5),.lst .ev (z5.out++[z18]),.lst .int (q1.ends++[z5.at_])];let z10:=Bd q1.r 9223372036854775807;let z11:=q1.ends.length+List.length [z5.at_]≤Be;let z12:=Bg z6 7 q1.r.at_;let z13:=decide (q1.r.at_<(s.length:Int));let z14:=decide (p.most<An q1.r 9223372036854775807);(z13=true→(Fun Tryz.prog 106 [vP 0,vI 9223372036854775807] [.cells (B7 1 q1.r),.lst .ev q1.r.out] (.tup [.c (.int .u64 z8),vB z10]) [.cells (B7 1 z6),.lst .ev z6.out])∧(z10=true→((.v (.c (.int .u64 (IntKind.u64.wrap (p.most)))):S)= .v (.c (.int .u64 p.most)))∧(z14=true→(Fun Tryz.prog 107 [vP 0,vI 7,vI q1.r.at_] [.cells (B7 1 z6),.lst .ev z6.out] (.v (vB false)) [.cells (B7 1 z12),.lst .ev z12.out])∧(false=false)∧((!false)=true)∧(z12.out.length+List.length [z12.fail]≤Be)∧z19= .tup z22∧([.lst .ev (z12.out++[z12.fail]),.lst .int q1.ends]:List Blk)=z16)∧(z14=false→(z10=true)∧((.v (vI (IntKind.i64.wrap z8)):S)= .v (vI z8))∧(z6.out.length+List.length [z9]≤Be)∧((.v (vI (IntKind.i64.wrap z8)):S)= .v (vI z8))∧((.v (vI (IntKind.i64.wrap z8)):S)= .v (vI z8))∧((.v (vI (IntKind.i64.wrap (z6.at_+z8))):S)= .v (vI (z6.at_+z8)))∧((.v (vI (IntKind.i64.wrap (z6.at_+z8))):S)= .v (vI (z6.at_+z8)))∧(Fun Tryz.prog 108 [vP 0,vI p.root,vI (z6.at_+z8),vI 1] [.cells (B7 1 z6),.lst .ev (z6.out++[z9])] (.v (vB (decide (z5.fail.kind=0)))) [.cells (B7 2 z5),.dead,.lst .ev z5.out])∧((!(decide (z5.fail.kind=0)))=true→(z5.out.length+List.length [z5.fail]≤Be)∧z19= .tup z22∧([.lst .ev (z5.out++[z5.fail]),.lst .int q1.ends]:List Blk)=z16)∧((!(decide (z5.fail.kind=0)))=false→(z5.out.length+List.length [z18]≤Be)∧z11∧(z5.out.length+List.length [z18]≤Be)∧z11∧((z7:List Blk)=z7)∧z15∧(z5.out.length+List.length [z18]≤Be)∧z11∧((z7:List Blk)=z7)∧z15∧z21.Nxt q1 [(1,.v (vT s)),(2,.v (vP 0)),(6,.v (vP 1)),(7,.v (vO 3))] z7)))∧(z10=false→(z10=false)∧((!z10)=true)∧(z6.out.length+List.length [z6.fail]≤Be)∧z19= .tup z22∧([.lst .ev (z6.out++[z6.fail]),.lst .int q1.ends]:List Blk)=z16))∧(z13=false→(q1.r.out.length+List.length [z20]≤Be)∧z19= .tup z22∧([.lst .ev (q1.r.out++[z20]),.lst .int q1.ends]:List Blk)=z16)))) Q4 ?_
 refine⟨Bs (j:=(⟨(⟨p,s,0,([]:List Ev),(⟨0,0,0,0,[],0,0⟩:Ev)⟩:Mr),[0]⟩:Py)) rfl Q9 (by dsimp only[Pz];exact⟨WInv.refl,rfl⟩),fun (q1:Py) hq_q1=>?_⟩
 have hi_q1:WInv (wh0 p s) ⟨q1.r,q1.ends⟩∧(q1.r).fail.kind=0:=hq_q1
 have hfl:=hi_q1.2
 have hrm:=hi_q1.1.room hfl
 have hen:=hi_q1.1.ends hfl
 dsimp only at hrm hen
 have hfe:=Agp q1.r
 have hfm:=Ajp q1.r
 have hqs:=congrArg List.length hrm.1
 obtain ⟨hv,hv2,hv3⟩:=Eo (r:=q1.r) (e:=9223372036854775807) (by omega)
 have hvk:=C1 (r:=q1.r) (e:=9223372036854775807) hfl
 have hu:=Gs q1.r 9223372036854775807
 have hvs:=congrArg List.length hv.1.s
 have hvo:=congrArg List.length hv3
 have hvp:=hv.1.plan
 have hpl:=hvp.trans hrm.2.1
 refine dsp (fun h1 p1=>?_) fun h1 p1=>?_
 refine⟨(R9 q1.r _ Q2),fun h2=>?_,fun h2=>?_⟩
 have hok:Bd q1.r 9223372036854775807=true:=h2
 have hk:(Ae q1.r 9223372036854775807).fail.kind=0:=by rw[hvk] at hok;simpa using hok
 have ha:=hv.1.at_ hk
 have hb:=hv.2 hk
 have hto:=hv2 hok
 refine⟨(Bp Q2 Q2),dsp (fun h3 p3=>?_) fun h3 p3=>?_⟩
 refine⟨(Hm (Ae q1.r 9223372036854775807) _ _),Q26,Q26,(by simp only[List.length_cons,List.length_nil,List.length_append,List.length_cons,List.length_nil,Bg];omega),rfl,(Aa (congrArg (Blk.lst .ev) ?_) (Aa (congrArg (Blk.lst .int) ?_) rfl))⟩
 rotate_left 2
 refine⟨h2,(Ac Q2 Q2),Q10,(Ac Q2 Q2),(Ac Q2 Q2),(Ac Q2 Q2),(Ac Q2 Q2),(Aq7 (⟨(Ae q1.r 9223372036854775807).plan,(Ae q1.r 9223372036854775807).s,(Ae q1.r 9223372036854775807).at_,(Ae q1.r 9223372036854775807).out++[(⟨1,0,0,An q1.r 9223372036854775807,[],0,0⟩:Ev)],(Ae q1.r 9223372036854775807).fail⟩:Mr) _ _ _ Q10 Q10 (hk) Q10 Q10 Q2 (by rw[hpl];exact hp1) Q77),fun h4=>have q4:=Ap h4;have p4:=of_decide_eq_false q4;?_,fun h4=>have q4:=Ao h4;have p4:=of_decide_eq_true q4;?_⟩
 have hfx:C5 q1.r=(D8 (Int.toNat (((⟨(Ae q1.r 9223372036854775807).plan,(Ae q1.r 9223372036854775807).s,(Ae q1.r 9223372036854775807).at_,(Ae q1.r 9223372036854775807).out++[(⟨1,0,0,An q1.r 9223372036854775807,[],0,0⟩:Ev)],(Ae q1.r 9223372036854775807).fail⟩:Mr)).plan.deep-1)) p.root ((Ae q1.r 9223372036854775807).at_+(An q1.r 9223372036854775807)) (⟨(Ae q1.r 9223372036854775807).plan,(Ae q1.r 9223372036854775807).s,(Ae q1.r 9223372036854775807).at_,(Ae q1.r 9223372036854775807).out++[(⟨1,0,0,An q1.r 9223372036854775807,[],0,0⟩:Ev)],(Ae q1.r 9223372036854775807).fail⟩:Mr)):=by rw[hfm];simp only[Ds,Am,hvp,hrm.2.1]
 have hfs:frmStep q1.r=C5 q1.r:=by rw[hfe,if_neg (by simp[hok]),if_neg (by rw[hrm.2.1];exact p3),if_neg (by rw[hfx];exact p4)]
 have hwh:Fu p s=⟨(D8 (Int.toNat (((⟨(Ae q1.r 9223372036854775807).plan,(Ae q1.r 9223372036854775807).s,(Ae q1.r 9223372036854775807).at_,(Ae q1.r 9223372036854775807).out++[(⟨1,0,0,An q1.r 9223372036854775807,[],0,0⟩:Ev)],(Ae q1.r 9223372036854775807).fail⟩:Mr)).plan.deep-1)) p.root ((Ae q1.r 9223372036854775807).at_+(An q1.r 9223372036854775807)) (⟨(Ae q1.r 9223372036854775807).plan,(Ae q1.r 9223372036854775807).s,(Ae q1.r 9223372036854775807).at_,(Ae q1.r 9223372036854775807).out++[(⟨1,0,0,An q1.r 9223372036854775807,[],0,0⟩:Ev)],(Ae q1.r 9223372036854775807).fail⟩:Mr)),q1.ends⟩:=hi_q1.1.leave (by show q1.r.at_<_;omega) hfl (by unfold Fj;simp only[hfs,hfx];rw[if_neg p4]) p4
 refine⟨(Rj Q10 Q10),rfl,(Aa (congrArg (Blk.lst .ev) ?_) (Aa (congrArg (Blk.lst .int) ?_) rfl))⟩
 rotate_left 2
 have hfx:C5 q1.r=(D8 (Int.toNat (((⟨(Ae q1.r 9223372036854775807).plan,(Ae q1.r 9223372036854775807).s,(Ae q1.r 9223372036854775807).at_,(Ae q1.r 9223372036854775807).out++[(⟨1,0,0,An q1.r 9223372036854775807,[],0,0⟩:Ev)],(Ae q1.r 9223372036854775807).fail⟩:Mr)).plan.deep-1)) p.root ((Ae q1.r 9223372036854775807).at_+(An q1.r 9223372036854775807)) (⟨(Ae q1.r 9223372036854775807).plan,(Ae q1.r 9223372036854775807).s,(Ae q1.r 9223372036854775807).at_,(Ae q1.r 9223372036854775807).out++[(⟨1,0,0,An q1.r 9223372036854775807,[],0,0⟩:Ev)],(Ae q1.r 9223372036854775807).fail⟩:Mr)):=by rw[hfm];simp only[Ds,Am,hvp,hrm.2.1]
 have hfs:frmStep q1.r=Am (C5 q1.r) frameEndEv:=by rw[hfe,if_neg (by simp[hok]),if_neg (by rw[hrm.2.1];exact p3),if_pos (by rw[hfx];exact p4)]
 have hst:Fj ⟨q1.r,q1.ends⟩=⟨Am (D8 (Int.toNat (((⟨(Ae q1.r 9223372036854775807).plan,(Ae q1.r 9223372036854775807).s,(Ae q1.r 9223372036854775807).at_,(Ae q1.r 9223372036854775807).out++[(⟨1,0,0,An q1.r 9223372036854775807,[],0,0⟩:Ev)],(Ae q1.r 9223372036854775807).fail⟩:Mr)).plan.deep-1)) p.root ((Ae q1.r 9223372036854775807).at_+(An q1.r 9223372036854775807)) (⟨(Ae q1.r 9223372036854775807).plan,(Ae q1.r 9223372036854775807).s,(Ae q1.r 9223372036854775807).at_,(Ae q1.r 9223372036854775807).out++[(⟨1,0,0,An q1.r 9223372036854775807,[],0,0⟩:Ev)],(Ae q1.r 9223372036854775807).fail⟩:Mr)) frameEndEv,q1.ends++[(D8 (Int.toNat (((⟨(Ae q1.r 9223372036854775807).plan,(Ae q1.r 9223372036854775807).s,(Ae q1.r 9223372036854775807).at_,(Ae q1.r 9223372036854775807).out++[(⟨1,0,0,An q1.r 9223372036854775807,[],0,0⟩:Ev)],(Ae q1.r 9223372036854775807).fail⟩:Mr)).plan.deep-1)) p.root ((Ae q1.r 9223372036854775807).at_+(An q1.r 9223372036854775807)) (⟨(Ae q1.r 9223372036854775807).plan,(Ae q1.r 9223372036854775807).s,(Ae q1.r 9223372036854775807).at_,(Ae q1.r 9223372036854775807).out++[(⟨1,0,0,An q1.r 9223372036854775807,[],0,0⟩:Ev)],(Ae q1.r 9223372036854775807).fail⟩:Mr)).at_]⟩:=by unfold Fj;simp only[hfs,hfx];rw[if_pos (show (Am (D8 (Int.toNat (((⟨(Ae q1.r 9223372036854775807).plan,(Ae q1.r 9223372036854775807).s,(Ae q1.r 9223372036854775807).at_,(Ae q1.r 9223372036854775807).out++[(⟨1,0,0,An q1.r 9223372036854775807,[],0,0⟩:Ev)],(Ae q1.r 9223372036854775807).fail⟩:Mr)).plan.deep-1)) p.root ((Ae q1.r 9223372036854775807).at_+(An q1.r 9223372036854775807)) (⟨(Ae q1.r 9223372036854775807).plan,(Ae q1.r 9223372036854775807).s,(Ae q1.r 9223372036854775807).at_,(Ae q1.r 9223372036854775807).out++[(⟨1,0,0,An q1.r 9223372036854775807,[],0,0⟩:Ev)],(Ae q1.r 9223372036854775807).fail⟩:Mr)) frameEndEv).fail.kind=0 from p4)];try rfl
 exact⟨(Rj Q10 Q10),Q6,(Rj Q10 Q10),Q6,rfl,rfl,(Rj Q10 Q10),Q6,rfl,rfl,Bc (j:=(⟨(⟨(D8 (Int.toNat (((⟨(Ae q1.r 9223372036854775807).plan,(Ae q1.r 9223372036854775807).s,(Ae q1.r 9223372036854775807).at_,(Ae q1.r 9223372036854775807).out++[(⟨1,0,0,An q1.r 9223372036854775807,[],0,0⟩:Ev)],(Ae q1.r 9223372036854775807).fail⟩:Mr)).plan.deep-1)) p.root ((Ae q1.r 9223372036854775807).at_+(An q1.r 9223372036854775807)) (⟨(Ae q1.r 9223372036854775807).plan,(Ae q1.r 9223372036854775807).s,(Ae q1.r 9223372036854775807).at_,(Ae q1.r 9223372036854775807).out++[(⟨1,0,0,An q1.r 9223372036854775807,[],0,0⟩:Ev)],(Ae q1.r 9223372036854775807).fail⟩:Mr)).plan,(D8 (Int.toNat (((⟨(Ae q1.r 9223372036854775807).plan,(Ae q1.r 9223372036854775807).s,(Ae q1.r 9223372036854775807).at_,(Ae q1.r 9223372036854775807).out++[(⟨1,0,0,An q1.r 9223372036854775807,[],0,0⟩:Ev)],(Ae q1.r 9223372036854775807).fail⟩:Mr)).plan.deep-1)) p.root ((Ae q1.r 9223372036854775807).at_+(An q1.r 9223372036854775807)) (⟨(Ae q1.r 9223372036854775807).plan,(Ae q1.r 9223372036854775807).s,(Ae q1.r 9223372036854775807).at_,(Ae q1.r 9223372036854775807).out++[(⟨1,0,0,An q1.r 9223372036854775807,[],0,0⟩:Ev)],(Ae q1.r 9223372036854775807).fail⟩:Mr)).s,(D8 (Int.toNat (((⟨(Ae q1.r 9223372036854775807).plan,(Ae q1.r 9223372036854775807).s,(Ae q1.r 9223372036854775807).at_,(Ae q1.r 9223372036854775807).out++[(⟨1,0,0,An q1.r 9223372036854775807,[],0,0⟩:Ev)],(Ae q1.r 9223372036854775807).fail⟩:Mr)).plan.deep-1)) p.root ((Ae q1.r 9223372036854775807).at_+(An q1.r 9223372036854775807)) (⟨(Ae q1.r 9223372036854775807).plan,(Ae q1.r 9223372036854775807).s,(Ae q1.r 9223372036854775807).at_,(Ae q1.r 9223372036854775807).out++[(⟨1,0,0,An q1.r 9223372036854775807,[],0,0⟩:Ev)],(Ae q1.r 9223372036854775807).fail⟩:Mr)).at_,(D8 (Int.toNat (((⟨(Ae q1.r 9223372036854775807).plan,(Ae q1.r 9223372036854775807).s,(Ae q1.r 9223372036854775807).at_,(Ae q1.r 9223372036854775807).out++[(⟨1,0,0,An q1.r 9223372036854775807,[],0,0⟩:Ev)],(Ae q1.r 9223372036854775807).fail⟩:Mr)).plan.deep-1)) p.root ((Ae q1.r 9223372036854775807).at_+(An q1.r 9223372036854775807)) (⟨(Ae q1.r 9223372036854775807).plan,(Ae q1.r 9223372036854775807).s,(Ae q1.r 9223372036854775807).at_,(Ae q1.r 9223372036854775807).out++[(⟨1,0,0,An q1.r 9223372036854775807,[],0,0⟩:Ev)],(Ae q1.r 9223372036854775807).fail⟩:Mr)).out++[(⟨8,0,0,0,[],0,0⟩:Ev)],(D8 (Int.toNat (((⟨(Ae q1.r 9223372036854775807).plan,(Ae q1.r 9223372036854775807).s,(Ae q1.r 9223372036854775807).at_,(Ae q1.r 9223372036854775807).out++[(⟨1,0,0,An q1.r 9223372036854775807,[],0,0⟩:Ev)],(Ae q1.r 9223372036854775807).fail⟩:Mr)).plan.deep-1)) p.root ((Ae q1.r 9223372036854775807).at_+(An q1.r 9223372036854775807)) (⟨(Ae q1.r 9223372036854775807).plan,(Ae q1.r 9223372036854775807).s,(Ae q1.r 9223372036854775807).at_,(Ae q1.r 9223372036854775807).out++[(⟨1,0,0,An q1.r 9223372036854775807,[],0,0⟩:Ev)],(Ae q1.r 9223372036854775807).fail⟩:Mr)).fail⟩:Mr),q1.ends++[(D8 (Int.toNat (((⟨(Ae q1.r 9223372036854775807).plan,(Ae q1.r 9223372036854775807).s,(Ae q1.r 9223372036854775807).at_,(Ae q1.r 9223372036854775807).out++[(⟨1,0,0,An q1.r 9223372036854775807,[],0,0⟩:Ev)],(Ae q1.r 9223372036854775807).fail⟩:Mr)).plan.deep-1)) p.root ((Ae q1.r 9223372036854775807).at_+(An q1.r 9223372036854775807)) (⟨(Ae q1.r 9223372036854775807).plan,(Ae q1.r 9223372036854775807).s,(Ae q1.r 9223372036854775807).at_,(Ae q1.r 9223372036854775807).out++[(⟨1,0,0,An q1.r 9223372036854775807,[],0,0⟩:Ev)],(Ae q1.r 9223372036854775807).fail⟩:Mr)).at_]⟩:Py)) rfl Q9 (by dsimp only[Pz];exact⟨(hi_q1.1.next (by show q1.r.at_<_;omega) hfl hst).1,p4⟩) (by dsimp only[Pz];exact(hi_q1.1.next (by show q1.r.at_<_;omega) hfl hst).2)⟩
 have hok:Bd q1.r 9223372036854775807=false:=h2
 refine⟨h2,(Aa3 h2),Q6,rfl,(Aa (congrArg (Blk.lst .ev) ?_) (Aa (congrArg (Blk.lst .int) ?_) rfl))⟩
 rotate_left 2
 refine⟨Q10,rfl,(Aa (congrArg (Blk.lst .ev) ?_) (Aa (congrArg (Blk.lst .int) ?_) rfl))⟩
 rotate_left 2
 all_goals first|((rw[E7,hwh];exact congrArg (_++[·]) (if_neg (by assumption))))|((rw[hwh];done))|((rw[E7,hi_q1.1.end_ (by show¬q1.r.at_<_;omega)];simp[hfl,Ae8];done))|((rw[hi_q1.1.end_ (by show¬q1.r.at_<_;omega)];done))|((have hw:=hi_q1.1.leave (by show q1.r.at_<_;omega) hfl (rfl) (by show (frmStep q1.r).fail.kind≠0;grind (ematch:=20) (gen:=20) [Fj,Am,Bg,Aw,Ds,frameEndEv]);rw[E7,hw];grind (ematch:=20) (gen:=20) [Fj,Am,Bg,Aw,Ds,frameEndEv]))|((have hw:=hi_q1.1.leave (by show q1.r.at_<_;omega) hfl (rfl) (by show (frmStep q1.r).fail.kind≠0;grind (ematch:=20) (gen:=20) [Fj,Am,Bg,Aw,Ds,frameEndEv]);rw[hw];grind (ematch:=20) (gen:=20) [Fj,Am,Bg,Aw,Ds,frameEndEv]))
theorem Ady (p:Pln) (s:List UInt8) (hp1:s.length≤1048576):Fun Tryz.prog 13 [.agg (Ex p),vT s] [] (.v (.c (.seq .ev (D3 p s)))) []:=by
 have hN:Be=274877906944:=rfl
 refine Ar Tryz.func13 Q4 Q4 (w:=let z1:=decide (4000<(s.length:Int));let z2:List Blk:=[.lst .ev (E7 p s),.lst .int (Fu p s).ends];let z3:=(.v (.c (.seq .ev ([]:List Ev))):S);(.seg [.call [] (.v (vB (B5 p))) []] (.br (.seg [.at 0,.mkS 4 .ev,.pubS 4] (.leaf () [])) (.br (.seg [.at 0,.mkS 4 .ev,.pubS 4] (.leaf () [])) (.seg [.call [] (.tup [vO 0,vO 1]) z2,.at 0,.pubS 4] (.leaf () [])))),(Fun Tryz.prog 48 [.agg (Ex p)] [] (.v (vB (B5 p))) [])∧((!(B5 p))=true→z3= .v (.c (.seq .ev (D3 p s)))∧([]:List Blk)=[])∧((!(B5 p))=false→(z1=true→z3= .v (.c (.seq .ev (D3 p s)))∧([]:List Blk)=[])∧(z1=false→(Fun Tryz.prog 49 [.agg (Ex p),vT s] [] (.tup [vO 0,vO 1]) z2)∧(.v (.c (.seq .ev (E7 p s))):S)= .v (.c (.seq .ev (D3 p s)))∧([]:List Blk)=[])))) Q4 ?_
 refine⟨(Aam p),fun h1=>have q1:=Ap h1;?_,fun h1=>have q1:=Ao h1;have p1:=By q1;?_⟩
 refine⟨(congrArg S.v (congrArg V.c (congrArg (C.seq .ev) ?_))),rfl⟩
 rotate_left
 refine dsp (fun h2 p2=>?_) fun h2 p2=>?_
 refine⟨(congrArg S.v (congrArg V.c (congrArg (C.seq .ev) ?_))),rfl⟩
 rotate_left
 have hwl:D3 p s=E7 p s:=by unfold D3;rw[if_pos ⟨by simp_all,by omega⟩]
 refine⟨(Amo p _ Q2 Q2),(congrArg S.v (congrArg V.c (congrArg (C.seq .ev) ?_))),rfl⟩
 rotate_left
 all_goals first|(simp_all[D3];done)|(grind[D3])
theorem Yf:(Qs []).length=1:=by
 unfold Qs
 rw[show (((([]:List UInt8).length:Nat)):Int)=0 from rfl,Vn (by omega) (by omega)];rfl
theorem Ara {x a:Int} (h0:0≤x) (h1:x<2) (h2:0≤a) (h3:a≤8000):0≤IntKind.i64.wrap (4000+IntKind.i64.wrap (x*min 1 a))∧IntKind.i64.wrap (4000+IntKind.i64.wrap (x*min 1 a))≤4000+a:=by
 have hx:x=0∨x=1:=by omega
 rcases hx with rfl|rfl
 ·rw[Int.zero_mul,Ur (x:=0) (by omega) (by omega),Ur (by omega) (by omega)];omega
 ·rw[Int.one_mul,Ur (x:=min 1 a) (by omega) (by omega),Ur (by omega) (by omega)];omega
structure H7 where
 p:Pln
 t:List UInt8
def Ui (code:List Int) (o:H7):Prop:=Fun Tryz.prog 11 [.c (.seq .u8 code)] [] (.tup [.agg (Ex o.p),vT o.t]) []
def P1 (code:List Int) (o:H7):Prop:=((Ab1 o.p)∧(List.length (o.t:List UInt8)≤200000))∧Ui code o
structure Jw where
 s:List UInt8
def G5 (o1:Ji) (o2:M3):Fam:=⟨Jw,fun q1=>[(2,.v (vP 0)),(4,.v (vP 1)),(5,.v (vP 2)),(6,.v (vT q1.s))],fun _=>[.cells [.nil,.int .i64 0,.int .i64 0,.int .i64 0],.cells (Au o2.c1),.cells (Ex o1.p)],fun q1=>1≤List.length q1.s∧List.length q1.s≤8000,fun q1=>8001-List.length q1.s⟩
theorem Adz (code:List Int) (hp1:List.length code≤1048576): ∃o:H7,P1 code o:=by
 have hN:Be=274877906944:=rfl
 refine Cc Tryz.func11 Q4 Q4 (w:=(.intro (Hd code) fun o1=> .seg [.call [] (.tup [vP 0,.agg (Ex o1.p),vT o1.t]) [.cells (Au o1.c1)]] (.intro (Ay o1.c1 60) fun o2=> .seg [.call [1] (.v (vB o2.p)) [.cells (Au o2.c1)]] (.br (.seg [.call [] (.v (vT (Qs []))) [],.at 0,.keep [2,4,5,6],.sel [0,1,2]] (.loop (G5 o1 o2) fun q1=>let z2:=((List.length q1.s:Nat):Int)-4000;.br (.seg [.at 0,.keep [2,4,5,6],.sel [0,1,2]] (.next)) (.intro (Ad o2.c1 2) fun o3=> .seg [.call [1] (.v (vI o3.x)) [.cells (Au o3.c1)],.as 27 (.v (vI z2)),.call [] (.v (vI (min 1 z2))) []] (.leaf (⟨o1.p,List.take (Int.toNat (IntKind.i64.wrap (4000+(IntKind.i64.wrap (o3.x*(min 1 z2)))))) q1.s⟩:H7) [])))) (.leaf (⟨o1.p,o1.t⟩:H7) []))),In (Hd code) fun o1=>(let z6:=Ex o1.p;(Po code o1)∧In (Ay o1.c1 60) fun o2=>(let z4:List Blk:=[.cells [.nil,.int .i64 0,.int .i64 0,.int .i64 0],.cells (Au o2.c1),.cells z6];let z5:=G5 o1 o2;(Bt o1.c1 60 o2)∧(o2.p=true→(Fun Tryz.prog 45 [vT []] [] (.v (vT (Qs []))) [])∧z5.Has [(2,.v (vP 0)),(4,.v (vP 1)),(5,.v (vP 2)),(6,.v (vT (Qs [])))] z4∧∀q1,z5.inv q1→(let z3:=((List.length q1.s:Nat):Int);((decide (z3<4000))=true→(((List.length q1.s+List.length q1.s:Nat):Int)≤Bk)∧z5.Nxt q1 [(2,.v (vP 0)),(4,.v (vP 1)),(5,.v (vP 2)),(6,.v (vT (q1.s++q1.s)))] z4)∧((decide (z3<4000))=false→In (Ad o2.c1 2) fun o3=>(let z1:=4000+(IntKind.i64.wrap (o3.x*(min 1 (z3-4000))));(As o2.c1 2 o3)∧((.v (vI (IntKind.i64.wrap (z3-4000))):S)= .v (vI (z3-4000)))∧(Fun Tryz.prog 47 [vI 1,vI (z3-4000)] [] (.v (vI (min 1 (z3-4000)))) [])∧(IntKind.i64.wrap z1≤z3)∧((0:Int)≤IntKind.i64.wrap z1)∧((Ab1 o1.p)∧(List.length ((List.take (Int.toNat (IntKind.i64.wrap z1)) q1.s):List UInt8)≤200000))∧(.tup [.agg z6,vT (List.take (Int.toNat (IntKind.i64.wrap z1)) q1.s)]:S)= .tup [.agg z6,vT (List.take (Int.toNat (IntKind.i64.wrap z1)) q1.s)]∧([]:List Blk)=[]))))∧(o2.p=false→((Ab1 o1.p)∧(List.length (o1.t:List UInt8)≤200000))∧(.tup [.agg z6,vT o1.t]:S)= .tup [.agg z6,vT o1.t]∧([]:List Blk)=[]))))) Q4 ?_
 refine⟨(Xw code Q53),fun o1 ho_o1=>?_⟩
 obtain ⟨⟨hp_o1_0,hp_o1_1,hp_o1_2⟩,hf_o1⟩:=ho_o1
 refine⟨hf_o1,(B9 o1.c1 60 Q0),fun o2 ho_o2=>?_⟩
 obtain ⟨hp_o2,hf_o2⟩:=ho_o2
 refine⟨hf_o2,fun h1=>?_,fun h1=>?_⟩
 refine⟨(Ah4 _ Q53),Bs (j:=(⟨Qs []⟩:Jw)) rfl rfl (by dsimp only[G5];exact⟨by rw[Yf];omega,by rw[Yf];omega⟩),fun (q1:Jw) hq_q1=>?_⟩
 have hi_q1:1≤List.length q1.s∧List.length q1.s≤8000:=hq_q1
 obtain ⟨v1,v2⟩:=hi_q1
 refine dsp (fun h2 p2=>?_) fun h2 p2=>?_
 exact⟨Q53,Bc (j:=(⟨q1.s++q1.s⟩:Jw)) rfl rfl (by dsimp only[G5];exact⟨by simp only[List.length_append];omega,by simp only[List.length_append];omega⟩) (by dsimp only[G5];simp only[List.length_append];omega)⟩
 refine⟨(A3 o2.c1 2 Q0),fun o3 ho_o3=>?_⟩
 obtain ⟨⟨hp_o3_0,hp_o3_1,hp_o3_2,hp_o3_3⟩,hf_o3⟩:=ho_o3
 exact⟨hf_o3,(Ac Q2 Q2),(Apw _ _),Q63,Q63,⟨Q84,Q63⟩,rfl,rfl⟩
 exact⟨⟨Q84,Q53⟩,rfl,rfl⟩
structure Win (s s':List UInt8) (δ lo e:Int):Prop where
 from_:0≤lo∧0≤lo+δ
 same: ∀i:Int,lo≤i→i<e→s'[(i+δ).toNat]? =s[i.toNat]?
 len:(s'.length:Int)=(s.length:Int)+δ∨(e≤(s.length:Int)∧e+δ≤(s'.length:Int))
theorem Win.mono {s s':List UInt8} {δ lo e e':Int} (w:Win s s' δ lo e) (h:e'≤e):Win s s' δ lo e':=
 ⟨w.from_,fun i h1 h2=>w.same i h1 (by omega),by have:=w.len;omega⟩
theorem Win.byte {s s':List UInt8} {δ lo e i:Int} (w:Win s s' δ lo e) (h1:lo≤i) (h2:i<e):s'.getD (i+δ).toNat 0=s.getD i.toNat 0:=by
 rw[List.getD_eq_getElem?_getD,List.getD_eq_getElem?_getD,w.same i h1 h2]
theorem Win.take {s s':List UInt8} {δ lo e a n:Int} (w:Win s s' δ lo e) (h1:lo≤a) (h2:a+n≤e):(s'.drop (a+δ).toNat).take n.toNat=(s.drop a.toNat).take n.toNat:=by
 have h0:=w.from_
 apply List.ext_getElem?
 intro i
 rw[List.getElem?_take,List.getElem?_take]
 split
 ·rw[List.getElem?_drop,List.getElem?_drop]
  have:=w.same (a+i) (by omega) (by omega)
  rw[show (a+(i:Int)+δ).toNat=(a+δ).toNat+i by omega,show (a+(i:Int)).toNat=a.toNat+i by omega] at this
  exact this
 ·rfl
theorem Rm (s:List UInt8) (a e:Int) (f:Nat) (k u:Int):vwA s a e (f+1) k u=if e≤a+k then (0,e,9)
  else if (s.length:Int)≤a+k then (0,(s.length:Int),10)
  else if k=9∧1<((s.getD (a+k).toNat 0).toNat:Int) then (0,a+k,1)
  else if ((s.getD (a+k).toNat 0).toNat:Int)<128 then (u+((s.getD (a+k).toNat 0).toNat:Int) % 128*2 ^ (7*k).toNat,a+k+1,0)
  else vwA s a e f (k+1) (u+((s.getD (a+k).toNat 0).toNat:Int) % 128*2 ^ (7*k).toNat):=rfl
theorem Ao0 {s s':List UInt8} {δ lo e a:Int} (w:Win s s' δ lo e) (ha:lo≤a): ∀(f:Nat) (k u:Int),0≤k→k+(f:Int)=9→vwA s' (a+δ) (e+δ) (f+1) k u=((vwA s a e (f+1) k u).1,(vwA s a e (f+1) k u).2.1+δ,(vwA s a e (f+1) k u).2.2):=by
 intro f
 induction f with
 |zero=>
  intro k u hk hf
  have hl:=w.len
  rw[Rm s',Rm s]
  by_cases h1:e≤a+k
  ·rw[if_pos (show e+δ≤a+δ+k by omega),if_pos h1]
  ·rw[if_neg (show¬e+δ≤a+δ+k by omega),if_neg h1]
   by_cases h2:(s.length:Int)≤a+k
   ·rw[if_pos (show (s'.length:Int)≤a+δ+k by omega),if_pos h2]
    refine Prod.ext rfl (Prod.ext ?_ rfl);dsimp only;omega
   ·have hb:=w.byte (i:=a+k) (by omega) (by omega)
    rw[show a+k+δ=a+δ+k by omega] at hb
    rw[if_neg (show¬(s'.length:Int)≤a+δ+k by omega),if_neg h2,hb]
    split
    ·refine Prod.ext rfl (Prod.ext ?_ rfl);dsimp only;omega
    rename_i h3
    split
    ·refine Prod.ext rfl (Prod.ext ?_ rfl);dsimp only;omega
    ·exfalso;apply h3;omega
 |succ f ih=>
  intro k u hk hf
  have hl:=w.len
  rw[Rm s',Rm s]
  by_cases h1:e≤a+k
  ·rw[if_pos (show e+δ≤a+δ+k by omega),if_pos h1]
  ·rw[if_neg (show¬e+δ≤a+δ+k by omega),if_neg h1]
   by_cases h2:(s.length:Int)≤a+k
   ·rw[if_pos (show (s'.length:Int)≤a+δ+k by omega),if_pos h2]
    refine Prod.ext rfl (Prod.ext ?_ rfl);dsimp only;omega
   ·have hb:=w.byte (i:=a+k) (by omega) (by omega)
    rw[show a+k+δ=a+δ+k by omega] at hb
    rw[if_neg (show¬(s'.length:Int)≤a+δ+k by omega),if_neg h2,hb]
    split
    ·refine Prod.ext rfl (Prod.ext ?_ rfl);dsimp only;omega
    split
    ·refine Prod.ext rfl (Prod.ext ?_ rfl);dsimp only;omega
    ·exact ih (k+1) _ (by omega) (by omega)
theorem P2 {s s':List UInt8} {δ lo e a:Int} (w:Win s s' δ lo e) (ha:lo≤a) (hl:a≤(s.length:Int)) (he:a≤e):Ah s' (a+δ) (e+δ)=((Ah s a e).1,(Ah s a e).2.1+δ,(Ah s a e).2.2):=by
 have h0:=w.from_
 have h1:=w.len
 have e1:Aq (a+δ) 0 (s'.length:Int)=true:=by simp only[Aq,Bool.and_eq_true,decide_eq_true_eq];omega
 have e2:Aq a 0 (s.length:Int)=true:=by simp only[Aq,Bool.and_eq_true,decide_eq_true_eq];omega
 unfold Ah
 rw[e1,e2]
 exact Ao0 w ha 9 0 0 Q2 Q2
def shE (δ:Int) (f:Ev):Ev:=if f.kind=0 then f else ⟨f.kind,f.field,f.bits,f.len,f.text,f.code,f.at_+δ⟩
theorem K2 (δ:Int) (f:Ev):(shE δ f).kind=f.kind:=by unfold shE;split<;>rfl
theorem Aa6 {δ:Int} {f:Ev} (h:f.kind=0):shE δ f=f:=by unfold shE;rw[if_pos h]
def trM (q:Pln) (s':List UInt8) (δ:Int) (r:Mr):Mr:=⟨q,s',r.at_+δ,r.out,shE δ r.fail⟩
theorem Jp (q:Pln) (s':List UInt8) (δ:Int) (r:Mr) (c a:Int):Bg (trM q s' δ r) c (a+δ)=trM q s' δ (Bg r c a):=rfl
theorem Va (q:Pln) (s':List UInt8) (δ:Int) (r:Mr) (e:Ev):Am (trM q s' δ r) e=trM q s' δ (Am r e):=rfl
theorem Ajt (q:Pln) (s':List UInt8) (δ:Int) (r:Mr) (a:Int):S8 (trM q s' δ r) (a+δ)=trM q s' δ (S8 r a):=rfl
structure At (p:Pln) (s:List UInt8) (lo e:Int) (r:Mr):Prop where
 txt:r.s=s
 plan:r.plan=p
 lo_:lo≤r.at_
 len:r.at_≤(s.length:Int)
 to:r.at_≤e
 ok:r.fail.kind=0
section
variable {p q:Pln} {s s':List UInt8} {δ lo e:Int}
theorem At.hl {r:Mr} (h:At p s lo e r):r.at_≤(r.s.length:Int):=by rw[h.txt];exact h.len
theorem Nk {r:Mr} (w:Win s s' δ lo e) (h:At p s lo e r):Bd (trM q s' δ r) (e+δ)=Bd r e:=by
 unfold Bd
 rw[show (trM q s' δ r).s=s' from rfl,show (trM q s' δ r).at_=r.at_+δ from rfl,P2 w h.lo_ h.len h.to,h.txt]
theorem Ww {r:Mr} (w:Win s s' δ lo e) (h:At p s lo e r):An (trM q s' δ r) (e+δ)=An r e:=by
 unfold An
 rw[Nk w h,show (trM q s' δ r).s=s' from rfl,show (trM q s' δ r).at_=r.at_+δ from rfl,P2 w h.lo_ h.len h.to,h.txt]
theorem Aa7 {r:Mr} (w:Win s s' δ lo e) (h:At p s lo e r):Ae (trM q s' δ r) (e+δ)=trM q s' δ (Ae r e):=by
 unfold Ae
 rw[Nk w h,show (trM q s' δ r).s=s' from rfl,show (trM q s' δ r).at_=r.at_+δ from rfl,P2 w h.lo_ h.len h.to,h.txt]
 split
 ·exact Ajt ..
 ·exact Jp ..
theorem Uj {r:Mr} {n:Int} (w:Win s s' δ lo e) (h:At p s lo e r):Ge (trM q s' δ r) n (e+δ)=Ge r n e:=by
 have h0:=w.from_;have h1:=w.len;have h2:=h.lo_;have h3:=h.len
 unfold Ge Dj
 rw[show (trM q s' δ r).s=s' from rfl,show (trM q s' δ r).at_=r.at_+δ from rfl,h.txt]
 by_cases hb:n≤e-r.at_
 ·have hw:Aq (r.at_+δ) 0 ((s'.length:Int)-n)=Aq r.at_ 0 ((s.length:Int)-n):=by
   rw[Bool.eq_iff_iff]
   simp only[Aq,Bool.and_eq_true,decide_eq_true_eq]
   omega
  rw[decide_eq_true (show n≤e+δ-(r.at_+δ) by omega),decide_eq_true hb,hw]
 ·rw[decide_eq_false (show¬n≤e+δ-(r.at_+δ) by omega),decide_eq_false hb];rfl
theorem Amp {r:Mr} {n:Int} (w:Win s s' δ lo e) (h:At p s lo e r):F4 (trM q s' δ r) n (e+δ)=F4 r n e:=by
 unfold F4
 rw[Uj w h]
 split
 ·rename_i hok
  have hok2:=hok
  rw[←Uj (q:=q) (s':=s') w h] at hok2
  simp only[Ge,Bool.and_eq_true,decide_eq_true_eq] at hok hok2
  unfold Hi
  rw[if_pos hok.2,if_pos hok2.2]
  rw[show (trM q s' δ r).s=s' from rfl,show (trM q s' δ r).at_=r.at_+δ from rfl,h.txt,w.take h.lo_ (by omega)]
 ·rfl
theorem Ao1 {r:Mr} {n:Int} (hn:n=4∨n=8) (w:Win s s' δ lo e) (h:At p s lo e r):Fb (trM q s' δ r) n (e+δ)=trM q s' δ (Fb r n e):=by
 have h0:=w.from_;have h1:=w.len;have h2:=h.lo_;have h3:=h.len
 unfold Fb
 rw[show (trM q s' δ r).at_=r.at_+δ from rfl]
 by_cases h4:e-r.at_<n
 ·rw[if_pos (show e+δ-(r.at_+δ)<n by omega),if_pos h4];exact Jp ..
 ·rw[if_neg (show¬e+δ-(r.at_+δ)<n by omega),if_neg h4]
  have hk:Dj (trM q s' δ r).s (r.at_+δ) n=Dj r.s r.at_ n:=by
   have:=Uj (q:=q) (n:=n) (s':=s') w h
   unfold Ge at this
   rw[show (trM q s' δ r).at_=r.at_+δ from rfl,decide_eq_true (show n≤e+δ-(r.at_+δ) by omega),decide_eq_true (show n≤e-r.at_ by omega)] at this
   simpa using this
  rw[hk]
  split
  ·rw[show r.at_+δ+n=r.at_+n+δ by omega];exact Ajt ..
  ·rename_i h5
   have h6:(s'.length:Int)=(s.length:Int)+δ:=by
    rcases h1 with h1|h1
    ·exact h1
    ·exfalso;apply h5
     unfold Dj Ff
     rw[h.txt]
     simp only[Aq,Bool.and_eq_true,Bool.or_eq_true,decide_eq_true_eq]
     omega
   rw[show ((trM q s' δ r).s.length:Int)=(r.s.length:Int)+δ by rw[h.txt];exact h6];exact Jp ..
theorem Agq {w:Int} (h:0<Az w):Az w=4∨Az w=8:=by unfold Az at *;split at h<;>(try split at h)<;>simp_all
theorem Aju {r:Mr} {n:Int} (w:Win s s' δ lo e) (h:At p s lo e r):Dp (trM q s' δ r) n (e+δ)=Dp r n e:=by unfold Dp;rw[Uj w h,Nk w h]
theorem Amq {r:Mr} {n:Int} (w:Win s s' δ lo e) (h:At p s lo e r):Eh (trM q s' δ r) n (e+δ)=Eh r n e:=by unfold Eh;rw[Amp w h,Ww w h]
theorem Ao2 {r:Mr} {n:Int} (w:Win s s' δ lo e) (h:At p s lo e r):Cp (trM q s' δ r) n (e+δ)=trM q s' δ (Cp r n e):=by
 unfold Cp
 split
 ·rename_i hw;exact Ao1 (Agq hw) w h
 ·exact Aa7 w h
theorem Ajv {r:Mr} {f:Fld} {n:Int} (w:Win s s' δ lo e) (h:At p s lo e r):B4 (trM q s' δ r) f n (e+δ)=trM q s' δ (B4 r f n e):=by
 unfold B4
 rw[Aju w h,Amq w h,Ao2 w h]
 split
 ·exact Va ..
 ·rfl
theorem At.next {r r':Mr} (h:At p s lo e r) (a:Adv1 r r') (ht:r'.fail.kind=0→r'.at_≤e) (hk:r'.fail.kind=0):At p s lo e r':=by
 have h1:=a.1.at_ hk
 have h2:=h.lo_
 exact⟨a.1.s.trans h.txt,a.1.plan.trans h.plan,by omega,by rw[h.txt] at h1;exact h1.2,ht hk,hk⟩
theorem Acp {step:Mr→Mr} (hs:He step) {r:Mr} (hl:r.at_≤(r.s.length:Int)) {k:Nat} (hk:Gq r≤k):Cz (Eu e) step k r=Cz (Eu e) step (Gq r) r:=by
 refine Zy (fun r=>r.at_≤(r.s.length:Int)∨r.fail.kind≠0) Gq (fun a hi hg=>?_) _ r k (Gq r) (Nat.le_refl _) (.inl hl) hk (Nat.le_refl _)
 have hk':=Gf hg
 have hl:a.at_≤(a.s.length:Int):=hi.resolve_right (fun h=>h hk')
 refine⟨?_,Px hl hk' (hs a hl hk')⟩
 by_cases hk2:(step a).fail.kind=0
 ·left;rw[(hs a hl hk').1.s];exact((hs a hl hk').1.at_ hk2).2
 ·exact .inr hk2
def Ao3 (K:Nat) (r:Mr):Prop:=K=0∨r.fail.kind=0∨r.fail.code≠6
theorem Ad0 (K:Nat) (r:Mr) (h:r.fail.kind=0):Ao3 K r:= .inr (.inl h)
theorem Ae9 {G:Mr→Prop} (hG: ∀r:Mr,r.fail.kind=0→G r) {step step':Mr→Mr} (hs:He step) (ht: ∀r:Mr,At p s lo e r→(step r).fail.kind=0→(step r).at_≤e)
  (hq: ∀r,At p s lo e r→r.at_<e→G (step r)→step' (trM q s' δ r)=trM q s' δ (step r)): ∀(k:Nat) (r:Mr),At p s lo e r→G (Cz (Eu e) step k r)→Cz (Eu (e+δ)) step' k (trM q s' δ r)=trM q s' δ (Cz (Eu e) step k r)
 |0,_,_,_=>rfl
 |k+1,r,h,hf=>by
  have hg:Eu (e+δ) (trM q s' δ r)=Eu e r:=by
   unfold Eu
   rw[show (trM q s' δ r).at_=r.at_+δ from rfl,show (trM q s' δ r).fail=shE δ r.fail from rfl,K2]
   congr 1
   rw[decide_eq_decide];omega
  simp only[Cz] at hf ⊢
  rw[hg]
  split
  ·rename_i hgo
   rw[if_pos hgo] at hf
   have hlt:r.at_<e:=by simp[Eu] at hgo;exact hgo.1
   have ha:=hs r h.hl h.ok
   by_cases hk:(step r).fail.kind=0
   ·rw[hq r h hlt (hG _ hk)]
    exact Ae9 hG hs ht hq k (step r) (h.next ha (ht r h) hk) hf
   ·have hst:Eu e (step r)=false:=by simp[Eu,hk]
    rw[Cn hst] at hf ⊢
    rw[hq r h hlt hf,Cn]
    simp only[Eu,Bool.and_eq_false_iff,decide_eq_false_iff_not]
    right
    rw[show (trM q s' δ (step r)).fail=shE δ (step r).fail from rfl,K2];exact hk
  ·rfl
theorem Yg {G:Mr→Prop} (hG: ∀r:Mr,r.fail.kind=0→G r) {step step':Mr→Mr} (hs:He step) (hs':He step') (ht: ∀r:Mr,At p s lo e r→(step r).fail.kind=0→(step r).at_≤e) (w:Win s s' δ lo e)
  (hq: ∀r,At p s lo e r→r.at_<e→G (step r)→step' (trM q s' δ r)=trM q s' δ (step r)) {r:Mr} (h:At p s lo e r) (hf:G (Cz (Eu e) step (Gq r) r)):
  Cz (Eu (e+δ)) step' (Gq (trM q s' δ r)) (trM q s' δ r)=trM q s' δ (Cz (Eu e) step (Gq r) r):=by
 have h1:=w.len;have h2:=h.len;have h3:=h.to
 have e1:=Acp (e:=e) hs h.hl (Nat.le_max_left (Gq r) (Gq (trM q s' δ r)))
 have e2:=Acp (e:=e+δ) hs' (r:=trM q s' δ r) (by show r.at_+δ≤(s'.length:Int);omega) (Nat.le_max_right (Gq r) (Gq (trM q s' δ r)))
 rw[←e1] at hf ⊢
 rw[←e2]
 exact Ae9 hG hs ht hq _ r h hf
theorem Ajw {r:Mr} {f:Fld} (w:Win s s' δ lo e) (h:At p s lo e r):Ho (trM q s' δ r) f (e+δ)=trM q s' δ (Ho r f e):=by
 unfold Ho
 exact Yg (Ad0 0) (Kg f _ _) (Kg f _ _) (fun r h hk=>Sb h.ok h.hl hk) w (fun r h _ _=>Ajv w h) h (.inl rfl)
theorem Ao4 {r:Mr} {f:Fld} {n:Int} (w:Win s s' δ lo e) (h:At p s lo e r) (hn:0≤n) (he:r.at_+n≤e):Bx (trM q s' δ r) f n=trM q s' δ (Bx r f n):=by
 have h0:=w.from_;have h1:=w.len;have h2:=h.lo_;have h3:=h.len
 have hth:A0 (trM q s' δ r) n=A0 r n:=by
  unfold A0
  rw[show (trM q s' δ r).s=s' from rfl,show (trM q s' δ r).at_=r.at_+δ from rfl,h.txt];exact w.take h.lo_ he
 have hlen:((A0 r n).length:Int)<n→(s'.length:Int)=(s.length:Int)+δ:=by
  intro hlt
  unfold A0 at hlt
  rw[List.length_take,List.length_drop,h.txt] at hlt
  rcases h1 with h1|h1
  ·exact h1
  ·omega
 have hbad:Kf (trM q s' δ r) f n=Kf r f n:=by unfold Kf;rw[hth]
 have hst:Yt (trM q s' δ r) f n=Yt r f n:=by unfold Yt;rw[hth]
 have hgood:Lw (trM q s' δ r) f n=Lw r f n:=by unfold Lw;rw[hth,hbad]
 have htold:Ew (trM q s' δ r) f n=trM q s' δ (Ew r f n):=by
  unfold Ew;rw[hgood];split<;>rfl
 unfold Bx
 rw[hth,hbad,hst,htold,show (trM q s' δ r).at_=r.at_+δ from rfl,show (trM q s' δ r).s=s' from rfl]
 split
 ·rw[show r.at_+δ+Kf r f n=r.at_+Kf r f n+δ by omega];exact Jp ..
 split
 ·rename_i hlt
  rw[hlen hlt,h.txt];exact Jp ..
 split
 ·rw[show r.at_+δ+n=r.at_+n+δ by omega];exact Jp ..
 ·rw[show r.at_+δ+n=r.at_+n+δ by omega,Ajt,Va]
def Ajx (p q:Pln) (s s':List UInt8) (δ lo e:Int) (K:Nat) (sub sub':Mr→Fld→Int→Int→Mr):Prop:= ∀(v:Mr) (f:Fld) (n st:Int),At p s lo e v→0≤n→v.at_+n≤e→Ao3 K (sub v f n st)→sub' (trM q s' δ v) f n (st+δ)=trM q s' δ (sub v f n st)
theorem At.var {r:Mr} (h:At p s lo e r) (hok:Bd r e=true):At p s lo e (Ae r e):=by
 have hk:(Ae r e).fail.kind=0:=by rw[C1 h.ok] at hok;simpa using hok
 exact h.next (Eo h.hl).1 (fun hk=>Wt h.ok h.hl hk) hk
theorem Amr {K:Nat} {sub sub':Mr→Fld→Int→Int→Mr} (hsub:Ajx p q s s' δ lo e K sub sub') {r:Mr} {f:Fld} {known:Bool} (w:Win s s' δ lo e) (h:At p s lo e r) (hf:Ao3 K (Bf sub r f known e)):Bf sub' (trM q s' δ r) f known (e+δ)=trM q s' δ (Bf sub r f known e):=by
 have h1:=w.len
 have hu:=Gs r e
 unfold Bf at hf ⊢
 rw[Nk w h,Ww w h,Aa7 w h]
 simp only[show ∀x,(trM q s' δ x).at_=x.at_+δ from fun _=>rfl,show ∀x,(trM q s' δ x).s=s' from fun _=>rfl]
 split
 ·rfl
 rename_i hok;rw[if_neg hok] at hf
 have hok:Bd r e=true:=by simpa using hok
 have hv:=h.var hok
 have h2:=hv.len
 rw[show e+δ-((Ae r e).at_+δ)=e-(Ae r e).at_ by omega]
 split
 ·exact Jp ..
 rename_i hn;rw[if_neg hn] at hf
 split
 ·rename_i hkn;rw[if_pos hkn] at hf
  by_cases h5:(r.s.length:Int)-(Ae r e).at_<An r e
  ·have h6:(s'.length:Int)=(s.length:Int)+δ:=by
    rw[h.txt] at h5
    rcases h1 with h1|h1
    ·exact h1
    ·omega
   rw[if_pos h5,if_pos (show (s'.length:Int)-((Ae r e).at_+δ)<An r e by rw[h.txt] at h5;omega),h6,h.txt];exact Jp ..
  ·rw[if_neg h5,if_neg (show¬(s'.length:Int)-((Ae r e).at_+δ)<An r e by rw[h.txt] at h5;omega),show (Ae r e).at_+δ+An r e=(Ae r e).at_+An r e+δ by omega];exact Ajt ..
 rename_i hkn;rw[if_neg hkn] at hf
 split
 ·rename_i h8;rw[if_pos h8] at hf
  exact hsub _ _ _ _ hv hu.1 Q2 hf
 rename_i h8;rw[if_neg h8] at hf
 split
 ·rw[show (Ae r e).at_+δ+An r e=(Ae r e).at_+An r e+δ by omega]
  exact Ajw (w.mono Q2) ⟨hv.txt,hv.plan,hv.lo_,hv.len,by omega,hv.ok⟩
 ·exact Ao4 w hv hu.1 (by omega)
theorem Ajy (hqs:p.shapes=q.shapes) {K:Nat} {sub sub':Mr→Fld→Int→Int→Mr} (hsub:Ajx p q s s' δ lo e K sub sub') {shape:Int} {r:Mr} (w:Win s s' δ lo e) (h:At p s lo e r) (hf:Ao3 K (Dv sub shape e r)):Dv sub' shape (e+δ) (trM q s' δ r)=trM q s' δ (Dv sub shape e r):=by
 unfold Dv at hf ⊢
 rw[Nk w h,Ww w h,Aa7 w h]
 simp only[show ∀x,(trM q s' δ x).at_=x.at_+δ from fun _=>rfl,show ∀x,(trM q s' δ x).plan=q from fun _=>rfl]
 rw[h.plan] at hf ⊢
 rw[←hqs]
 split
 ·rfl
 rename_i hok;rw[if_neg hok] at hf
 have hok:Bd r e=true:=by simpa using hok
 have hv:=h.var hok
 split
 ·exact Jp ..
 rename_i hn;rw[if_neg hn] at hf
 split
 ·exact Jp ..
 rename_i hn;rw[if_neg hn] at hf
 split
 ·exact Jp ..
 rename_i hn;rw[if_neg hn] at hf
 split
 ·rename_i hn;rw[if_pos hn] at hf
  exact Amr hsub w hv hf
 ·exact Ajv w hv
theorem Ajz (hqs:p.shapes=q.shapes) (K:Nat): ∀(D:Nat) (e:Int),Win s s' δ lo e→Ajx p q s s' δ lo e K (Gh D) (Gh (D+K))
 |0,e,w=>fun v f n st h hn he hf=>by
  rcases hf with rfl|hf|hf
  ·exact Jp ..
  ·exact(Ca _ _ _ hf).elim
  ·exact(hf rfl).elim
 |D+1,e,w=>fun v f n st h hn he hf=>by
  have hD:D+1+K=(D+K)+1:=by omega
  rw[hD]
  have w2:Win s s' δ lo (v.at_+n):=w.mono he
  have ht:At p s lo (v.at_+n) (Am v (En f n)):=⟨h.txt,h.plan,h.lo_,h.len,by show v.at_≤_;omega,h.ok⟩
  have key:Ao3 K (D8 D f.msg (v.at_+n) (Am v (En f n)))→D8 (D+K) f.msg (v.at_+n+δ) (trM q s' δ (Am v (En f n)))=trM q s' δ (D8 D f.msg (v.at_+n) (Am v (En f n))):=by
   intro hf2
   rw[Fz] at hf2 ⊢
   rw[Fz]
   exact Yg (Ad0 K) (Fi _ _ _) (Fi _ _ _) (fun r h hk=>Nj (U9 D) h.ok h.hl hk) w2 (fun r h _ hf=>Ajy hqs (Ajz hqs K D _ w2) w2 h hf) ht hf2
  simp only[Gh] at hf ⊢
  rw[show (trM q s' δ v).at_=v.at_+δ from rfl,Va,show v.at_+δ+n=v.at_+n+δ by omega]
  by_cases hk:(D8 D f.msg (v.at_+n) (Am v (En f n))).fail.kind=0
  ·rw[key (.inr (.inl hk)),if_pos hk,if_pos (by rw[show (trM q s' δ (D8 D f.msg (v.at_+n) (Am v (En f n)))).fail=shE δ (D8 D f.msg (v.at_+n) (Am v (En f n))).fail from rfl,K2];exact hk)]
   exact Va ..
  ·rw[if_neg hk] at hf ⊢
   rw[key hf,if_neg (by rw[show (trM q s' δ (D8 D f.msg (v.at_+n) (Am v (En f n)))).fail=shE δ (D8 D f.msg (v.at_+n) (Am v (En f n))).fail from rfl,K2];exact hk)]
theorem Afa (hqs:p.shapes=q.shapes) (K D:Nat) (w:Win s s' δ lo e) {shape:Int} {r:Mr} (h:At p s lo e r) (hf:Ao3 K (D8 D shape e r)):D8 (D+K) shape (e+δ) (trM q s' δ r)=trM q s' δ (D8 D shape e r):=by
 rw[Fz] at hf ⊢
 rw[Fz]
 exact Yg (Ad0 K) (Fi _ _ _) (Fi _ _ _) (fun r h hk=>Nj (U9 D) h.ok h.hl hk) w (fun r h _ hf=>Ajy hqs (Ajz hqs K D _ w) w h hf) h hf
theorem Ao5 {K:Nat} (hqs:p.shapes=q.shapes) (hqr:q.root=p.root) (hqd:q.deep=p.deep+(K:Int)) (hp1:1≤p.deep) (hw: ∀e,Win s s' δ lo e) (hl:(s.length:Int)<maxI∧(s.length:Int)<maxI+δ∧(s'.length:Int)<maxI∧(s'.length:Int)<maxI+δ) {r:Mr} (h:At p s lo (s.length:Int) r)
  (hgood:(frmStep r).fail.kind=0∧p.most≤q.most∨K=0∧q.most=p.most):frmStep (trM q s' δ r)=trM q s' δ (frmStep r):=by
 have hm:At p s lo maxI r:=⟨h.txt,h.plan,h.lo_,h.len,by have:=h.to;omega,h.ok⟩
 have hlo:=(hw 0).from_
 have hlen:=(hw ((s.length:Int)+1)).len
 have h1:=h.lo_;have h2:=h.len
 have e1:Bd (trM q s' δ r) maxI=Bd r maxI:=by
  rw[←Nk (hw maxI) hm];unfold Bd
  rw[show (trM q s' δ r).s=s' from rfl,K0 hl.2.2.1 hl.2.2.2]
 have e2:An (trM q s' δ r) maxI=An r maxI:=by
  rw[←Ww (hw maxI) hm];unfold An Bd
  rw[show (trM q s' δ r).s=s' from rfl,K0 hl.2.2.1 hl.2.2.2]
 have e3:Ae (trM q s' δ r) maxI=trM q s' δ (Ae r maxI):=by
  rw[←Aa7 (hw maxI) hm];unfold Ae Bd
  rw[show (trM q s' δ r).s=s' from rfl,K0 hl.2.2.1 hl.2.2.2]
 by_cases hok:Bd r maxI=true
 ·have hv:=hm.var hok
  have hu:=Gs r maxI
  have ht:At p s lo ((Ae r maxI).at_+An r maxI) (Am (Ae r maxI) (Ds (An r maxI))):=⟨hv.txt,hv.plan,hv.lo_,hv.len,by show (Ae r maxI).at_≤_;omega,hv.ok⟩
  have hD:(q.deep-1).toNat=(p.deep-1).toNat+K:=by omega
  have key:Ao3 K (C5 r)→C5 (trM q s' δ r)=trM q s' δ (C5 r):=by
   intro hf
   unfold C5 at hf ⊢
   rw[e2,e3,show (trM q s' δ r).plan=q from rfl,hqr,hD,show (trM q s' δ (Ae r maxI)).at_=(Ae r maxI).at_+δ from rfl,Va,show (Ae r maxI).at_+δ+An r maxI=(Ae r maxI).at_+An r maxI+δ by omega,h.plan]
   rw[h.plan] at hf
   exact Afa hqs K _ (hw _) ht hf
  have hne: ¬Bd r maxI=false:=by simp[hok]
  unfold frmStep at hgood ⊢
  rw[e1,e2,e3,show (trM q s' δ r).plan=q from rfl,show (trM q s' δ r).at_=r.at_+δ from rfl,if_neg hne,if_neg hne,h.plan]
  rw[if_neg hne,h.plan] at hgood
  rcases hgood with ⟨hg,hmo⟩|⟨hK,hmo⟩
  ·by_cases hms:p.most<An r maxI
   ·rw[if_pos hms] at hg;exact(Ca _ _ _ hg).elim
   ·rw[if_neg hms] at hg
    by_cases hk:(C5 r).fail.kind=0
    ·rw[if_neg (show¬q.most<An r maxI by omega),if_neg hms,key (.inr (.inl hk)),if_pos hk,if_pos (by rw[show (trM q s' δ (C5 r)).fail=shE δ (C5 r).fail from rfl,K2];exact hk)];rfl
    ·rw[if_neg hk] at hg;exact(hk hg).elim
  ·rw[hmo,key (.inl hK),show (trM q s' δ (C5 r)).fail=shE δ (C5 r).fail from rfl,K2]
   split
   ·exact Jp ..
   ·split<;>rfl
 ·have hok:Bd r maxI=false:=by simpa using hok
  unfold frmStep
  rw[e1,hok,e3];rfl
theorem Ark: ∀(k:Nat) (w:Wh),(Cz Agn Fj k w).r=Cz (fun r=>Eu (r.s.length:Int) r) frmStep k w.r
 |0,_=>rfl
 |k+1,w=>by
  simp only[Cz]
  rw[show Agn w=Eu (w.r.s.length:Int) w.r from rfl]
  split
  ·rw[Ark k];rfl
  ·rfl
theorem Ans: ∀(k:Nat) (s:List UInt8) (r:Mr),r.s=s→r.at_≤(s.length:Int)→Cz (fun r=>Eu (r.s.length:Int) r) frmStep k r=Cz (Eu (s.length:Int)) frmStep k r
 |0,_,_,_,_=>rfl
 |k+1,s,r,h,ha=>by
  subst h
  simp only[Cz]
  split
  ·rename_i hg
   have hf:=Gg (r:=r) ha (Gf hg)
   by_cases hk:(frmStep r).fail.kind=0
   ·have e1:=Ans k (frmStep r).s (frmStep r) rfl (by rw[hf.1.s];exact(hf.1.at_ hk).2)
    rw[hf.1.s] at e1;exact e1
   ·rw[Cn (by simp[Eu,hk]),Cn (by simp[Eu,hk])]
  ·rfl
theorem Yh (p:Pln) (s:List UInt8):(Fu p s).r=Cz (Eu (s.length:Int)) frmStep (Gq (mr0 p s 0)) (mr0 p s 0):=by
 unfold Fu Ajn
 rw[Ark]
 exact Ans _ s _ rfl (by show (0:Int)≤_;omega)
theorem K3:He frmStep:=fun _ h h0=>Gg h h0
end
def FK (r:Mr):Prop:=r.fail.kind=0∨r.fail.kind=10
theorem Afb {r:Mr} {e:Int} (h:FK r):FK (Ae r e):=by unfold Ae;split;exact h;exact .inr rfl
theorem Ant {r:Mr} {w e:Int} (h:FK r):FK (Cp r w e):=by
 unfold Cp Fb;split
 ·split
  ·exact .inr rfl
  ·split
   ·exact h
   ·exact .inr rfl
 ·exact Afb h
theorem Anu {r:Mr} {f:Fld} {w e:Int} (h:FK r):FK (B4 r f w e):=by unfold B4;split;exact Ant (w:=w) (e:=e) h;exact Ant h
theorem Yi {go:Mr→Bool} {step:Mr→Mr} (hs: ∀r,FK r→FK (step r)): ∀(k:Nat) (r:Mr),FK r→FK (Cz go step k r)
 |0,_,h=>h
 |k+1,r,h=>by
  unfold Cz;split
  ·exact Yi hs k _ (hs r h)
  ·exact h
theorem Ao6 {r:Mr} {f:Fld} {n:Int} (h:FK r):FK (Ew r f n):=by unfold Ew;split;exact h;exact h
theorem Aqf {r:Mr} {f:Fld} {n:Int} (h:FK r):FK (Bx r f n):=by
 unfold Bx;split
 ·exact .inr rfl
 split
 ·exact .inr rfl
 split
 ·exact .inr rfl
 ·exact Ao6 (f:=f) (n:=n) h
theorem Ao7 {sub:Mr→Fld→Int→Int→Mr} (hs: ∀v f n st,FK v→FK (sub v f n st)) {r:Mr} {f:Fld} {known:Bool} {e:Int} (h:FK r):FK (Bf sub r f known e):=by
 have hv:=Afb (e:=e) h
 unfold Bf;split
 ·exact hv
 split
 ·exact .inr rfl
 split
 ·split
  ·exact .inr rfl
  ·exact hv
 split
 ·exact hs _ _ _ _ hv
 split
 ·exact Yi (fun r h=>Anu h) _ _ hv
 ·exact Aqf hv
theorem Anv {sub:Mr→Fld→Int→Int→Mr} (hs: ∀v f n st,FK v→FK (sub v f n st)) {sh e:Int} {r:Mr} (h:FK r):FK (Dv sub sh e r):=by
 have hv:=Afb (e:=e) h
 unfold Dv;split
 ·exact hv
 split
 ·exact .inr rfl
 split
 ·exact .inr rfl
 split
 ·exact .inr rfl
 split
 ·exact Ao7 hs hv
 ·exact Anu hv
theorem Anw: ∀(D:Nat) (v:Mr) (f:Fld) (n st:Int),FK v→FK (Gh D v f n st)
 |0,_,_,_,_,_=> .inr rfl
 |D+1,v,f,n,st,h=>by
  have hm:FK (D8 D f.msg (v.at_+n) (Am v (En f n))):=by rw[Fz];exact Yi (fun r h=>Anv (Anw D) h) _ _ h
  simp only[Gh];split
  ·exact hm
  ·exact hm
theorem Ao8 {D:Nat} {sh e:Int} {r:Mr} (h:FK r):FK (D8 D sh e r):=by rw[Fz];exact Yi (fun r h=>Anv (Anw D) h) _ _ h
theorem Aqg {r:Mr} (h:FK r):FK (frmStep r):=by
 have hv:=Afb (e:=maxI) h
 unfold frmStep;split
 ·exact hv
 split
 ·exact .inr rfl
 have hm:FK (C5 r):=Ao8 (r:=Am (Ae r maxI) (Ds (An r maxI))) hv
 split
 ·exact hm
 ·exact hm
theorem Ams (p:Pln) (s:List UInt8):FK (Fu p s).r:=by rw[Yh];exact Yi (fun r h=>Aqg h) _ _ (.inl rfl)
/-! ### Further on -/
theorem Aj0 {step step':Mr→Mr} (hs:He step) (hs':He step') {e e':Int} (he:e≤e') (hm: ∀r:Mr,r.at_≤(r.s.length:Int)→r.fail.kind=0→(step r).fail.kind=0→step' r=step r): ∀(n:Nat) (r:Mr),Gq r≤n→r.at_≤(r.s.length:Int)→r.fail.kind=0→(Cz (Eu e) step (Gq r) r).fail.kind=0→
  Cz (Eu e') step' (Gq r) r=Cz (Eu e') step' (Gq (Cz (Eu e) step (Gq r) r)) (Cz (Eu e) step (Gq r) r):=by
 intro n
 induction n with
 |zero=>
  intro r hn hl h0 hk
  have:Eu e r=false:=by simp only[Gq,if_pos h0] at hn;omega
  rw[Cn this]
 |succ n ih=>
  intro r hn hl h0 hk
  by_cases hg:r.at_<e
  ·have hi:=(LInv.refl (step:=step) (e:=e) hl).go hs hg h0
   have hi':=(LInv.refl (step:=step') (e:=e') hl).go hs' (by omega) h0
   have hk1:(step r).fail.kind=0:=by
    by_cases h1:(step r).fail.kind=0
    ·exact h1
    ·rw[←hi.1.run,Cn (by simp[Eu,h1])] at hk;exact hk
   have hst:=hm r hl h0 hk1
   rw[hst] at hi'
   have ha:=hi.1.at_ hk1
   rw[←hi'.1.run,←hi.1.run]
   rw[←hi.1.run] at hk
   exact ih (step r) Q2 ha.2 hk1 hk
  ·have:Eu e r=false:=by simp[Eu];omega
   rw[Cn this]
def FB (M:Int) (r:Mr):Prop:=r.fail.kind≠0→0≤r.fail.at_∧r.fail.at_≤M
theorem FB.ok {M:Int} {r:Mr} (h:r.fail.kind=0):FB M r:=fun h2=>(h2 h).elim
theorem FB.fail {M:Int} {r:Mr} {c a:Int} (h:0≤a∧a≤M):FB M (Bg r c a):=fun _=>h
theorem Aj1 {s:List UInt8} {a e M:Int} (ha:0≤a) (he:0≤e) (hM:e≤M∧(s.length:Int)≤M): ∀(f:Nat) (k u:Int),0≤k→(vwA s a e f k u).2.2≠0→0≤(vwA s a e f k u).2.1∧(vwA s a e f k u).2.1≤M
 |0,_,_,_,_=>⟨by show 0≤(s.length:Int);omega,hM.2⟩
 |f+1,k,u,hk,h=>by
  rw[Rm] at h ⊢
  by_cases h1:e≤a+k
  ·rw[if_pos h1];exact⟨he,hM.1⟩
  rw[if_neg h1] at h ⊢
  split
  ·exact⟨by dsimp only;omega,hM.2⟩
  rename_i h2;rw[if_neg h2] at h
  split
  ·dsimp only;omega
  rename_i h3;rw[if_neg h3] at h
  split
  ·rename_i h4;rw[if_pos h4] at h;exact(h rfl).elim
  rename_i h4;rw[if_neg h4] at h
  exact Aj1 ha he hM f (k+1) _ Q2 h
section
variable {p:Pln} {s:List UInt8} {e M:Int}
theorem Afc {r:Mr} (h:At p s 0 e r) (hM:e≤M∧(s.length:Int)≤M):FB M (Ae r e):=by
 have h1:=h.lo_;have h2:=h.len;have h3:=h.to
 unfold Ae;split
 ·exact FB.ok h.ok
 ·rename_i hn
  refine FB.fail ?_
  have hc:(Ah r.s r.at_ e).2.2≠0:=by simpa [Bd] using hn
  rw[h.txt] at hc ⊢
  have hw:Aq r.at_ 0 (s.length:Int)=true:=by simp only[Aq,Bool.and_eq_true,decide_eq_true_eq];omega
  unfold Ah at hc ⊢
  rw[if_pos hw] at hc ⊢
  exact Aj1 h1 Q2 hM 10 0 0 Q2 hc
theorem Anx {r:Mr} {f:Fld} {w:Int} (h:At p s 0 e r) (hM:e≤M∧(s.length:Int)≤M):FB M (B4 r f w e):=by
 have h1:=h.lo_;have h2:=h.len;have h3:=h.to
 have hv:FB M (Cp r w e):=by
  unfold Cp Fb;split
  ·split
   ·exact FB.fail ⟨h1,by omega⟩
   ·split
    ·exact FB.ok h.ok
    ·exact FB.fail (by rw[h.txt];omega)
  ·exact Afc h hM
 unfold B4;split
 ·exact hv
 ·exact hv
theorem Yj {step:Mr→Mr} (hs:He step) (ht: ∀r:Mr,At p s 0 e r→(step r).fail.kind=0→(step r).at_≤e) (hq: ∀r,At p s 0 e r→r.at_<e→FB M (step r)): ∀(k:Nat) (r:Mr),At p s 0 e r→FB M (Cz (Eu e) step k r)
 |0,_,h=>FB.ok h.ok
 |k+1,r,h=>by
  unfold Cz;split
  ·rename_i hg
   have hlt:r.at_<e:=by simp[Eu] at hg;exact hg.1
   by_cases hk:(step r).fail.kind=0
   ·exact Yj hs ht hq k _ (h.next (hs r h.hl h.ok) (ht r h) hk)
   ·rw[Cn (by simp[Eu,hk])];exact hq r h hlt
  ·exact FB.ok h.ok
theorem Aqh {r:Mr} {f:Fld} (h:At p s 0 e r) (hM:e≤M∧(s.length:Int)≤M):FB M (Ho r f e):=
 Yj (Kg f _ _) (fun r h hk=>Sb h.ok h.hl hk) (fun r h _=>Anx h hM) _ r h
theorem Aqi {r:Mr} {f:Fld} {n:Int} (h:At p s 0 e r) (hn:0≤n) (he:r.at_+n≤e) (hM:e≤M∧(s.length:Int)≤M):FB M (Bx r f n):=by
 have h1:=h.lo_;have h2:=h.len
 have hth:=Ms (r:=r) hn h1 (by rw[h.txt];exact h2)
 have hto:=(X8 (f:=f) (n:=n) h.hl).2.2
 unfold Bx;split
 ·rename_i hb
  refine FB.fail ?_
  have:Kf r f n<((A0 r n).length:Int):=by
   unfold Kf at hb ⊢
   split
   ·rename_i h6;rw[if_pos h6] at hb;exact(Aa4 _ _).2 hb
   ·rename_i h6;rw[if_neg h6] at hb;omega
  omega
 split
 ·exact FB.fail (by rw[h.txt];omega)
 split
 ·exact FB.fail (by omega)
 ·refine FB.ok ?_
  show (Ew r f n).fail.kind=0
  rw[hto];exact h.ok
theorem Ao9 {sub:Mr→Fld→Int→Int→Mr} (hsub: ∀v f n st,At p s 0 e v→0≤n→v.at_+n≤e→0≤st→st≤M→FB M (sub v f n st)) {r:Mr} {f:Fld} {known:Bool} (h:At p s 0 e r) (hM:e≤M∧(s.length:Int)≤M):FB M (Bf sub r f known e):=by
 have h1:=h.lo_;have h2:=h.to
 have hu:=Gs r e
 unfold Bf;split
 ·exact Afc h hM
 rename_i hok
 have hok:Bd r e=true:=by simpa using hok
 have hv:=h.var hok
 split
 ·exact FB.fail (by omega)
 split
 ·split
  ·exact FB.fail (by rw[h.txt];omega)
  ·exact FB.ok hv.ok
 split
 ·exact hsub _ _ _ _ hv hu.1 (by omega) h1 (by omega)
 split
 ·exact Aqh ⟨hv.txt,hv.plan,hv.lo_,hv.len,by omega,hv.ok⟩ (by omega)
 ·exact Aqi hv hu.1 (by omega) hM
theorem Any {sub:Mr→Fld→Int→Int→Mr} (hsub: ∀v f n st,At p s 0 e v→0≤n→v.at_+n≤e→0≤st→st≤M→FB M (sub v f n st)) {sh:Int} {r:Mr} (h:At p s 0 e r) (hM:e≤M∧(s.length:Int)≤M):FB M (Dv sub sh e r):=by
 have h1:=h.lo_;have h2:=h.to
 unfold Dv;split
 ·exact Afc h hM
 rename_i hok
 have hok:Bd r e=true:=by simpa using hok
 have hv:=h.var hok
 split
 ·exact FB.fail (by omega)
 split
 ·exact FB.fail (by omega)
 split
 ·exact FB.fail (by omega)
 split
 ·exact Ao9 hsub hv hM
 ·exact Anx hv hM
end
theorem Anz {p:Pln} {s:List UInt8} {M:Int} (hs:(s.length:Int)≤M): ∀(D:Nat) (e:Int),e≤M→∀(v:Mr) (f:Fld) (n st:Int),At p s 0 e v→0≤n→v.at_+n≤e→0≤st→st≤M→FB M (Gh D v f n st)
 |0,_,_,_,_,_,_,_,_,_,h1,h2=>FB.fail ⟨h1,h2⟩
 |D+1,e,he,v,f,n,st,h,hn,hne,h1,h2=>by
  have ht:At p s 0 (v.at_+n) (Am v (En f n)):=⟨h.txt,h.plan,h.lo_,h.len,by show v.at_≤_;omega,h.ok⟩
  have hm:FB M (D8 D f.msg (v.at_+n) (Am v (En f n))):=by
   rw[Fz]
   exact Yj (Fi _ _ _) (fun r h hk=>Nj (U9 D) h.ok h.hl hk) (fun r h _=>Any (Anz hs D _ Q2) h ⟨by omega,hs⟩) _ _ ht
  simp only[Gh];split
  ·rename_i hk;exact FB.ok hk
  ·exact hm
end Go.Proofs.YtcmnedgnppnhoaaGreat.Ax
