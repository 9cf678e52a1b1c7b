/- Decoders: what is valid, at last. Decoders: what is valid: both sides. Copies. The machine: closing. -/
import Derived.Test.YtphecbmdhbphgaaGreatKFnPullAgain2
import Derived.Test.YtphecbmdhbphgaaGreatKFnPullAgain1
set_option linter.unusedSimpArgs false
set_option linter.unusedVariables false
namespace Go.Proofs.YtphecbmdhbphgaaGreat.Ax
open Go.RowKit
theorem Vq {s:Scn} :s=scn0↔s.bits=0∧s.have_=0:=⟨fun h=>by subst h;exact⟨rfl,rfl⟩,fun h=>by cases s;simp_all[scn0]⟩
theorem C6 {f:Fld} :f=fld0↔f.number=0∧f.kind=0∧f.rep=false∧f.packed=false∧f.msg=0:=⟨fun h=>by subst h;exact⟨rfl,rfl,rfl,rfl,rfl⟩,Zm⟩
theorem Ub {e:Ev} :e=ev0↔e.kind=0∧e.field=0∧e.bits=0∧e.len=0∧e.text=[]∧e.code=0∧e.at_=0:=⟨fun h=>by subst h;exact⟨rfl,rfl,rfl,rfl,rfl,rfl,rfl⟩,fun h=>An4 h⟩
theorem Kb (d:Dcd):0≤Bu d∧Bu d≤8:=by
 unfold Bu
 have h1:=Em d.wire
 have h2:=Em (Cd d.field.kind)
 split
 ·exact h1
 ·split
  ·exact h2
  ·omega
structure Ns where
 i:Nat
def Nt (d:Dcd):Fam:=⟨Ns,fun q1=>[(1,.v (vP 0)),(3,.v (vI ((List.length d.stack:Nat):Int))),(4,.v (vI ((q1.i:Nat):Int)))],fun _=>[.cells (Bs d)],fun q1=>q1.i≤List.length d.stack∧Xy (List.length d.plan.shapes:Int) (List.drop q1.i d.stack)+q1.i=Xy (List.length d.plan.shapes:Int) d.stack,fun q1=>List.length d.stack-q1.i⟩
theorem Ajp (d:Dcd) (hp1:List.length (d).stack≤A8) (hp2:List.length (d).plan.shapes≤1000):Fun Tryz.prog 124 [.agg (Bs d)] [] (.v (vB (Ry d))) []:=by
 have hN:A8=274877906944:=rfl
 refine Aq Tryz.func124 Q4 Q4 (w:=let z7:=((List.length d.plan.shapes:Nat):Int)-1;let z8:=((List.length d.stack:Nat):Int);let z9:S:= .v (vB (Ry d));let z10:=Ak z8 1 d.plan.deep;let z11:=Nt d;(.seg [.at 0,.keep [1,3,4],.sel [0]] (.loop z11 fun q1=> .br (.intro (Sx (d.stack[q1.i]?)) fun x1=>let z1:=Ak x1.msg 0 z7;.case (!z1) (.seg [.ord (os 24 [12,21]) [],.el .lev x1,.as 24 (.v (vI z7)),.call [] (.v (vB z1)) [],.br true] (.leaf () [])) (.seg [.ord (os 24 [12,21]) [],.el .lev x1,.as 24 (.v (vI z7)),.call [] (.v (vB z1)) [],.br false,.el .lev x1,.call [] (.v (vB (Ak x1.left 0 2000))) []] (.br (.leaf () []) (.seg [.as 12 (.v (vI (((q1.i:Nat):Int)+1))),.at 0,.keep [1,3,4],.sel [0]] (.next))))) (.br (.leaf () []) (.br (.leaf () []) (.seg [.call [] (.v (vB z10)) []] (.br (.seg [.call [] (.v (vI (D6 d))) []] (.leaf () [])) (.leaf () [])))))),z11.Has [(1,.v (vP 0)),(3,.v (vI z8)),(4,.v (vI 0))] [.cells (Bs d)]∧∀q1,z11.inv q1→(let z6:=((q1.i:Nat):Int);let z5:=(0:Int)≤z6;Bc (decide (z6<z8)) (El (d.stack[q1.i]?) fun x1=>(let z2:=Ak x1.msg 0 z7;let z3:=d.stack[q1.i]? =some x1;let z4:List V:=[vI x1.msg,vI 0,vI z7];Bc (!z2) (z3∧z5∧z3∧z5∧(wI z7)∧(wI z7)∧(Fp 44 z4 [] (.v (vB z2)) [])∧((!z2)=true)∧Lf (.v (vB false)) z9 [] []) (z3∧z5∧z3∧z5∧(wI z7)∧(wI z7)∧(Fp 44 z4 [] (.v (vB z2)) [])∧((!z2)=false)∧z3∧z5∧z3∧z5∧(Fp 44 [vI x1.left,vI 0,vI 2000] [] (.v (vB (Ak x1.left 0 2000))) [])∧Bc (!(Ak x1.left 0 2000)) (Lf (.v (vB false)) z9 [] []) ((wI (z6+1))∧z11.Nxt q1 [(1,.v (vP 0)),(3,.v (vI z8)),(4,.v (vI (z6+1)))] [.cells (Bs d)])))) (Bc (decide (d.mode=1)) (Lf (.v (vB (decide (z8=0)))) z9 [] []) (Bc (decide (d.mode=9)) (Lf (.v (vB (decide (z8≤d.plan.deep)))) z9 [] []) ((Fp 44 [vI z8,vI 1,vI d.plan.deep] [] (.v (vB z10)) [])∧Bc z10 ((Fp 126 [.agg (Bs d)] [] (.v (vI (D6 d))) [])∧Lf (.v (vB (decide (1≤D6 d)))) z9 [] []) (Lf (.v (vB false)) z9 [] []))))))) Q4 ?_
 refine⟨Bj (j:=(⟨0⟩:Ns)) Q9 rfl (by dsimp only[Nt];exact⟨by omega,rfl⟩),fun (q1:Ns) hq_q1=>?_⟩
 have hi_q1:q1.i≤List.length d.stack∧Xy (List.length d.plan.shapes:Int) (List.drop q1.i d.stack)+q1.i=Xy (List.length d.plan.shapes:Int) d.stack:=hq_q1
 obtain ⟨v1,v2⟩:=hi_q1
 refine dsp (fun h1 p1=>?_) fun h1 p1=>?_
 refine⟨(Bm (l:=d.stack) (i:=q1.i) Q2),fun x1 hx1=>?_⟩
 rw[Dj hx1,S5] at v2
 refine⟨fun h2=>have q2:=An h2;have p2:=Ay q2;?_,fun h2=>have q2:=Am h2;have p2:=As q2;?_⟩
 refine⟨hx1,Q2,hx1,Q2,(Ad Q2 Q2),(Ad Q2 Q2),(Bf _ _ _),h2,(sB ?_),rfl⟩
 rotate_left
 refine⟨hx1,Q2,hx1,Q2,(Ad Q2 Q2),(Ad Q2 Q2),(Bf _ _ _),h2,hx1,Q2,hx1,Q2,(Bf _ _ _),fun h3=>have q3:=An h3;have p3:=Ay q3;?_,fun h3=>have q3:=Am h3;have p3:=As q3;?_⟩
 refine⟨(sB ?_),rfl⟩
 rotate_left
 exact⟨(Ad Q2 Q2),A5 (j:=(⟨q1.i+1⟩:Ns)) Q9 rfl (by dsimp only[Nt];exact⟨by omega,by simp_all[Fj];omega⟩) (by dsimp only[Nt];omega)⟩
 have hal:List.all d.stack (Fj (List.length d.plan.shapes:Int))=true:=by rw[Nk];rw[List.drop_eq_nil_of_le (by omega)] at v2;simp only[Xy] at v2;exact decide_eq_true (by omega)
 refine dsp (fun h2 p2=>?_) fun h2 p2=>?_
 refine⟨(sB ?_),rfl⟩
 rotate_left
 refine dsp (fun h3 p3=>?_) fun h3 p3=>?_
 refine⟨(sB ?_),rfl⟩
 rotate_left
 refine⟨(Bf _ _ _),fun h4=>have p4:=As h4;?_,fun h4=>have p4:=Ay h4;?_⟩
 refine⟨(Pr d Q2),(sB ?_),rfl⟩
 rotate_left
 refine⟨(sB ?_),rfl⟩
 rotate_left
 all_goals first|(simp_all[Ry];done)|((have hal:List.all d.stack (Fj (List.length d.plan.shapes:Int))=false:=(by rw[Nk];rw[if_neg (by simp_all[Fj])] at v2;exact decide_eq_false (by have:=congrArg List.length (Dj hx1);simp only[List.length_drop,List.length_cons] at this;omega));simp[Ry,hal];done))|(grind[Ry])
theorem Qe (d:Dcd) (hp1:List.length (d).stack≤A8):Fun Tryz.prog 130 [.agg (Bs d)] [] (.v (vB (Ace d))) []:=by
 have hN:A8=274877906944:=rfl
 have hwd:=Kb d
 refine Aq Tryz.func130 Q4 Q4 (w:=let z3:S:= .v (vB (Ace d));let z4:S:= .v (vB (Dr d.scan));let z5:=8*d.scan.have_;let z7:S:= .v (vB (decide (d.scan.bits=0)&&decide (d.scan.have_=0)));let z8:=Lf (.v (vB false)) z3 [] [];let z10:=decide (d.mode=8);let z11:=Bu d-1;let z2:=Ak d.scan.have_ 0 z11;let z12:S:= .v (vI (D6 d));let z13:=decide (Int.fdiv d.scan.bits (2 ^ min (Int.toNat z5) 64)=0);let z14:List V:=[vI d.scan.have_,vI 0,vI z11];let z15:S:= .v (vB z2);let z16:S:= .v (.c (.int .u64 z5));let z17:=Bu d;let z6:=(.v (vI (IntKind.i64.wrap (z17-1))):S)= .v (vI z11);let z9:=z17-d.scan.have_;let z1:=(wI z5)∧(wU z5)∧((0:Int)≤8*d.scan.have_)∧Bc z13 ((wI z9)∧Lf (.v (vB (decide (z17-d.scan.have_≤d.want)))) z3 [] []) z8;(.seg [.call [] (.v (vI z17)) []] (.br (.seg [.br true] (.leaf () [])) (.br (.seg [.br true] (.leaf () [])) (.br (.leaf () []) (.br (.seg [.br true] (.br (.br (.seg [.call [] z4 []] (.leaf () [])) (.seg [.call [] z12 [],.br true,.as 41 (.v (vI z11)),.call [] z15 []] (.br (.seg [.as 50 (.v (vI z5)),.as 51 z16] (.br (.seg [.as 60 (.v (vI z9))] (.leaf () [])) (.leaf () []))) (.leaf () [])))) (.seg [.call [] z12 [],.br false,.as 41 (.v (vI z11)),.call [] z15 []] (.br (.seg [.as 50 (.v (vI z5)),.as 51 z16] (.br (.seg [.as 60 (.v (vI z9))] (.leaf () [])) (.leaf () []))) (.leaf () []))))) (.br (.seg [.br true] (.br (.seg [.call [] z4 []] (.leaf () [])) (.seg [.call [] z12 [],.br true,.as 41 (.v (vI z11)),.call [] z15 []] (.br (.seg [.as 50 (.v (vI z5)),.as 51 z16] (.br (.seg [.as 60 (.v (vI z9))] (.leaf () [])) (.leaf () []))) (.leaf () []))))) (.seg [.call [] z4 []] (.leaf () []))))))),(Fp 61 [.agg (Bs d)] [] (.v (vI z17)) [])∧Bc (decide (d.mode=6)) (((decide (d.mode=6))=true)∧Lf z7 z3 [] []) (Bc (decide (d.mode=7)) (((decide (d.mode=7))=true)∧Lf z7 z3 [] []) (Bc (decide (d.mode=9)) (Lf z7 z3 [] []) (Bc (decide (d.mode=5)) (((decide (d.mode=5))=true)∧Bc z10 (Bc (decide (Bu d=0)) ((Fp 189 [.agg (Lg d.scan)] [] z4 [])∧Lf z4 z3 [] []) ((Fp 126 [.agg (Bs d)] [] z12 [])∧(z10=true)∧z6∧(Fp 44 z14 [] z15 [])∧Bc z2 z1 z8)) ((Fp 126 [.agg (Bs d)] [] z12 [])∧(z10=false)∧z6∧(Fp 44 z14 [] z15 [])∧Bc z2 ((wI z5)∧(wU z5)∧((0:Int)≤8*d.scan.have_)∧Bc z13 ((wI z9)∧Lf (.v (vB (decide (z17-d.scan.have_≤D6 d)))) z3 [] []) z8) z8)) (Bc z10 ((z10=true)∧Bc (decide (Bu d=0)) ((Fp 189 [.agg (Lg d.scan)] [] z4 [])∧Lf z4 z3 [] []) ((Fp 126 [.agg (Bs d)] [] z12 [])∧(z10=true)∧z6∧(Fp 44 z14 [] z15 [])∧Bc z2 z1 z8)) ((Fp 189 [.agg (Lg d.scan)] [] z4 [])∧Lf z4 z3 [] []))))))) Q4 ?_
 refine⟨(Ka d),dsp (fun h1 p1=>?_) fun h1 p1=>?_⟩
 refine⟨h1,(sB ?_),rfl⟩
 rotate_left
 refine dsp (fun h2 p2=>?_) fun h2 p2=>?_
 refine⟨h2,(sB ?_),rfl⟩
 rotate_left
 refine dsp (fun h3 p3=>?_) fun h3 p3=>?_
 refine⟨(sB ?_),rfl⟩
 rotate_left
 refine dsp (fun h4 p4=>?_) fun h4 p4=>?_
 refine⟨h4,dsp (fun h5 p5=>?_) fun h5 p5=>?_⟩
 refine dsp (fun h6 p6=>?_) fun h6 p6=>?_
 refine⟨(Vp d.scan),(sB ?_),rfl⟩
 rotate_left
 refine⟨(Pr d Q2),h5,(Ad Q2 Q2),(Bf _ _ _),fun h7=>have p7:=As h7;?_,fun h7=>have p7:=Ay h7;?_⟩
 refine⟨(Ad Q2 Q2),(B3 Q2 Q2),Q2,dsp (fun h8 p8=>?_) fun h8 p8=>?_⟩
 refine⟨(Ad Q2 Q2),(sB ?_),rfl⟩
 rotate_left
 refine⟨(sB ?_),rfl⟩
 rotate_left
 refine⟨(sB ?_),rfl⟩
 rotate_left
 refine⟨(Pr d Q2),h5,(Ad Q2 Q2),(Bf _ _ _),fun h6=>have p6:=As h6;?_,fun h6=>have p6:=Ay h6;?_⟩
 refine⟨(Ad Q2 Q2),(B3 Q2 Q2),Q2,dsp (fun h7 p7=>?_) fun h7 p7=>?_⟩
 refine⟨(Ad Q2 Q2),(sB ?_),rfl⟩
 rotate_left
 refine⟨(sB ?_),rfl⟩
 rotate_left
 refine⟨(sB ?_),rfl⟩
 rotate_left
 refine dsp (fun h5 p5=>?_) fun h5 p5=>?_
 refine⟨h5,dsp (fun h6 p6=>?_) fun h6 p6=>?_⟩
 refine⟨(Vp d.scan),(sB ?_),rfl⟩
 rotate_left
 refine⟨(Pr d Q2),h5,(Ad Q2 Q2),(Bf _ _ _),fun h7=>have p7:=As h7;?_,fun h7=>have p7:=Ay h7;?_⟩
 refine⟨(Ad Q2 Q2),(B3 Q2 Q2),Q2,dsp (fun h8 p8=>?_) fun h8 p8=>?_⟩
 refine⟨(Ad Q2 Q2),(sB ?_),rfl⟩
 rotate_left
 refine⟨(sB ?_),rfl⟩
 rotate_left
 refine⟨(sB ?_),rfl⟩
 rotate_left
 refine⟨(Vp d.scan),(sB ?_),rfl⟩
 rotate_left
 all_goals first|(simp_all[Ace,An3,Qc,Vq];done)|(grind[Ace,An3,Qc,Vq])
theorem Cy (d:Dcd) (hp1:List.length (d).stack≤A8):Fun Tryz.prog 110 [.agg (Bs d)] [] (.v (vB (J6 d))) []:=by
 have hN:A8=274877906944:=rfl
 have hwd:=Kb d
 refine Aq Tryz.func110 Q4 Q4 (w:=let z3:=8*d.scan.have_;let z7:S:= .v (vB (J6 d));let z1:=Lf (.v (vB (decide (d.scan.bits=0)&&decide (d.scan.have_=0)))) z7 [] [];let z4:=Lf (.v (vB false)) z7 [] [];let z8:=decide (Int.fdiv d.scan.bits (2 ^ min (Int.toNat z3) 64)=0);let z9:=Bu d-1;let z2:=Ak d.scan.have_ 0 z9;let z10:S:= .v (vB (Dr d.scan));let z11:=Bu d;let z5:=(.v (vI (IntKind.i64.wrap (z11-1))):S)= .v (vI z9);let z6:=z11-d.scan.have_;(.seg [.call [] (.v (vI z11)) []] (.br (.seg [.call [] (.v (vI (D6 d))) []] (.br (.seg [.as 21 (.v (vI z9)),.call [] (.v (vB z2)) []] (.br (.seg [.as 30 (.v (vI z3)),.as 31 (.v (.c (.int .u64 z3)))] (.br (.seg [.as 40 (.v (vI z6))] (.leaf () [])) (.leaf () []))) (.leaf () []))) (.seg [.as 21 (.v (vI z9)),.call [] (.v (vB z2)) []] (.br (.seg [.as 30 (.v (vI z3)),.as 31 (.v (.c (.int .u64 z3)))] (.br (.seg [.as 40 (.v (vI z6))] (.leaf () [])) (.leaf () []))) (.leaf () []))))) (.br (.leaf () []) (.br (.leaf () []) (.br (.leaf () []) (.seg [.call [] z10 []] (.leaf () [])))))),(Fp 118 [.agg (Bs d)] [] (.v (vI z11)) [])∧Bc (decide (0<Bu d)) ((Fp 108 [.agg (Bs d)] [] (.v (vI (D6 d))) [])∧Bc (decide (d.mode=8)) (z5∧(Fp 97 [vI d.scan.have_,vI 0,vI z9] [] (.v (vB z2)) [])∧Bc z2 ((wI z3)∧(wU z3)∧((0:Int)≤8*d.scan.have_)∧Bc z8 ((wI z6)∧Lf (.v (vB (decide (z11-d.scan.have_≤d.want)))) z7 [] []) z4) z4) (z5∧(Fp 97 [vI d.scan.have_,vI 0,vI z9] [] (.v (vB z2)) [])∧Bc z2 ((wI z3)∧(wU z3)∧((0:Int)≤8*d.scan.have_)∧Bc z8 ((wI z6)∧Lf (.v (vB (decide (z11-d.scan.have_≤D6 d)))) z7 [] []) z4) z4)) (Bc (decide (d.mode=6)) z1 (Bc (decide (d.mode=7)) z1 (Bc (decide (d.mode=9)) z1 ((Fp 172 [.agg (Lg d.scan)] [] z10 [])∧Lf z10 z7 [] [])))))) Q4 ?_
 refine⟨(Rb d),dsp (fun h1 p1=>?_) fun h1 p1=>?_⟩
 refine⟨(Ed d Q2),dsp (fun h2 p2=>?_) fun h2 p2=>?_⟩
 refine⟨(Ad Q2 Q2),(Cf _ _ _),fun h3=>have p3:=As h3;?_,fun h3=>have p3:=Ay h3;?_⟩
 refine⟨(Ad Q2 Q2),(B3 Q2 Q2),Q2,dsp (fun h4 p4=>?_) fun h4 p4=>?_⟩
 refine⟨(Ad Q2 Q2),(sB ?_),rfl⟩
 rotate_left
 refine⟨(sB ?_),rfl⟩
 rotate_left
 refine⟨(sB ?_),rfl⟩
 rotate_left
 refine⟨(Ad Q2 Q2),(Cf _ _ _),fun h3=>have p3:=As h3;?_,fun h3=>have p3:=Ay h3;?_⟩
 refine⟨(Ad Q2 Q2),(B3 Q2 Q2),Q2,dsp (fun h4 p4=>?_) fun h4 p4=>?_⟩
 refine⟨(Ad Q2 Q2),(sB ?_),rfl⟩
 rotate_left
 refine⟨(sB ?_),rfl⟩
 rotate_left
 refine⟨(sB ?_),rfl⟩
 rotate_left
 refine dsp (fun h2 p2=>?_) fun h2 p2=>?_
 refine⟨(sB ?_),rfl⟩
 rotate_left
 refine dsp (fun h3 p3=>?_) fun h3 p3=>?_
 refine⟨(sB ?_),rfl⟩
 rotate_left
 refine dsp (fun h4 p4=>?_) fun h4 p4=>?_
 refine⟨(sB ?_),rfl⟩
 rotate_left
 refine⟨(Adx d.scan),(sB ?_),rfl⟩
 rotate_left
 all_goals first|(simp_all[J6,Qc,Vq];done)|(grind[J6,Qc,Vq])
theorem Cz (d:Dcd) (hp1:List.length (d).stack≤A8):Fun Tryz.prog 109 [.agg (Bs d)] [] (.v (vB (Ji d&&Jj d))) []:=by
 have hN:A8=274877906944:=rfl
 have hww:A4 d.wire=0∨0≤d.wire:=by unfold A4;split<;>(try split)<;>omega
 refine Aq Tryz.func109 Q4 Q4 (w:=let z1:= !(!(decide (d.field.number=0)&&(decide (d.field.kind=0)&&(decide (d.field.rep=false)&&(decide (d.field.packed=false)&&decide (d.field.msg=0))))));let z2:S:= .v (vB (Ji d&&Jj d));let z3:S:= .v (vB (Dk d.field d.wire));let z4:=Lf (.v (vB false)) z2 [] [];let z5:=Lf (.v (vB true)) z2 [] [];let z6:=Ak d.want 1 (D6 d);let z7:S:= .v (vB (Uu d.field));let z8:=decide (d.mode=6);let z9:=Gb d.field;let z10:S:= .v (vI (D6 d));let z11:S:= .v (vI (A4 d.wire));let z12:=decide (d.mode=8);let z13:List V:=[vI d.want,vI 1,vI (D6 d)];let z14:S:= .v (vB z6);(.br (.seg [.br true,.ord (os 6 [3,4]) [],.call [] z10 [],.call [] z14 []] (.br (.leaf () []) (.seg [.br true] (.br (.leaf () []) (.leaf () []))))) (.br (.seg [.br true,.ord (os 6 [3,4]) [],.call [] z10 [],.call [] z14 []] (.br (.leaf () []) (.seg [.br false] (.br (.seg [.call [] z7 []] (.leaf () [])) (.br (.br (.br (.leaf () []) (.seg [.call [] z3 []] (.leaf () []))) (.leaf () [])) (.br (.br (.br (.leaf () []) (.seg [.call [] z3 []] (.leaf () []))) (.leaf () [])) (.br (.seg [.call [] z11 []] (.br (.br (.leaf () []) (.seg [.call [] z3 []] (.leaf () []))) (.leaf () []))) (.leaf () [])))))))) (.br (.seg [.ord (os 6 [3,4]) [],.call [] z10 [],.call [] z14 []] (.br (.leaf () []) (.seg [.br false,.br true,.call [] z7 []] (.leaf () [])))) (.br (.leaf () []) (.seg [.br false,.br false] (.br (.br (.br (.leaf () []) (.seg [.call [] z3 []] (.leaf () []))) (.leaf () [])) (.br (.br (.br (.leaf () []) (.seg [.call [] z3 []] (.leaf () []))) (.leaf () [])) (.br (.seg [.call [] z11 []] (.br (.br (.leaf () []) (.seg [.call [] z3 []] (.leaf () []))) (.leaf () []))) (.leaf () [])))))))),Bc z8 ((z8=true)∧(Fp 108 [.agg (Bs d)] [] z10 [])∧(Fp 97 z13 [] z14 [])∧Bc (!z6) z4 ((z8=true)∧Bc (decide (d.field.kind=6)) z5 (Lf (.v (vB (decide (d.field.kind=7)))) z2 [] []))) (Bc (decide (d.mode=7)) (((decide (d.mode=7))=true)∧(Fp 108 [.agg (Bs d)] [] z10 [])∧(Fp 97 z13 [] z14 [])∧Bc (!z6) z4 ((z8=false)∧Bc z12 ((Fp 169 [.agg z9] [] z7 [])∧Lf z7 z2 [] []) (Bc (decide (d.mode=3)) (Bc (decide (d.wire=0)) (Bc z1 z5 ((Fp 170 [.agg z9,vI d.wire] [] z3 [])∧Lf z3 z2 [] [])) z4) (Bc (decide (d.mode=4)) (Bc (decide (d.wire=2)) (Bc z1 z5 ((Fp 170 [.agg z9,vI d.wire] [] z3 [])∧Lf z3 z2 [] [])) z4) (Bc (decide (d.mode=5)) ((Fp 171 [vI d.wire] [] z11 [])∧Bc (decide (0<A4 d.wire)) (Bc z1 z5 ((Fp 170 [.agg z9,vI d.wire] [] z3 [])∧Lf z3 z2 [] [])) z4) z5))))) (Bc z12 ((Fp 108 [.agg (Bs d)] [] z10 [])∧(Fp 97 z13 [] z14 [])∧Bc (!z6) z4 ((z8=false)∧(z12=true)∧(Fp 169 [.agg z9] [] z7 [])∧Lf z7 z2 [] [])) (Bc (!decide (d.want=0)) z4 ((z8=false)∧(z12=false)∧Bc (decide (d.mode=3)) (Bc (decide (d.wire=0)) (Bc z1 z5 ((Fp 170 [.agg z9,vI d.wire] [] z3 [])∧Lf z3 z2 [] [])) z4) (Bc (decide (d.mode=4)) (Bc (decide (d.wire=2)) (Bc z1 z5 ((Fp 170 [.agg z9,vI d.wire] [] z3 [])∧Lf z3 z2 [] [])) z4) (Bc (decide (d.mode=5)) ((Fp 171 [vI d.wire] [] z11 [])∧Bc (decide (0<A4 d.wire)) (Bc z1 z5 ((Fp 170 [.agg z9,vI d.wire] [] z3 [])∧Lf z3 z2 [] [])) z4) z5)))))))) Q4 ?_
 refine dsp (fun h1 p1=>?_) fun h1 p1=>?_
 refine⟨h1,(Ed d Q2),(Cf _ _ _),fun h2=>have q2:=An h2;have p2:=Ay q2;?_,fun h2=>have q2:=Am h2;have p2:=As q2;?_⟩
 refine⟨(sB ?_),rfl⟩
 rotate_left
 refine⟨h1,dsp (fun h3 p3=>?_) fun h3 p3=>?_⟩
 refine⟨(sB ?_),rfl⟩
 rotate_left
 refine⟨(sB ?_),rfl⟩
 rotate_left
 refine dsp (fun h2 p2=>?_) fun h2 p2=>?_
 refine⟨h2,(Ed d Q2),(Cf _ _ _),fun h3=>have q3:=An h3;have p3:=Ay q3;?_,fun h3=>have q3:=Am h3;have p3:=As q3;?_⟩
 refine⟨(sB ?_),rfl⟩
 rotate_left
 refine⟨h1,dsp (fun h4 p4=>?_) fun h4 p4=>?_⟩
 refine⟨(Ag6 d.field),(sB ?_),rfl⟩
 rotate_left
 refine dsp (fun h5 p5=>?_) fun h5 p5=>?_
 refine dsp (fun h6 p6=>?_) fun h6 p6=>?_
 refine⟨fun h7=>have q7:=An h7;have q7':=Am q7;have p7:=(Ch dT (Ch dT (Ch dT (Ch dT dT)))).1 q7';?_,fun h7=>have q7:=Am h7;have q7':=An q7;have p7:=(Ci dT (Ci dT (Ci dT (Ci dT dF)))).1 q7';?_⟩
 refine⟨(sB ?_),rfl⟩
 rotate_left
 refine⟨(K7 d.field _ Q2),(sB ?_),rfl⟩
 rotate_left
 refine⟨(sB ?_),rfl⟩
 rotate_left
 refine dsp (fun h6 p6=>?_) fun h6 p6=>?_
 refine dsp (fun h7 p7=>?_) fun h7 p7=>?_
 refine⟨fun h8=>have q8:=An h8;have q8':=Am q8;have p8:=(Ch dT (Ch dT (Ch dT (Ch dT dT)))).1 q8';?_,fun h8=>have q8:=Am h8;have q8':=An q8;have p8:=(Ci dT (Ci dT (Ci dT (Ci dT dF)))).1 q8';?_⟩
 refine⟨(sB ?_),rfl⟩
 rotate_left
 refine⟨(K7 d.field _ Q2),(sB ?_),rfl⟩
 rotate_left
 refine⟨(sB ?_),rfl⟩
 rotate_left
 refine dsp (fun h7 p7=>?_) fun h7 p7=>?_
 refine⟨(Fq _),dsp (fun h8 p8=>?_) fun h8 p8=>?_⟩
 refine⟨fun h9=>have q9:=An h9;have q9':=Am q9;have p9:=(Ch dT (Ch dT (Ch dT (Ch dT dT)))).1 q9';?_,fun h9=>have q9:=Am h9;have q9':=An q9;have p9:=(Ci dT (Ci dT (Ci dT (Ci dT dF)))).1 q9';?_⟩
 refine⟨(sB ?_),rfl⟩
 rotate_left
 refine⟨(K7 d.field _ Q2),(sB ?_),rfl⟩
 rotate_left
 refine⟨(sB ?_),rfl⟩
 rotate_left
 refine⟨(sB ?_),rfl⟩
 rotate_left
 refine dsp (fun h3 p3=>?_) fun h3 p3=>?_
 refine⟨(Ed d Q2),(Cf _ _ _),fun h4=>have q4:=An h4;have p4:=Ay q4;?_,fun h4=>have q4:=Am h4;have p4:=As q4;?_⟩
 refine⟨(sB ?_),rfl⟩
 rotate_left
 refine⟨h1,h3,(Ag6 d.field),(sB ?_),rfl⟩
 rotate_left
 refine⟨fun h4=>have q4:=An h4;have p4:=of_decide_eq_false q4;?_,fun h4=>have q4:=Am h4;have p4:=of_decide_eq_true q4;?_⟩
 refine⟨(sB ?_),rfl⟩
 rotate_left
 refine⟨h1,h3,dsp (fun h5 p5=>?_) fun h5 p5=>?_⟩
 refine dsp (fun h6 p6=>?_) fun h6 p6=>?_
 refine⟨fun h7=>have q7:=An h7;have q7':=Am q7;have p7:=(Ch dT (Ch dT (Ch dT (Ch dT dT)))).1 q7';?_,fun h7=>have q7:=Am h7;have q7':=An q7;have p7:=(Ci dT (Ci dT (Ci dT (Ci dT dF)))).1 q7';?_⟩
 refine⟨(sB ?_),rfl⟩
 rotate_left
 refine⟨(K7 d.field _ Q2),(sB ?_),rfl⟩
 rotate_left
 refine⟨(sB ?_),rfl⟩
 rotate_left
 refine dsp (fun h6 p6=>?_) fun h6 p6=>?_
 refine dsp (fun h7 p7=>?_) fun h7 p7=>?_
 refine⟨fun h8=>have q8:=An h8;have q8':=Am q8;have p8:=(Ch dT (Ch dT (Ch dT (Ch dT dT)))).1 q8';?_,fun h8=>have q8:=Am h8;have q8':=An q8;have p8:=(Ci dT (Ci dT (Ci dT (Ci dT dF)))).1 q8';?_⟩
 refine⟨(sB ?_),rfl⟩
 rotate_left
 refine⟨(K7 d.field _ Q2),(sB ?_),rfl⟩
 rotate_left
 refine⟨(sB ?_),rfl⟩
 rotate_left
 refine dsp (fun h7 p7=>?_) fun h7 p7=>?_
 refine⟨(Fq _),dsp (fun h8 p8=>?_) fun h8 p8=>?_⟩
 refine⟨fun h9=>have q9:=An h9;have q9':=Am q9;have p9:=(Ch dT (Ch dT (Ch dT (Ch dT dT)))).1 q9';?_,fun h9=>have q9:=Am h9;have q9':=An q9;have p9:=(Ci dT (Ci dT (Ci dT (Ci dT dF)))).1 q9';?_⟩
 refine⟨(sB ?_),rfl⟩
 rotate_left
 refine⟨(K7 d.field _ Q2),(sB ?_),rfl⟩
 rotate_left
 refine⟨(sB ?_),rfl⟩
 rotate_left
 refine⟨(sB ?_),rfl⟩
 rotate_left
 all_goals first|(simp_all[Ji,Jj,Akq,C6,Gt];done)|(grind[Ji,Jj,Akq,C6,Gt])
theorem Ady {w:Int} (h:D1 w=true):0≤w∧w≤5:=by simp[D1] at h;omega
theorem Ae8 {d:Dcd} (h:Bi d=true):Dh d.plan=true:=by simp only[Bi,Bool.and_eq_true] at h;exact h.1.1
theorem W5 (d:Dcd) (hp1:List.length (d).stack≤A8) (hp2:List.length (d).plan.shapes≤A8):Fun Tryz.prog 51 [.agg (Bs d)] [] (.v (vB (Bv d))) []:=by
 have hN:A8=274877906944:=rfl
 refine Aq Tryz.func51 Q4 Q4 (w:=let z3:S:= .v (vB (J6 d));let z4:= !(decide (d.end_.kind=0)&&(decide (d.end_.field=0)&&(decide (d.end_.bits=0)&&(decide (d.end_.len=0)&&(decide (d.end_.text=[])&&(decide (d.end_.code=0)&&decide (d.end_.at_=0)))))));let z5:=Ji d&&Jj d;let z2:S:= .v (vB z5);let z6:S:= .v (vB (Bv d));let z1:=Lf (.v (vB false)) z6 [] [];let z7:= !decide (d.mode=9);let z8:=decide (0<((List.length d.stack:Nat):Int));let z9:= !decide (d.mode=1);let z10:S:= .v (vI (D6 d));let z11:=decide (d.mode=1);let z12:=decide (D6 d<1);let z13:S:= .v (vB (Dg d.end_));let z14:S:= .v (vB (Fn d.end_));let z15:=z7=false;let z16:=Jz (d.plan).shapes d.field;let z17:=z7=true;let z18:=Ak d.at_ 0 1000000000;let z19:=Ak d.start 0 d.at_;let z20:=Ak d.mode 1 9;(.seg [.call [] (.v (vB (Bi d))) []] (.br (.leaf () []) (.seg [.call [] (.v (vB z20)) []] (.br (.leaf () []) (.seg [.call [] (.v (vB z18)) []] (.br (.leaf () []) (.seg [.call [] (.v (vB z19)) []] (.br (.leaf () []) (.seg [.call [] (.v (vB (E4 d.utf))) []] (.br (.leaf () []) (.seg [.call [] (.v (vB (D1 d.wire))) []] (.br (.leaf () []) (.br (.seg [.call [] (.v (vB z16)) []] (.br (.leaf () []) (.br (.seg [.call [] z14 []] (.br (.leaf () []) (.seg [.call [] z13 []] (.br (.leaf () []) (.br (.br (.leaf () []) (.br (.br (.leaf () []) (.br (.seg [.br true,.call [] z10 []] (.br (.leaf () []) (.seg [.call [] z2 []] (.br (.seg [.call [] z3 []] (.leaf () [])) (.leaf () []))))) (.seg [.call [] z2 []] (.br (.seg [.call [] z3 []] (.leaf () [])) (.leaf () []))))) (.br (.seg [.br true,.call [] z10 []] (.br (.leaf () []) (.seg [.call [] z2 []] (.br (.seg [.call [] z3 []] (.leaf () [])) (.leaf () []))))) (.seg [.call [] z2 []] (.br (.seg [.call [] z3 []] (.leaf () [])) (.leaf () [])))))) (.br (.br (.leaf () []) (.br (.seg [.br false,.call [] z2 []] (.br (.seg [.call [] z3 []] (.leaf () [])) (.leaf () []))) (.seg [.call [] z2 []] (.br (.seg [.call [] z3 []] (.leaf () [])) (.leaf () []))))) (.br (.seg [.br false,.call [] z2 []] (.br (.seg [.call [] z3 []] (.leaf () [])) (.leaf () []))) (.seg [.call [] z2 []] (.br (.seg [.call [] z3 []] (.leaf () [])) (.leaf () [])))))))))) (.br (.br (.leaf () []) (.br (.br (.leaf () []) (.br (.seg [.br true,.call [] z10 []] (.br (.leaf () []) (.seg [.call [] z2 []] (.br (.seg [.call [] z3 []] (.leaf () [])) (.leaf () []))))) (.seg [.call [] z2 []] (.br (.seg [.call [] z3 []] (.leaf () [])) (.leaf () []))))) (.br (.seg [.br true,.call [] z10 []] (.br (.leaf () []) (.seg [.call [] z2 []] (.br (.seg [.call [] z3 []] (.leaf () [])) (.leaf () []))))) (.seg [.call [] z2 []] (.br (.seg [.call [] z3 []] (.leaf () [])) (.leaf () [])))))) (.br (.br (.leaf () []) (.br (.seg [.br false,.call [] z2 []] (.br (.seg [.call [] z3 []] (.leaf () [])) (.leaf () []))) (.seg [.call [] z2 []] (.br (.seg [.call [] z3 []] (.leaf () [])) (.leaf () []))))) (.br (.seg [.br false,.call [] z2 []] (.br (.seg [.call [] z3 []] (.leaf () [])) (.leaf () []))) (.seg [.call [] z2 []] (.br (.seg [.call [] z3 []] (.leaf () [])) (.leaf () []))))))))) (.br (.seg [.call [] z14 []] (.br (.leaf () []) (.seg [.call [] z13 []] (.br (.leaf () []) (.br (.br (.leaf () []) (.br (.br (.leaf () []) (.br (.seg [.br true,.call [] z10 []] (.br (.leaf () []) (.seg [.call [] z2 []] (.br (.seg [.call [] z3 []] (.leaf () [])) (.leaf () []))))) (.seg [.call [] z2 []] (.br (.seg [.call [] z3 []] (.leaf () [])) (.leaf () []))))) (.br (.seg [.br true,.call [] z10 []] (.br (.leaf () []) (.seg [.call [] z2 []] (.br (.seg [.call [] z3 []] (.leaf () [])) (.leaf () []))))) (.seg [.call [] z2 []] (.br (.seg [.call [] z3 []] (.leaf () [])) (.leaf () [])))))) (.br (.br (.leaf () []) (.br (.seg [.br false,.call [] z2 []] (.br (.seg [.call [] z3 []] (.leaf () [])) (.leaf () []))) (.seg [.call [] z2 []] (.br (.seg [.call [] z3 []] (.leaf () [])) (.leaf () []))))) (.br (.seg [.br false,.call [] z2 []] (.br (.seg [.call [] z3 []] (.leaf () [])) (.leaf () []))) (.seg [.call [] z2 []] (.br (.seg [.call [] z3 []] (.leaf () [])) (.leaf () [])))))))))) (.br (.br (.leaf () []) (.br (.br (.leaf () []) (.br (.seg [.br true,.call [] z10 []] (.br (.leaf () []) (.seg [.call [] z2 []] (.br (.seg [.call [] z3 []] (.leaf () [])) (.leaf () []))))) (.seg [.call [] z2 []] (.br (.seg [.call [] z3 []] (.leaf () [])) (.leaf () []))))) (.br (.seg [.br true,.call [] z10 []] (.br (.leaf () []) (.seg [.call [] z2 []] (.br (.seg [.call [] z3 []] (.leaf () [])) (.leaf () []))))) (.seg [.call [] z2 []] (.br (.seg [.call [] z3 []] (.leaf () [])) (.leaf () [])))))) (.br (.br (.leaf () []) (.br (.seg [.br false,.call [] z2 []] (.br (.seg [.call [] z3 []] (.leaf () [])) (.leaf () []))) (.seg [.call [] z2 []] (.br (.seg [.call [] z3 []] (.leaf () [])) (.leaf () []))))) (.br (.seg [.br false,.call [] z2 []] (.br (.seg [.call [] z3 []] (.leaf () [])) (.leaf () []))) (.seg [.call [] z2 []] (.br (.seg [.call [] z3 []] (.leaf () [])) (.leaf () []))))))))))))))))))),(Fp 102 [.agg (Bs d)] [] (.v (vB (Bi d))) [])∧Bc (!(Bi d)) z1 ((Fp 97 [vI d.mode,vI 1,vI 9] [] (.v (vB z20)) [])∧Bc (!z20) z1 ((Fp 97 [vI d.at_,vI 0,vI 1000000000] [] (.v (vB z18)) [])∧Bc (!z18) z1 ((Fp 97 [vI d.start,vI 0,vI d.at_] [] (.v (vB z19)) [])∧Bc (!z19) z1 ((Fp 103 [.agg (K3 d.utf)] [] (.v (vB (E4 d.utf))) [])∧Bc (!(E4 d.utf)) z1 ((Fp 104 [vI d.wire] [] (.v (vB (D1 d.wire))) [])∧Bc (!(D1 d.wire)) z1 (Bc (!(decide (d.field.number=0)&&(decide (d.field.kind=0)&&(decide (d.field.rep=false)&&(decide (d.field.packed=false)&&decide (d.field.msg=0)))))) ((Fp 105 [.agg (Mg d.plan),.agg (Gb d.field)] [] (.v (vB z16)) [])∧Bc (!z16) z1 (Bc (decide (d.mode=9)) ((Fp 106 [.agg (cEv d.end_)] [] z14 [])∧Bc (!(Fn d.end_)) z1 ((Fp 107 [.agg (cEv d.end_)] [] z13 [])∧Bc (!(Dg d.end_)) z1 (Bc z7 (Bc z4 z1 (Bc z11 (Bc z8 z1 (Bc z9 (z17∧(Fp 108 [.agg (Bs d)] [] z10 [])∧Bc z12 z1 ((Fp 109 [.agg (Bs d)] [] z2 [])∧Bc z5 ((Fp 110 [.agg (Bs d)] [] z3 [])∧Lf z3 z6 [] []) z1)) ((Fp 109 [.agg (Bs d)] [] z2 [])∧Bc z5 ((Fp 110 [.agg (Bs d)] [] z3 [])∧Lf z3 z6 [] []) z1))) (Bc z9 (z17∧(Fp 108 [.agg (Bs d)] [] z10 [])∧Bc z12 z1 ((Fp 109 [.agg (Bs d)] [] z2 [])∧Bc z5 ((Fp 110 [.agg (Bs d)] [] z3 [])∧Lf z3 z6 [] []) z1)) ((Fp 109 [.agg (Bs d)] [] z2 [])∧Bc z5 ((Fp 110 [.agg (Bs d)] [] z3 [])∧Lf z3 z6 [] []) z1)))) (Bc z11 (Bc z8 z1 (Bc z9 (z15∧(Fp 109 [.agg (Bs d)] [] z2 [])∧Bc z5 ((Fp 110 [.agg (Bs d)] [] z3 [])∧Lf z3 z6 [] []) z1) ((Fp 109 [.agg (Bs d)] [] z2 [])∧Bc z5 ((Fp 110 [.agg (Bs d)] [] z3 [])∧Lf z3 z6 [] []) z1))) (Bc z9 (z15∧(Fp 109 [.agg (Bs d)] [] z2 [])∧Bc z5 ((Fp 110 [.agg (Bs d)] [] z3 [])∧Lf z3 z6 [] []) z1) ((Fp 109 [.agg (Bs d)] [] z2 [])∧Bc z5 ((Fp 110 [.agg (Bs d)] [] z3 [])∧Lf z3 z6 [] []) z1)))))) (Bc z7 (Bc z4 z1 (Bc z11 (Bc z8 z1 (Bc z9 (z17∧(Fp 108 [.agg (Bs d)] [] z10 [])∧Bc z12 z1 ((Fp 109 [.agg (Bs d)] [] z2 [])∧Bc z5 ((Fp 110 [.agg (Bs d)] [] z3 [])∧Lf z3 z6 [] []) z1)) ((Fp 109 [.agg (Bs d)] [] z2 [])∧Bc z5 ((Fp 110 [.agg (Bs d)] [] z3 [])∧Lf z3 z6 [] []) z1))) (Bc z9 (z17∧(Fp 108 [.agg (Bs d)] [] z10 [])∧Bc z12 z1 ((Fp 109 [.agg (Bs d)] [] z2 [])∧Bc z5 ((Fp 110 [.agg (Bs d)] [] z3 [])∧Lf z3 z6 [] []) z1)) ((Fp 109 [.agg (Bs d)] [] z2 [])∧Bc z5 ((Fp 110 [.agg (Bs d)] [] z3 [])∧Lf z3 z6 [] []) z1)))) (Bc z11 (Bc z8 z1 (Bc z9 (z15∧(Fp 109 [.agg (Bs d)] [] z2 [])∧Bc z5 ((Fp 110 [.agg (Bs d)] [] z3 [])∧Lf z3 z6 [] []) z1) ((Fp 109 [.agg (Bs d)] [] z2 [])∧Bc z5 ((Fp 110 [.agg (Bs d)] [] z3 [])∧Lf z3 z6 [] []) z1))) (Bc z9 (z15∧(Fp 109 [.agg (Bs d)] [] z2 [])∧Bc z5 ((Fp 110 [.agg (Bs d)] [] z3 [])∧Lf z3 z6 [] []) z1) ((Fp 109 [.agg (Bs d)] [] z2 [])∧Bc z5 ((Fp 110 [.agg (Bs d)] [] z3 [])∧Lf z3 z6 [] []) z1)))))) (Bc (decide (d.mode=9)) ((Fp 106 [.agg (cEv d.end_)] [] z14 [])∧Bc (!(Fn d.end_)) z1 ((Fp 107 [.agg (cEv d.end_)] [] z13 [])∧Bc (!(Dg d.end_)) z1 (Bc z7 (Bc z4 z1 (Bc z11 (Bc z8 z1 (Bc z9 (z17∧(Fp 108 [.agg (Bs d)] [] z10 [])∧Bc z12 z1 ((Fp 109 [.agg (Bs d)] [] z2 [])∧Bc z5 ((Fp 110 [.agg (Bs d)] [] z3 [])∧Lf z3 z6 [] []) z1)) ((Fp 109 [.agg (Bs d)] [] z2 [])∧Bc z5 ((Fp 110 [.agg (Bs d)] [] z3 [])∧Lf z3 z6 [] []) z1))) (Bc z9 (z17∧(Fp 108 [.agg (Bs d)] [] z10 [])∧Bc z12 z1 ((Fp 109 [.agg (Bs d)] [] z2 [])∧Bc z5 ((Fp 110 [.agg (Bs d)] [] z3 [])∧Lf z3 z6 [] []) z1)) ((Fp 109 [.agg (Bs d)] [] z2 [])∧Bc z5 ((Fp 110 [.agg (Bs d)] [] z3 [])∧Lf z3 z6 [] []) z1)))) (Bc z11 (Bc z8 z1 (Bc z9 (z15∧(Fp 109 [.agg (Bs d)] [] z2 [])∧Bc z5 ((Fp 110 [.agg (Bs d)] [] z3 [])∧Lf z3 z6 [] []) z1) ((Fp 109 [.agg (Bs d)] [] z2 [])∧Bc z5 ((Fp 110 [.agg (Bs d)] [] z3 [])∧Lf z3 z6 [] []) z1))) (Bc z9 (z15∧(Fp 109 [.agg (Bs d)] [] z2 [])∧Bc z5 ((Fp 110 [.agg (Bs d)] [] z3 [])∧Lf z3 z6 [] []) z1) ((Fp 109 [.agg (Bs d)] [] z2 [])∧Bc z5 ((Fp 110 [.agg (Bs d)] [] z3 [])∧Lf z3 z6 [] []) z1)))))) (Bc z7 (Bc z4 z1 (Bc z11 (Bc z8 z1 (Bc z9 (z17∧(Fp 108 [.agg (Bs d)] [] z10 [])∧Bc z12 z1 ((Fp 109 [.agg (Bs d)] [] z2 [])∧Bc z5 ((Fp 110 [.agg (Bs d)] [] z3 [])∧Lf z3 z6 [] []) z1)) ((Fp 109 [.agg (Bs d)] [] z2 [])∧Bc z5 ((Fp 110 [.agg (Bs d)] [] z3 [])∧Lf z3 z6 [] []) z1))) (Bc z9 (z17∧(Fp 108 [.agg (Bs d)] [] z10 [])∧Bc z12 z1 ((Fp 109 [.agg (Bs d)] [] z2 [])∧Bc z5 ((Fp 110 [.agg (Bs d)] [] z3 [])∧Lf z3 z6 [] []) z1)) ((Fp 109 [.agg (Bs d)] [] z2 [])∧Bc z5 ((Fp 110 [.agg (Bs d)] [] z3 [])∧Lf z3 z6 [] []) z1)))) (Bc z11 (Bc z8 z1 (Bc z9 (z15∧(Fp 109 [.agg (Bs d)] [] z2 [])∧Bc z5 ((Fp 110 [.agg (Bs d)] [] z3 [])∧Lf z3 z6 [] []) z1) ((Fp 109 [.agg (Bs d)] [] z2 [])∧Bc z5 ((Fp 110 [.agg (Bs d)] [] z3 [])∧Lf z3 z6 [] []) z1))) (Bc z9 (z15∧(Fp 109 [.agg (Bs d)] [] z2 [])∧Bc z5 ((Fp 110 [.agg (Bs d)] [] z3 [])∧Lf z3 z6 [] []) z1) ((Fp 109 [.agg (Bs d)] [] z2 [])∧Bc z5 ((Fp 110 [.agg (Bs d)] [] z3 [])∧Lf z3 z6 [] []) z1))))))))))))) Q4 ?_
 refine⟨(Yu d Q2 Q2),fun h1=>have q1:=An h1;?_,fun h1=>have q1:=Am h1;?_⟩
 refine⟨(sB ?_),rfl⟩
 rotate_left
 have hpt:=Cj (Ae8 q1)
 refine⟨(Cf _ _ _),fun h2=>have q2:=An h2;have p2:=Ay q2;?_,fun h2=>have q2:=Am h2;have p2:=As q2;?_⟩
 refine⟨(sB ?_),rfl⟩
 rotate_left
 refine⟨(Cf _ _ _),fun h3=>have q3:=An h3;have p3:=Ay q3;?_,fun h3=>have q3:=Am h3;have p3:=As q3;?_⟩
 refine⟨(sB ?_),rfl⟩
 rotate_left
 refine⟨(Cf _ _ _),fun h4=>have q4:=An h4;have p4:=Ay q4;?_,fun h4=>have q4:=Am h4;have p4:=As q4;?_⟩
 refine⟨(sB ?_),rfl⟩
 rotate_left
 refine⟨(Ahj d.utf),fun h5=>have q5:=An h5;?_,fun h5=>have q5:=Am h5;have p5:=Mo q5;?_⟩
 refine⟨(sB ?_),rfl⟩
 rotate_left
 refine⟨(Adn _),fun h6=>have q6:=An h6;?_,fun h6=>have q6:=Am h6;?_⟩
 refine⟨(sB ?_),rfl⟩
 rotate_left
 have hwk:=Ady (w:=d.wire) q6
 refine⟨fun h7=>have q7:=An h7;have p7:=(Ci dT (Ci dT (Ci dT (Ci dT dF)))).1 q7;?_,fun h7=>have q7:=Am h7;have p7:=(Ch dT (Ch dT (Ch dT (Ch dT dT)))).1 q7;?_⟩
 refine⟨(Amy d.plan d.field Q2 (D7 hpt.2.1)),fun h8=>have q8:=An h8;?_,fun h8=>have q8:=Am h8;?_⟩
 refine⟨(sB ?_),rfl⟩
 rotate_left
 refine dsp (fun h9 p9=>?_) fun h9 p9=>?_
 refine⟨(Abc d.end_),fun h10=>have q10:=An h10;?_,fun h10=>have q10:=Am h10;?_⟩
 refine⟨(sB ?_),rfl⟩
 rotate_left
 refine⟨(Yv d.end_),fun h11=>have q11:=An h11;?_,fun h11=>have q11:=Am h11;?_⟩
 refine⟨(sB ?_),rfl⟩
 rotate_left
 refine⟨fun h12=>have q12:=An h12;have p12:=of_decide_eq_false q12;?_,fun h12=>have q12:=Am h12;have p12:=of_decide_eq_true q12;?_⟩
 refine⟨fun h13=>have q13:=An h13;have p13:=(Ci dT (Ci dT (Ci dT (Ci dT (Ci dT (Ci dT dF)))))).1 q13;?_,fun h13=>have q13:=Am h13;have p13:=(Ch dT (Ch dT (Ch dT (Ch dT (Ch dT (Ch dT dT)))))).1 q13;?_⟩
 refine⟨(sB ?_),rfl⟩
 rotate_left
 refine dsp (fun h14 p14=>?_) fun h14 p14=>?_
 refine dsp (fun h15 p15=>?_) fun h15 p15=>?_
 refine⟨(sB ?_),rfl⟩
 rotate_left
 refine⟨fun h16=>have q16:=An h16;have p16:=of_decide_eq_false q16;?_,fun h16=>have q16:=Am h16;have p16:=of_decide_eq_true q16;?_⟩
 refine⟨h12,(Ed d Q2),dsp (fun h17 p17=>?_) fun h17 p17=>?_⟩
 refine⟨(sB ?_),rfl⟩
 rotate_left
 refine⟨(Cz d Q2),fun h18=>?_,fun h18=>?_⟩
 refine⟨(Cy d Q2),(sB ?_),rfl⟩
 rotate_left
 refine⟨(sB ?_),rfl⟩
 rotate_left
 refine⟨(Cz d Q2),fun h17=>?_,fun h17=>?_⟩
 refine⟨(Cy d Q2),(sB ?_),rfl⟩
 rotate_left
 refine⟨(sB ?_),rfl⟩
 rotate_left
 refine⟨fun h15=>have q15:=An h15;have p15:=of_decide_eq_false q15;?_,fun h15=>have q15:=Am h15;have p15:=of_decide_eq_true q15;?_⟩
 refine⟨h12,(Ed d Q2),dsp (fun h16 p16=>?_) fun h16 p16=>?_⟩
 refine⟨(sB ?_),rfl⟩
 rotate_left
 refine⟨(Cz d Q2),fun h17=>?_,fun h17=>?_⟩
 refine⟨(Cy d Q2),(sB ?_),rfl⟩
 rotate_left
 refine⟨(sB ?_),rfl⟩
 rotate_left
 refine⟨(Cz d Q2),fun h16=>?_,fun h16=>?_⟩
 refine⟨(Cy d Q2),(sB ?_),rfl⟩
 rotate_left
 refine⟨(sB ?_),rfl⟩
 rotate_left
 refine dsp (fun h13 p13=>?_) fun h13 p13=>?_
 refine dsp (fun h14 p14=>?_) fun h14 p14=>?_
 refine⟨(sB ?_),rfl⟩
 rotate_left
 refine⟨fun h15=>have q15:=An h15;have p15:=of_decide_eq_false q15;?_,fun h15=>have q15:=Am h15;have p15:=of_decide_eq_true q15;?_⟩
 refine⟨h12,(Cz d Q2),fun h16=>?_,fun h16=>?_⟩
 refine⟨(Cy d Q2),(sB ?_),rfl⟩
 rotate_left
 refine⟨(sB ?_),rfl⟩
 rotate_left
 refine⟨(Cz d Q2),fun h16=>?_,fun h16=>?_⟩
 refine⟨(Cy d Q2),(sB ?_),rfl⟩
 rotate_left
 refine⟨(sB ?_),rfl⟩
 rotate_left
 refine⟨fun h14=>have q14:=An h14;have p14:=of_decide_eq_false q14;?_,fun h14=>have q14:=Am h14;have p14:=of_decide_eq_true q14;?_⟩
 refine⟨h12,(Cz d Q2),fun h15=>?_,fun h15=>?_⟩
 refine⟨(Cy d Q2),(sB ?_),rfl⟩
 rotate_left
 refine⟨(sB ?_),rfl⟩
 rotate_left
 refine⟨(Cz d Q2),fun h15=>?_,fun h15=>?_⟩
 refine⟨(Cy d Q2),(sB ?_),rfl⟩
 rotate_left
 refine⟨(sB ?_),rfl⟩
 rotate_left
 refine⟨fun h10=>have q10:=An h10;have p10:=of_decide_eq_false q10;?_,fun h10=>have q10:=Am h10;have p10:=of_decide_eq_true q10;?_⟩
 refine⟨fun h11=>have q11:=An h11;have p11:=(Ci dT (Ci dT (Ci dT (Ci dT (Ci dT (Ci dT dF)))))).1 q11;?_,fun h11=>have q11:=Am h11;have p11:=(Ch dT (Ch dT (Ch dT (Ch dT (Ch dT (Ch dT dT)))))).1 q11;?_⟩
 refine⟨(sB ?_),rfl⟩
 rotate_left
 refine dsp (fun h12 p12=>?_) fun h12 p12=>?_
 refine dsp (fun h13 p13=>?_) fun h13 p13=>?_
 refine⟨(sB ?_),rfl⟩
 rotate_left
 refine⟨fun h14=>have q14:=An h14;have p14:=of_decide_eq_false q14;?_,fun h14=>have q14:=Am h14;have p14:=of_decide_eq_true q14;?_⟩
 refine⟨h10,(Ed d Q2),dsp (fun h15 p15=>?_) fun h15 p15=>?_⟩
 refine⟨(sB ?_),rfl⟩
 rotate_left
 refine⟨(Cz d Q2),fun h16=>?_,fun h16=>?_⟩
 refine⟨(Cy d Q2),(sB ?_),rfl⟩
 rotate_left
 refine⟨(sB ?_),rfl⟩
 rotate_left
 refine⟨(Cz d Q2),fun h15=>?_,fun h15=>?_⟩
 refine⟨(Cy d Q2),(sB ?_),rfl⟩
 rotate_left
 refine⟨(sB ?_),rfl⟩
 rotate_left
 refine⟨fun h13=>have q13:=An h13;have p13:=of_decide_eq_false q13;?_,fun h13=>have q13:=Am h13;have p13:=of_decide_eq_true q13;?_⟩
 refine⟨h10,(Ed d Q2),dsp (fun h14 p14=>?_) fun h14 p14=>?_⟩
 refine⟨(sB ?_),rfl⟩
 rotate_left
 refine⟨(Cz d Q2),fun h15=>?_,fun h15=>?_⟩
 refine⟨(Cy d Q2),(sB ?_),rfl⟩
 rotate_left
 refine⟨(sB ?_),rfl⟩
 rotate_left
 refine⟨(Cz d Q2),fun h14=>?_,fun h14=>?_⟩
 refine⟨(Cy d Q2),(sB ?_),rfl⟩
 rotate_left
 refine⟨(sB ?_),rfl⟩
 rotate_left
 refine dsp (fun h11 p11=>?_) fun h11 p11=>?_
 refine dsp (fun h12 p12=>?_) fun h12 p12=>?_
 refine⟨(sB ?_),rfl⟩
 rotate_left
 refine⟨fun h13=>have q13:=An h13;have p13:=of_decide_eq_false q13;?_,fun h13=>have q13:=Am h13;have p13:=of_decide_eq_true q13;?_⟩
 refine⟨h10,(Cz d Q2),fun h14=>?_,fun h14=>?_⟩
 refine⟨(Cy d Q2),(sB ?_),rfl⟩
 rotate_left
 refine⟨(sB ?_),rfl⟩
 rotate_left
 refine⟨(Cz d Q2),fun h14=>?_,fun h14=>?_⟩
 refine⟨(Cy d Q2),(sB ?_),rfl⟩
 rotate_left
 refine⟨(sB ?_),rfl⟩
 rotate_left
 refine⟨fun h12=>have q12:=An h12;have p12:=of_decide_eq_false q12;?_,fun h12=>have q12:=Am h12;have p12:=of_decide_eq_true q12;?_⟩
 refine⟨h10,(Cz d Q2),fun h13=>?_,fun h13=>?_⟩
 refine⟨(Cy d Q2),(sB ?_),rfl⟩
 rotate_left
 refine⟨(sB ?_),rfl⟩
 rotate_left
 refine⟨(Cz d Q2),fun h13=>?_,fun h13=>?_⟩
 refine⟨(Cy d Q2),(sB ?_),rfl⟩
 rotate_left
 refine⟨(sB ?_),rfl⟩
 rotate_left
 refine dsp (fun h8 p8=>?_) fun h8 p8=>?_
 refine⟨(Abc d.end_),fun h9=>have q9:=An h9;?_,fun h9=>have q9:=Am h9;?_⟩
 refine⟨(sB ?_),rfl⟩
 rotate_left
 refine⟨(Yv d.end_),fun h10=>have q10:=An h10;?_,fun h10=>have q10:=Am h10;?_⟩
 refine⟨(sB ?_),rfl⟩
 rotate_left
 refine⟨fun h11=>have q11:=An h11;have p11:=of_decide_eq_false q11;?_,fun h11=>have q11:=Am h11;have p11:=of_decide_eq_true q11;?_⟩
 refine⟨fun h12=>have q12:=An h12;have p12:=(Ci dT (Ci dT (Ci dT (Ci dT (Ci dT (Ci dT dF)))))).1 q12;?_,fun h12=>have q12:=Am h12;have p12:=(Ch dT (Ch dT (Ch dT (Ch dT (Ch dT (Ch dT dT)))))).1 q12;?_⟩
 refine⟨(sB ?_),rfl⟩
 rotate_left
 refine dsp (fun h13 p13=>?_) fun h13 p13=>?_
 refine dsp (fun h14 p14=>?_) fun h14 p14=>?_
 refine⟨(sB ?_),rfl⟩
 rotate_left
 refine⟨fun h15=>have q15:=An h15;have p15:=of_decide_eq_false q15;?_,fun h15=>have q15:=Am h15;have p15:=of_decide_eq_true q15;?_⟩
 refine⟨h11,(Ed d Q2),dsp (fun h16 p16=>?_) fun h16 p16=>?_⟩
 refine⟨(sB ?_),rfl⟩
 rotate_left
 refine⟨(Cz d Q2),fun h17=>?_,fun h17=>?_⟩
 refine⟨(Cy d Q2),(sB ?_),rfl⟩
 rotate_left
 refine⟨(sB ?_),rfl⟩
 rotate_left
 refine⟨(Cz d Q2),fun h16=>?_,fun h16=>?_⟩
 refine⟨(Cy d Q2),(sB ?_),rfl⟩
 rotate_left
 refine⟨(sB ?_),rfl⟩
 rotate_left
 refine⟨fun h14=>have q14:=An h14;have p14:=of_decide_eq_false q14;?_,fun h14=>have q14:=Am h14;have p14:=of_decide_eq_true q14;?_⟩
 refine⟨h11,(Ed d Q2),dsp (fun h15 p15=>?_) fun h15 p15=>?_⟩
 refine⟨(sB ?_),rfl⟩
 rotate_left
 refine⟨(Cz d Q2),fun h16=>?_,fun h16=>?_⟩
 refine⟨(Cy d Q2),(sB ?_),rfl⟩
 rotate_left
 refine⟨(sB ?_),rfl⟩
 rotate_left
 refine⟨(Cz d Q2),fun h15=>?_,fun h15=>?_⟩
 refine⟨(Cy d Q2),(sB ?_),rfl⟩
 rotate_left
 refine⟨(sB ?_),rfl⟩
 rotate_left
 refine dsp (fun h12 p12=>?_) fun h12 p12=>?_
 refine dsp (fun h13 p13=>?_) fun h13 p13=>?_
 refine⟨(sB ?_),rfl⟩
 rotate_left
 refine⟨fun h14=>have q14:=An h14;have p14:=of_decide_eq_false q14;?_,fun h14=>have q14:=Am h14;have p14:=of_decide_eq_true q14;?_⟩
 refine⟨h11,(Cz d Q2),fun h15=>?_,fun h15=>?_⟩
 refine⟨(Cy d Q2),(sB ?_),rfl⟩
 rotate_left
 refine⟨(sB ?_),rfl⟩
 rotate_left
 refine⟨(Cz d Q2),fun h15=>?_,fun h15=>?_⟩
 refine⟨(Cy d Q2),(sB ?_),rfl⟩
 rotate_left
 refine⟨(sB ?_),rfl⟩
 rotate_left
 refine⟨fun h13=>have q13:=An h13;have p13:=of_decide_eq_false q13;?_,fun h13=>have q13:=Am h13;have p13:=of_decide_eq_true q13;?_⟩
 refine⟨h11,(Cz d Q2),fun h14=>?_,fun h14=>?_⟩
 refine⟨(Cy d Q2),(sB ?_),rfl⟩
 rotate_left
 refine⟨(sB ?_),rfl⟩
 rotate_left
 refine⟨(Cz d Q2),fun h14=>?_,fun h14=>?_⟩
 refine⟨(Cy d Q2),(sB ?_),rfl⟩
 rotate_left
 refine⟨(sB ?_),rfl⟩
 rotate_left
 refine⟨fun h9=>have q9:=An h9;have p9:=of_decide_eq_false q9;?_,fun h9=>have q9:=Am h9;have p9:=of_decide_eq_true q9;?_⟩
 refine⟨fun h10=>have q10:=An h10;have p10:=(Ci dT (Ci dT (Ci dT (Ci dT (Ci dT (Ci dT dF)))))).1 q10;?_,fun h10=>have q10:=Am h10;have p10:=(Ch dT (Ch dT (Ch dT (Ch dT (Ch dT (Ch dT dT)))))).1 q10;?_⟩
 refine⟨(sB ?_),rfl⟩
 rotate_left
 refine dsp (fun h11 p11=>?_) fun h11 p11=>?_
 refine dsp (fun h12 p12=>?_) fun h12 p12=>?_
 refine⟨(sB ?_),rfl⟩
 rotate_left
 refine⟨fun h13=>have q13:=An h13;have p13:=of_decide_eq_false q13;?_,fun h13=>have q13:=Am h13;have p13:=of_decide_eq_true q13;?_⟩
 refine⟨h9,(Ed d Q2),dsp (fun h14 p14=>?_) fun h14 p14=>?_⟩
 refine⟨(sB ?_),rfl⟩
 rotate_left
 refine⟨(Cz d Q2),fun h15=>?_,fun h15=>?_⟩
 refine⟨(Cy d Q2),(sB ?_),rfl⟩
 rotate_left
 refine⟨(sB ?_),rfl⟩
 rotate_left
 refine⟨(Cz d Q2),fun h14=>?_,fun h14=>?_⟩
 refine⟨(Cy d Q2),(sB ?_),rfl⟩
 rotate_left
 refine⟨(sB ?_),rfl⟩
 rotate_left
 refine⟨fun h12=>have q12:=An h12;have p12:=of_decide_eq_false q12;?_,fun h12=>have q12:=Am h12;have p12:=of_decide_eq_true q12;?_⟩
 refine⟨h9,(Ed d Q2),dsp (fun h13 p13=>?_) fun h13 p13=>?_⟩
 refine⟨(sB ?_),rfl⟩
 rotate_left
 refine⟨(Cz d Q2),fun h14=>?_,fun h14=>?_⟩
 refine⟨(Cy d Q2),(sB ?_),rfl⟩
 rotate_left
 refine⟨(sB ?_),rfl⟩
 rotate_left
 refine⟨(Cz d Q2),fun h13=>?_,fun h13=>?_⟩
 refine⟨(Cy d Q2),(sB ?_),rfl⟩
 rotate_left
 refine⟨(sB ?_),rfl⟩
 rotate_left
 refine dsp (fun h10 p10=>?_) fun h10 p10=>?_
 refine dsp (fun h11 p11=>?_) fun h11 p11=>?_
 refine⟨(sB ?_),rfl⟩
 rotate_left
 refine⟨fun h12=>have q12:=An h12;have p12:=of_decide_eq_false q12;?_,fun h12=>have q12:=Am h12;have p12:=of_decide_eq_true q12;?_⟩
 refine⟨h9,(Cz d Q2),fun h13=>?_,fun h13=>?_⟩
 refine⟨(Cy d Q2),(sB ?_),rfl⟩
 rotate_left
 refine⟨(sB ?_),rfl⟩
 rotate_left
 refine⟨(Cz d Q2),fun h13=>?_,fun h13=>?_⟩
 refine⟨(Cy d Q2),(sB ?_),rfl⟩
 rotate_left
 refine⟨(sB ?_),rfl⟩
 rotate_left
 refine⟨fun h11=>have q11:=An h11;have p11:=of_decide_eq_false q11;?_,fun h11=>have q11:=Am h11;have p11:=of_decide_eq_true q11;?_⟩
 refine⟨h9,(Cz d Q2),fun h12=>?_,fun h12=>?_⟩
 refine⟨(Cy d Q2),(sB ?_),rfl⟩
 rotate_left
 refine⟨(sB ?_),rfl⟩
 rotate_left
 refine⟨(Cz d Q2),fun h12=>?_,fun h12=>?_⟩
 refine⟨(Cy d Q2),(sB ?_),rfl⟩
 rotate_left
 refine⟨(sB ?_),rfl⟩
 rotate_left
 all_goals first|(simp_all[Bv,Zj,J2,C6,Ub];done)|(grind[Bv,Zj,J2,C6,Ub])
structure Cu where
 v:Bool
def Lw (d:Dcd):Fam:=⟨Cu,fun j1000003=>[(1,.v (vP 0)),(76,.v (vB j1000003.v))],fun _=>[.cells (Bs d)],fun j1000003=>j1000003.v= !Zj d,fun _=>0⟩
structure G1 where
 u_:Nat
def Lx (d:Dcd):Fam:=⟨G1,fun j0=>[(1,.v (vP 0))],fun _=>[.cells (Bs d)],fun _=>Ji d=true,fun _=>0⟩
structure Bt where
 wires:Bool
def Ly (d:Dcd):Fam:=⟨Bt,fun j1000013=>[(1,.v (vP 0)),(3,.v (vB j1000013.wires))],fun _=>[.cells (Bs d)],fun j1000013=>j1000013.wires=Ux d,fun _=>0⟩
structure Ds where
 v:Bool
def Hh (d:Dcd) (j1000013:Bt):Fam:=⟨Ds,fun j1000014=>[(1,.v (vP 0)),(140,.v (vB j1000014.v))],fun _=>[.cells (Bs d)],fun j1000014=>j1000014.v=(j1000013.wires||(Ak d.mode 3 5&&(!decide (d.field=fld0)&& !Dk d.field d.wire))),fun _=>0⟩
theorem W6 (d:Dcd) (hp1:List.length (d).stack≤A8) (hp2:List.length (d).plan.shapes≤A8):Fun Tryz.prog 60 [.agg (Bs d)] [] (.v (vB (Bv d))) []:=by
 have hN:A8=274877906944:=rfl
 refine Aq Tryz.func60 Q4 Q4 (w:=let z4:S:= .v (vB (Ace d));let z5:List Blk:=[.cells (Bs d)];let z6:=Ly d;let z7:=Ak d.want 1 (D6 d);let z8:S:= .v (vI (A4 d.wire));let z10:=z6.Has [(1,.v (vP 0)),(3,.v (vB false))] z5;let z11:S:= .v (vB (Bv d));let z2:=Lf (.v (vB false)) z11 [] [];let z12:=decide ((d).field=fld0)||Jz (d).plan.shapes (d).field;let z13:=(Lx d).Has [(1,.v (vP 0))] z5;let z14:=Lw d;let z3:=Bc (!decide (d.mode=9)) (z14.Has [(1,.v (vP 0)),(76,.v (vB (!(decide (d.end_.kind=0)&&(decide (d.end_.field=0)&&(decide (d.end_.bits=0)&&(decide (d.end_.len=0)&&(decide (d.end_.text=[])&&(decide (d.end_.code=0)&&decide (d.end_.at_=0))))))))))] z5) (z14.Has [(1,.v (vP 0)),(76,.v (vB false))] z5);let z15:=vB (decide (A4 d.wire=0));let z16:=z6.Has [(1,.v (vP 0)),(3,.v (vB true))] z5;let z17:S:= .v (vI (D6 d));let z18:= !decide (d.mode=8);let z19:=decide (d.mode=5);let z20:=Ak d.at_ 0 1000000000;let z21:List V:=[vI d.want,vI 1,vI (D6 d)];let z22:=z14.Has [(1,.v (vP 0)),(76,.v (vB true))] z5;let z23:S:= .v (vB z7);let z24:=Gb d.field;let z25:=Uu d.field;let z9:S:= .v (vB z25);let z26:=Ak d.start 0 d.at_;let z27:=Dk d.field d.wire;let z28:=Ak d.mode 1 9;let z29:=Ak d.mode 3 5;(.seg [.call [] (.v (vB (Dh d.plan))) []] (.br (.leaf () []) (.seg [.call [] (.v (vB z28)) []] (.br (.leaf () []) (.seg [.call [] (.v (vB z20)) []] (.br (.leaf () []) (.seg [.call [] (.v (vB z26)) []] (.br (.leaf () []) (.seg [.call [] (.v (vB (E4 d.utf))) []] (.br (.leaf () []) (.seg [.call [] (.v (vB (D1 d.wire))) []] (.br (.leaf () []) (.seg [.call [] (.v (vB z12)) []] (.br (.leaf () []) (.seg [.call [] (.v (vB (Ry d))) []] (.br (.leaf () []) (.join 1000003 z14 (.br (.seg [.call [] (.v (vB (Fn d.end_))) []] (.br (.seg [.at 0,.keep [1,76],.sel [0]] (.next)) (.seg [.call [] (.v (vB (Dg d.end_))) []] (.br (.seg [.at 0,.keep [1,76],.sel [0]] (.next)) (.br (.seg [.at 0,.keep [1,76],.sel [0]] (.next)) (.seg [.at 0,.keep [1,76],.sel [0]] (.next))))))) (.br (.seg [.at 0,.keep [1,76],.sel [0]] (.next)) (.seg [.at 0,.keep [1,76],.sel [0]] (.next)))) fun j1000003=> .br (.leaf () []) (.join 0 (Lx d) (.br (.seg [.br true,.ord (os 6 [3,4]) [],.call [] z17 [],.call [] z23 []] (.br (.leaf () []) (.seg [.at 0,.keep [1],.sel [0]] (.next)))) (.br (.seg [.br true,.ord (os 6 [3,4]) [],.call [] z17 [],.call [] z23 []] (.br (.leaf () []) (.seg [.at 0,.keep [1],.sel [0]] (.next)))) (.br (.seg [.ord (os 6 [3,4]) [],.call [] z17 [],.call [] z23 []] (.br (.leaf () []) (.seg [.at 0,.keep [1],.sel [0]] (.next)))) (.br (.leaf () []) (.seg [.at 0,.keep [1],.sel [0]] (.next)))))) fun j0=> .join 1000013 z6 (.br (.br (.seg [.at 0,.keep [1,3],.sel [0]] (.next)) (.br (.br (.seg [.at 0,.keep [1,3],.sel [0]] (.next)) (.br (.seg [.call [] z8 [],.at 0,.keep [1,3],.sel [0]] (.next)) (.seg [.at 0,.keep [1,3],.sel [0]] (.next)))) (.br (.seg [.call [] z8 [],.at 0,.keep [1,3],.sel [0]] (.next)) (.seg [.at 0,.keep [1,3],.sel [0]] (.next))))) (.br (.br (.seg [.at 0,.keep [1,3],.sel [0]] (.next)) (.br (.seg [.call [] z8 [],.at 0,.keep [1,3],.sel [0]] (.next)) (.seg [.at 0,.keep [1,3],.sel [0]] (.next)))) (.br (.seg [.call [] z8 [],.at 0,.keep [1,3],.sel [0]] (.next)) (.seg [.at 0,.keep [1,3],.sel [0]] (.next))))) fun j1000013=> .join 1000014 (Hh d j1000013) (.br (.seg [.at 0,.keep [1,140],.sel [0]] (.next)) (.seg [.call [] (.v (vB z29)) []] (.br (.br (.seg [.call [] (.v (vB z27)) [],.at 0,.keep [1,140],.sel [0]] (.next)) (.seg [.at 0,.keep [1,140],.sel [0]] (.next))) (.seg [.at 0,.keep [1,140],.sel [0]] (.next))))) fun j1000014=> .br (.leaf () []) (.br (.br (.br (.seg [.call [] z4 []] (.leaf () [])) (.seg [.call [] z9 []] (.br (.seg [.call [] z4 []] (.leaf () [])) (.leaf () [])))) (.br (.seg [.call [] z4 []] (.leaf () [])) (.seg [.call [] z9 []] (.br (.seg [.call [] z4 []] (.leaf () [])) (.leaf () []))))) (.br (.br (.seg [.call [] z4 []] (.leaf () [])) (.seg [.call [] z9 []] (.br (.seg [.call [] z4 []] (.leaf () [])) (.leaf () [])))) (.br (.br (.seg [.call [] z4 []] (.leaf () [])) (.seg [.call [] z9 []] (.br (.seg [.call [] z4 []] (.leaf () [])) (.leaf () [])))) (.leaf () []))))))))))))))))))))),(Fp 13 [.agg (Mg d.plan)] [] (.v (vB (Dh d.plan))) [])∧Bc (!(Dh d.plan)) z2 ((Fp 44 [vI d.mode,vI 1,vI 9] [] (.v (vB z28)) [])∧Bc (!z28) z2 ((Fp 44 [vI d.at_,vI 0,vI 1000000000] [] (.v (vB z20)) [])∧Bc (!z20) z2 ((Fp 44 [vI d.start,vI 0,vI d.at_] [] (.v (vB z26)) [])∧Bc (!z26) z2 ((Fp 121 [.agg (K3 d.utf)] [] (.v (vB (E4 d.utf))) [])∧Bc (!(E4 d.utf)) z2 ((Fp 122 [vI d.wire] [] (.v (vB (D1 d.wire))) [])∧Bc (!(D1 d.wire)) z2 ((Fp 123 [.agg (Bs d)] [] (.v (vB z12)) [])∧Bc (!z12) z2 ((Fp 124 [.agg (Bs d)] [] (.v (vB (Ry d))) [])∧Bc (!(Ry d)) z2 ((Bc (decide (d.mode=9)) ((Fp 125 [.agg (cEv d.end_)] [] (.v (vB (Fn d.end_))) [])∧Bc (!(Fn d.end_)) z22 ((Fp 31 [.agg (cEv d.end_)] [] (.v (vB (Dg d.end_))) [])∧Bc (!(Dg d.end_)) z22 z3)) z3)∧∀j1000003,z14.inv j1000003→(Bc j1000003.v z2 ((Bc (decide (d.mode=6)) (((decide (d.mode=6))=true)∧(Fp 126 [.agg (Bs d)] [] z17 [])∧(Fp 44 z21 [] z23 [])∧Bc (!z7) z2 z13) (Bc (decide (d.mode=7)) (((decide (d.mode=7))=true)∧(Fp 126 [.agg (Bs d)] [] z17 [])∧(Fp 44 z21 [] z23 [])∧Bc (!z7) z2 z13) (Bc (decide (d.mode=8)) ((Fp 126 [.agg (Bs d)] [] z17 [])∧(Fp 44 z21 [] z23 [])∧Bc (!z7) z2 z13) (Bc (!decide (d.want=0)) z2 z13))))∧∀j0,(Lx d).inv j0→((Bc (decide (d.mode=3)) (Bc (!decide (d.wire=0)) z16 (Bc (decide (d.mode=4)) (Bc (!decide (d.wire=2)) z16 (Bc z19 ((Fp 127 [vI d.wire] [] z8 [])∧z6.Has [(1,.v (vP 0)),(3,.v z15)] z5) z10)) (Bc z19 ((Fp 127 [vI d.wire] [] z8 [])∧z6.Has [(1,.v (vP 0)),(3,.v z15)] z5) z10))) (Bc (decide (d.mode=4)) (Bc (!decide (d.wire=2)) z16 (Bc z19 ((Fp 127 [vI d.wire] [] z8 [])∧z6.Has [(1,.v (vP 0)),(3,.v z15)] z5) z10)) (Bc z19 ((Fp 127 [vI d.wire] [] z8 [])∧z6.Has [(1,.v (vP 0)),(3,.v z15)] z5) z10)))∧∀j1000013,z6.inv j1000013→(let z1:=Hh d j1000013;(Bc j1000013.wires (z1.Has [(1,.v (vP 0)),(140,.v (vB true))] z5) ((Fp 44 [vI d.mode,vI 3,vI 5] [] (.v (vB z29)) [])∧Bc z29 (Bc (!(decide (d.field.number=0)&&(decide (d.field.kind=0)&&(decide (d.field.rep=false)&&(decide (d.field.packed=false)&&decide (d.field.msg=0)))))) ((Fp 128 [.agg z24,vI d.wire] [] (.v (vB z27)) [])∧z1.Has [(1,.v (vP 0)),(140,.v (vB (!z27)))] z5) (z1.Has [(1,.v (vP 0)),(140,.v (vB false))] z5)) (z1.Has [(1,.v (vP 0)),(140,.v (vB false))] z5)))∧∀j1000014,z1.inv j1000014→(Bc j1000014.v z2 (Bc (decide (d.field.kind=6)) (Bc (!decide (d.mode=6)) (Bc z18 ((Fp 130 [.agg (Bs d)] [] z4 [])∧Lf z4 z11 [] []) ((Fp 129 [.agg z24] [] z9 [])∧Bc z25 ((Fp 130 [.agg (Bs d)] [] z4 [])∧Lf z4 z11 [] []) z2)) (Bc z18 ((Fp 130 [.agg (Bs d)] [] z4 [])∧Lf z4 z11 [] []) ((Fp 129 [.agg z24] [] z9 [])∧Bc z25 ((Fp 130 [.agg (Bs d)] [] z4 [])∧Lf z4 z11 [] []) z2))) (Bc (!decide (d.mode=6)) (Bc z18 ((Fp 130 [.agg (Bs d)] [] z4 [])∧Lf z4 z11 [] []) ((Fp 129 [.agg z24] [] z9 [])∧Bc z25 ((Fp 130 [.agg (Bs d)] [] z4 [])∧Lf z4 z11 [] []) z2)) (Bc (decide (d.field.kind=7)) (Bc z18 ((Fp 130 [.agg (Bs d)] [] z4 [])∧Lf z4 z11 [] []) ((Fp 129 [.agg z24] [] z9 [])∧Bc z25 ((Fp 130 [.agg (Bs d)] [] z4 [])∧Lf z4 z11 [] []) z2)) z2)))))))))))))))))) Q4 ?_
 refine⟨(Z0 d.plan),fun h1=>have q1:=An h1;?_,fun h1=>have q1:=Am h1;have p1:=Cj q1;?_⟩
 refine⟨(sB ?_),rfl⟩
 rotate_left
 have hpt:=Cj q1
 refine⟨(Bf _ _ _),fun h2=>have q2:=An h2;have p2:=Ay q2;?_,fun h2=>have q2:=Am h2;have p2:=As q2;?_⟩
 refine⟨(sB ?_),rfl⟩
 rotate_left
 refine⟨(Bf _ _ _),fun h3=>have q3:=An h3;have p3:=Ay q3;?_,fun h3=>have q3:=Am h3;have p3:=As q3;?_⟩
 refine⟨(sB ?_),rfl⟩
 rotate_left
 refine⟨(Bf _ _ _),fun h4=>have q4:=An h4;have p4:=Ay q4;?_,fun h4=>have q4:=Am h4;have p4:=As q4;?_⟩
 refine⟨(sB ?_),rfl⟩
 rotate_left
 refine⟨(Ahk d.utf),fun h5=>have q5:=An h5;?_,fun h5=>have q5:=Am h5;have p5:=Mo q5;?_⟩
 refine⟨(sB ?_),rfl⟩
 rotate_left
 refine⟨(Ado _),fun h6=>have q6:=An h6;?_,fun h6=>have q6:=Am h6;?_⟩
 refine⟨(sB ?_),rfl⟩
 rotate_left
 have hwk:=Ady (w:=d.wire) q6
 refine⟨(Ae7 d Q2 (D7 hpt.2.1)),fun h7=>have q7:=An h7;have p7:=(orF dF Iff.rfl).1 q7;?_,fun h7=>have q7:=Am h7;have p7:=(orT dT Iff.rfl).1 q7;?_⟩
 refine⟨(sB ?_),rfl⟩
 rotate_left
 refine⟨(Ajp d Q2 Q2),fun h8=>have q8:=An h8;?_,fun h8=>have q8:=Am h8;?_⟩
 refine⟨(sB ?_),rfl⟩
 rotate_left
 refine⟨?_,fun (j1000003:Cu) hq_j1000003=>?_⟩
 refine dsp (fun h10 p10=>?_) fun h10 p10=>?_
 refine⟨(Ahq d.end_),fun h11=>have q11:=An h11;?_,fun h11=>have q11:=Am h11;?_⟩
 exact Bj (j:=(⟨true⟩:Cu)) rfl rfl Q42
 refine⟨(Yw d.end_),fun h12=>have q12:=An h12;?_,fun h12=>have q12:=Am h12;?_⟩
 exact Bj (j:=(⟨true⟩:Cu)) rfl rfl Q42
 refine⟨fun h13=>have q13:=An h13;have p13:=of_decide_eq_false q13;?_,fun h13=>have q13:=Am h13;have p13:=of_decide_eq_true q13;?_⟩
 exact Bj (j:=(⟨!(decide (d.end_.kind=0)&&(decide (d.end_.field=0)&&(decide (d.end_.bits=0)&&(decide (d.end_.len=0)&&(decide (d.end_.text=[])&&(decide (d.end_.code=0)&&decide (d.end_.at_=0)))))))⟩:Cu)) rfl rfl Q42
 exact Bj (j:=(⟨false⟩:Cu)) rfl rfl Q42
 refine⟨fun h11=>have q11:=An h11;have p11:=of_decide_eq_false q11;?_,fun h11=>have q11:=Am h11;have p11:=of_decide_eq_true q11;?_⟩
 exact Bj (j:=(⟨!(decide (d.end_.kind=0)&&(decide (d.end_.field=0)&&(decide (d.end_.bits=0)&&(decide (d.end_.len=0)&&(decide (d.end_.text=[])&&(decide (d.end_.code=0)&&decide (d.end_.at_=0)))))))⟩:Cu)) rfl rfl Q42
 exact Bj (j:=(⟨false⟩:Cu)) rfl rfl Q42
 have hi_j1000003:j1000003.v= !Zj d:=hq_j1000003
 refine⟨fun h10=>?_,fun h10=>?_⟩
 refine⟨(sB ?_),rfl⟩
 rotate_left
 refine⟨?_,fun (j0:G1) hq_j0=>?_⟩
 refine dsp (fun h12 p12=>?_) fun h12 p12=>?_
 refine⟨h12,(Pr d Q2),(Bf _ _ _),fun h13=>have q13:=An h13;have p13:=Ay q13;?_,fun h13=>have q13:=Am h13;have p13:=As q13;?_⟩
 refine⟨(sB ?_),rfl⟩
 rotate_left
 exact Bj (j:=(⟨0⟩:G1)) rfl rfl Q69
 refine dsp (fun h13 p13=>?_) fun h13 p13=>?_
 refine⟨h13,(Pr d Q2),(Bf _ _ _),fun h14=>have q14:=An h14;have p14:=Ay q14;?_,fun h14=>have q14:=Am h14;have p14:=As q14;?_⟩
 refine⟨(sB ?_),rfl⟩
 rotate_left
 exact Bj (j:=(⟨0⟩:G1)) rfl rfl Q69
 refine dsp (fun h14 p14=>?_) fun h14 p14=>?_
 refine⟨(Pr d Q2),(Bf _ _ _),fun h15=>have q15:=An h15;have p15:=Ay q15;?_,fun h15=>have q15:=Am h15;have p15:=As q15;?_⟩
 refine⟨(sB ?_),rfl⟩
 rotate_left
 exact Bj (j:=(⟨0⟩:G1)) rfl rfl Q69
 refine⟨fun h15=>have q15:=An h15;have p15:=of_decide_eq_false q15;?_,fun h15=>have q15:=Am h15;have p15:=of_decide_eq_true q15;?_⟩
 refine⟨(sB ?_),rfl⟩
 rotate_left
 exact Bj (j:=(⟨0⟩:G1)) rfl rfl Q69
 have hi_j0:Ji d=true:=hq_j0
 refine⟨?_,fun (j1000013:Bt) hq_j1000013=>?_⟩
 refine dsp (fun h13 p13=>?_) fun h13 p13=>?_
 refine⟨fun h14=>have q14:=An h14;have p14:=of_decide_eq_false q14;?_,fun h14=>have q14:=Am h14;have p14:=of_decide_eq_true q14;?_⟩
 exact Bj (j:=(⟨true⟩:Bt)) rfl rfl Q31
 refine dsp (fun h15 p15=>?_) fun h15 p15=>?_
 refine⟨fun h16=>have q16:=An h16;have p16:=of_decide_eq_false q16;?_,fun h16=>have q16:=Am h16;have p16:=of_decide_eq_true q16;?_⟩
 exact Bj (j:=(⟨true⟩:Bt)) rfl rfl Q31
 refine dsp (fun h17 p17=>?_) fun h17 p17=>?_
 exact⟨(D8 _),Bj (j:=(⟨decide (A4 d.wire=0)⟩:Bt)) rfl rfl Q31⟩
 exact Bj (j:=(⟨false⟩:Bt)) rfl rfl Q31
 refine dsp (fun h16 p16=>?_) fun h16 p16=>?_
 exact⟨(D8 _),Bj (j:=(⟨decide (A4 d.wire=0)⟩:Bt)) rfl rfl Q31⟩
 exact Bj (j:=(⟨false⟩:Bt)) rfl rfl Q31
 refine dsp (fun h14 p14=>?_) fun h14 p14=>?_
 refine⟨fun h15=>have q15:=An h15;have p15:=of_decide_eq_false q15;?_,fun h15=>have q15:=Am h15;have p15:=of_decide_eq_true q15;?_⟩
 exact Bj (j:=(⟨true⟩:Bt)) rfl rfl Q31
 refine dsp (fun h16 p16=>?_) fun h16 p16=>?_
 exact⟨(D8 _),Bj (j:=(⟨decide (A4 d.wire=0)⟩:Bt)) rfl rfl Q31⟩
 exact Bj (j:=(⟨false⟩:Bt)) rfl rfl Q31
 refine dsp (fun h15 p15=>?_) fun h15 p15=>?_
 exact⟨(D8 _),Bj (j:=(⟨decide (A4 d.wire=0)⟩:Bt)) rfl rfl Q31⟩
 exact Bj (j:=(⟨false⟩:Bt)) rfl rfl Q31
 have hi_j1000013:j1000013.wires=Ux d:=hq_j1000013
 refine⟨?_,fun (j1000014:Ds) hq_j1000014=>?_⟩
 refine⟨fun h14=>?_,fun h14=>?_⟩
 exact Bj (j:=(⟨true⟩:Ds)) rfl rfl Q64
 refine⟨(Bf _ _ _),fun h15=>have p15:=As h15;?_,fun h15=>have p15:=Ay h15;?_⟩
 refine⟨fun h16=>have q16:=An h16;have p16:=(Ci dT (Ci dT (Ci dT (Ci dT dF)))).1 q16;?_,fun h16=>have q16:=Am h16;have p16:=(Ch dT (Ch dT (Ch dT (Ch dT dT)))).1 q16;?_⟩
 exact⟨(Aa8 d.field _ Q2),Bj (j:=(⟨!(Dk d.field d.wire)⟩:Ds)) rfl rfl Q64⟩
 exact Bj (j:=(⟨false⟩:Ds)) rfl rfl Q64
 exact Bj (j:=(⟨false⟩:Ds)) rfl rfl Q64
 have hi_j1000014:j1000014.v=(j1000013.wires||(Ak d.mode 3 5&&(!decide (d.field=fld0)&& !Dk d.field d.wire))):=hq_j1000014
 refine⟨fun h14=>?_,fun h14=>?_⟩
 refine⟨(sB ?_),rfl⟩
 rotate_left
 refine dsp (fun h15 p15=>?_) fun h15 p15=>?_
 refine⟨fun h16=>have q16:=An h16;have p16:=of_decide_eq_false q16;?_,fun h16=>have q16:=Am h16;have p16:=of_decide_eq_true q16;?_⟩
 refine⟨fun h17=>have q17:=An h17;have p17:=of_decide_eq_false q17;?_,fun h17=>have q17:=Am h17;have p17:=of_decide_eq_true q17;?_⟩
 refine⟨(Qe d Q2),(sB ?_),rfl⟩
 rotate_left
 refine⟨(Wu d.field),fun h18=>?_,fun h18=>?_⟩
 refine⟨(Qe d Q2),(sB ?_),rfl⟩
 rotate_left
 refine⟨(sB ?_),rfl⟩
 rotate_left
 refine⟨fun h17=>have q17:=An h17;have p17:=of_decide_eq_false q17;?_,fun h17=>have q17:=Am h17;have p17:=of_decide_eq_true q17;?_⟩
 refine⟨(Qe d Q2),(sB ?_),rfl⟩
 rotate_left
 refine⟨(Wu d.field),fun h18=>?_,fun h18=>?_⟩
 refine⟨(Qe d Q2),(sB ?_),rfl⟩
 rotate_left
 refine⟨(sB ?_),rfl⟩
 rotate_left
 refine⟨fun h16=>have q16:=An h16;have p16:=of_decide_eq_false q16;?_,fun h16=>have q16:=Am h16;have p16:=of_decide_eq_true q16;?_⟩
 refine⟨fun h17=>have q17:=An h17;have p17:=of_decide_eq_false q17;?_,fun h17=>have q17:=Am h17;have p17:=of_decide_eq_true q17;?_⟩
 refine⟨(Qe d Q2),(sB ?_),rfl⟩
 rotate_left
 refine⟨(Wu d.field),fun h18=>?_,fun h18=>?_⟩
 refine⟨(Qe d Q2),(sB ?_),rfl⟩
 rotate_left
 refine⟨(sB ?_),rfl⟩
 rotate_left
 refine dsp (fun h17 p17=>?_) fun h17 p17=>?_
 refine⟨fun h18=>have q18:=An h18;have p18:=of_decide_eq_false q18;?_,fun h18=>have q18:=Am h18;have p18:=of_decide_eq_true q18;?_⟩
 refine⟨(Qe d Q2),(sB ?_),rfl⟩
 rotate_left
 refine⟨(Wu d.field),fun h19=>?_,fun h19=>?_⟩
 refine⟨(Qe d Q2),(sB ?_),rfl⟩
 rotate_left
 refine⟨(sB ?_),rfl⟩
 rotate_left
 refine⟨(sB ?_),rfl⟩
 rotate_left
 all_goals rw[←Ag0];first|(simp_all[Aa2,Zj,Ji,Ux,C6,Ub];done)|(grind[Aa2,Zj,Ji,Ux,C6,Ub,Gt])
theorem Z2 (l:List Lev) (hp1:List.length l≤A8):Fun Tryz.prog 101 [.c (.seq .lev l)] [] (.v (vO 0)) [.lst .lev l]:=by
 refine⟨Gp Tryz.func101 Q4 Q4,?_⟩
 have key:Sm Tryz.prog 8 0 (Aay Tryz.f101 1) [(2,.v (.c .nil)),(0,.v (.c (.seq .lev l)))] [] .ret [(2,.v (.c (.own 0)))] [.lst .lev l]:=by
  refine Sm.nilTest' (s:=0) (t3:=3) (t4:=4) (t:= .lev) (l:=l) rfl rfl rfl rfl rfl rfl rfl Tryz.underlying41 Q4 rfl rfl rfl fun p hp=>?_
  cases p with
  |true=>
   have hl:=hp rfl
   subst hl
   exact .inr ⟨by decide,Dt (ds:=[.br true,.at 0,.mkS 2 .lev,.keep [2],.sel [0]]) (ob:=[true=true]) Q4 ⟨rfl,trivial⟩⟩
  |false=>
   exact .inl ⟨[(0,.v (.c (.seq .lev l)))],[],Dt (ds:=[.br false,.at 0,.keep [0],.sel []]) (ob:=[false=false]) Q4 ⟨rfl,trivial⟩,
    (Dt (tm':=[(2,.v (.c (.own 0)))]) (H':=[.lst .lev ([]++l)]) (ds:=[.ty .lev,.ty .lev,.at 0,.keep [2],.sel [1]]) (ob:=[List.length ([]:List Lev)+List.length l≤A8]) (by kernel_rfl) ⟨by simpa using hp1,trivial⟩).to (by rfl) (by rfl)⟩
 exact Qw Tryz.func101 (res:= .v (.c (.own 0))) (L':=[.lst .lev l]) (ds:=[.jump 1 .ret [(2,.v (.c (.own 0)))] [.lst .lev l]]) (σ:=[0]) (ob:=[Sm Tryz.prog 8 0 (Aay Tryz.f101 1) [(2,.v (.c .nil)),(0,.v (.c (.seq .lev l)))] [] .ret [(2,.v (.c (.own 0)))] [.lst .lev l]]) Q4 ⟨key,trivial⟩
theorem Ajq (l:List Fld) (hp1:List.length l≤A8):Fun Tryz.prog 161 [.c (.seq .fld l)] [] (.v (vO 0)) [.lst .fld l]:=by
 refine⟨Gp Tryz.func161 Q4 Q4,?_⟩
 have key:Sm Tryz.prog 8 0 (Aay Tryz.f161 1) [(2,.v (.c .nil)),(0,.v (.c (.seq .fld l)))] [] .ret [(2,.v (.c (.own 0)))] [.lst .fld l]:=by
  refine Sm.nilTest' (s:=0) (t3:=3) (t4:=4) (t:= .fld) (l:=l) rfl rfl rfl rfl rfl rfl rfl Tryz.underlying62 Q4 rfl rfl rfl fun p hp=>?_
  cases p with
  |true=>
   have hl:=hp rfl
   subst hl
   exact .inr ⟨by decide,Dt (ds:=[.br true,.at 0,.mkS 2 .fld,.keep [2],.sel [0]]) (ob:=[true=true]) Q4 ⟨rfl,trivial⟩⟩
  |false=>
   exact .inl ⟨[(0,.v (.c (.seq .fld l)))],[],Dt (ds:=[.br false,.at 0,.keep [0],.sel []]) (ob:=[false=false]) Q4 ⟨rfl,trivial⟩,
    (Dt (tm':=[(2,.v (.c (.own 0)))]) (H':=[.lst .fld ([]++l)]) (ds:=[.ty .fld,.ty .fld,.at 0,.keep [2],.sel [1]]) (ob:=[List.length ([]:List Fld)+List.length l≤A8]) (by kernel_rfl) ⟨by simpa using hp1,trivial⟩).to (by rfl) (by rfl)⟩
 exact Qw Tryz.func161 (res:= .v (.c (.own 0))) (L':=[.lst .fld l]) (ds:=[.jump 1 .ret [(2,.v (.c (.own 0)))] [.lst .fld l]]) (σ:=[0]) (ob:=[Sm Tryz.prog 8 0 (Aay Tryz.f161 1) [(2,.v (.c .nil)),(0,.v (.c (.seq .fld l)))] [] .ret [(2,.v (.c (.own 0)))] [.lst .fld l]]) Q4 ⟨key,trivial⟩
structure Lz where
 sh:List Shp
 v:Nat
def L0 (s:List Shp):Fam:=⟨Lz,fun q1=>[(2,.v (vP 0)),(3,.v (vP 1)),(8,.v (.c (.seq .shp s))),(9,.v (vI ((List.length s:Nat):Int))),(10,.v (vI ((q1.v:Nat):Int)))],fun q1=>[.cells [.nil],.cells [.own 2],.tree q1.sh],fun q1=>q1.v≤List.length s∧q1.sh=List.take q1.v s,fun q1=>List.length s-q1.v⟩
theorem Ahr (s:List Shp) (hp1:List.length s≤1048576) (hp2: ∀e∈s,List.length e.fields≤1048576):Fun Tryz.prog 98 [.agg [.seq .shp s]] [] (.v (.agg [.own 0])) [.tree s]:=by
 have hN:A8=274877906944:=rfl
 refine Aq Tryz.func98 Q4 Q4 (w:=let z2:=((List.length s:Nat):Int);let z3:=L0 s;(.seg [.at 0,.mkT 2 0,.keep [2,3,8,9,10],.sel [1,2,3]] (.loop z3 fun q1=> .br (.intro (Sx (s[q1.v]?)) fun x1=> .seg [.el .shp x1,.ord (os 12 [6,8,9,11]) [2],.call [] (.v (vO 0)) [.lst .fld x1.fields],.tyT,.tyT,.as 25 (.v (vI (((q1.v:Nat):Int)+1))),.at 0,.keep [2,3,8,9,10],.sel [0,1,6]] (.next)) (.leaf () [2])),z3.Has [(2,.v (vP 0)),(3,.v (vP 1)),(8,.v (.c (.seq .shp s))),(9,.v (vI z2)),(10,.v (vI 0))] [.cells [.nil],.cells [.own 2],.tree ([]:List Shp)]∧∀q1,z3.inv q1→(let z1:=((q1.v:Nat):Int);Bc (decide (z1<z2)) (El (s[q1.v]?) fun x1=>((s[q1.v]? =some x1)∧((0:Int)≤z1)∧(Fp 161 [.c (.seq .fld x1.fields)] [] (.v (vO 0)) [.lst .fld x1.fields])∧(List.length q1.sh+List.length [(⟨x1.id,x1.fields⟩:Shp)]≤A8)∧(wI (z1+1))∧z3.Nxt q1 [(2,.v (vP 0)),(3,.v (vP 1)),(8,.v (.c (.seq .shp s))),(9,.v (vI z2)),(10,.v (vI (z1+1)))] [.cells [.nil],.cells [.own 2],.tree (q1.sh++[(⟨x1.id,x1.fields⟩:Shp)])])) (Lf (.v (.agg [.own 0])) (.v (.agg [.own 0])) [.tree q1.sh] [.tree s])))) Q4 ?_
 refine⟨Bj (j:=(⟨([]:List Shp),0⟩:Lz)) Q9 rfl (by dsimp only[L0];exact⟨by omega,by simp⟩),fun (q1:Lz) hq_q1=>?_⟩
 have hi_q1:q1.v≤List.length s∧q1.sh=List.take q1.v s:=hq_q1
 obtain ⟨v1,v2⟩:=hi_q1
 have hsl:=congrArg List.length v2
 rw[List.length_take] at hsl
 refine dsp (fun h1 p1=>?_) fun h1 p1=>?_
 refine⟨(Bm (l:=s) (i:=q1.v) Q2),fun x1 hx1=>?_⟩
 have hfx:=hp2 x1 (List.mem_of_getElem? hx1)
 exact⟨hx1,Q2,(Ajq x1.fields Q2),Q5,(Ad Q2 Q2),A5 (j:=(⟨q1.sh++[(⟨x1.id,x1.fields⟩:Shp)],q1.v+1⟩:Lz)) Q9 rfl (by dsimp only[L0];exact⟨by omega,by rw[v2,List.take_succ_eq_append_getElem (by omega)];simp[(List.getElem?_eq_some_iff.1 hx1).2]⟩) (by dsimp only[L0];omega)⟩
 refine⟨rfl,(Ab (congrArg Blk.tree ?_) rfl)⟩
 rotate_left
 all_goals first|(rfl)|((rw[v2,List.take_of_length_le (by omega)];done))
theorem W7 (p:Pln) (hp1:List.length (p).shapes≤1048576) (hp2: ∀e∈(p).shapes,List.length e.fields≤1048576):Fun Tryz.prog 47 [.agg (Mg p)] [] (.v (.agg (Ai8 0 p))) [.tree p.shapes]:=by
 have hN:A8=274877906944:=rfl
 refine Aq Tryz.func47 Q4 Q4 (w:=(.seg [.call [] (.v (.agg [.own 0])) [.tree p.shapes]] (.leaf () [2]),(Fp 98 [.agg [.seq .shp p.shapes]] [] (.v (.agg [.own 0])) [.tree p.shapes])∧Lf (.v (.agg (Ai8 0 p))) (.v (.agg (Ai8 0 p))) [.tree p.shapes] [.tree p.shapes])) Q4 ?_
 exact⟨(Ahr p.shapes Q2 (hp2)),rfl,rfl⟩
theorem Mt (d:Dcd) (hp1:List.length (d).plan.shapes≤1048576) (hp2: ∀e∈(d).plan.shapes,List.length e.fields≤1048576) (hp3:List.length (d).stack≤1048576):Fun Tryz.prog 50 [.agg (Bs d)] [] (.v (.agg (Ae 0 1 d))) [.tree d.plan.shapes,.lst .lev d.stack]:=by
 have hN:A8=274877906944:=rfl
 refine Aq Tryz.func50 Q4 Q4 (w:=let zi:Int→C:= .int .i64;let z1:List C:=[.nil,zi 0,zi 0,zi 0,zi 0,.nil,.int .u64 0,zi 0,zi 0,zi 0,zi 0,zi 0,.bool false,.bool false,zi 0,zi 0,zi 0,zi 0,zi 0,zi 0,zi 0,zi 0,.int .u64 0,zi 0,.str [],zi 0,zi 0];let z2:List Blk:=[.cells (Ae 1 2 d),.tree d.plan.shapes,.lst .lev d.stack,.cells z1];let z3:S:= .v (.agg (Ai8 0 d.plan));let z4:=([(1,.v (vP 0)),(2,.v (vP 3))]:List (Nat×S))=[(1,.v (vP 0)),(2,.v (vP 3))];let z5:List Blk:=[.lst .lev d.stack];let z6:S:= .v (vO 0);(.seg [.tree (.first 0 (.first 3 (.two 1 (.two 2 (.one 4 (.first 6 (.one 5 (.one 7 (.first 8 (.one 9 (.done))))))) 4 (.one 2 (.first 6 (.one 5 (.one 7 (.first 8 (.one 9 (.done)))))))) 4 (.one 1 (.one 2 (.first 6 (.one 5 (.one 7 (.first 8 (.one 9 (.done))))))))))) 9 [0],.call [] z3 [.tree d.plan.shapes],.call [] z6 z5,.at 0,.keep [1,2],.sel [0,2,3,1],.call [] z3 [.tree d.plan.shapes],.call [] z6 z5,.at 0,.keep [1,2],.sel [0,2,3,1],.call [] z3 [.tree d.plan.shapes],.call [] z6 z5,.at 0,.keep [1,2],.sel [0,2,3,1]] (.leaf () [1,2]),(Fp 47 [.agg (Mg d.plan)] [] z3 [.tree d.plan.shapes])∧(Fp 101 [.c (.seq .lev d.stack)] [] z6 z5)∧(Fp 47 [.agg (Mg d.plan)] [] z3 [.tree d.plan.shapes])∧(Fp 101 [.c (.seq .lev d.stack)] [] z6 z5)∧((z2:List Blk)=z2)∧z4∧(Fp 47 [.agg (Mg d.plan)] [] z3 [.tree d.plan.shapes])∧(Fp 101 [.c (.seq .lev d.stack)] [] z6 z5)∧((z2:List Blk)=z2)∧z4∧Lf (.v (.agg (Ae 0 1 d))) (.v (.agg (Ae 0 1 d))) (L2 d) (L2 d))) Q4 ?_
 exact⟨(W7 d.plan Q2 (hp2)),(Z2 d.stack Q2),(W7 d.plan Q2 (hp2)),(Z2 d.stack Q2),rfl,rfl,(W7 d.plan Q2 (hp2)),(Z2 d.stack Q2),rfl,rfl,rfl,rfl⟩
structure L3 where
 sh:List Shp
 i:Nat
def L4 (s:List Shp):Fam:=⟨L3,fun q1=>[(1,.v (vP 0)),(2,.v (vP 1)),(3,.v (vP 2)),(4,.v (vI ((q1.i:Nat):Int)))],fun q1=>[.cells [.seq .shp s],.cells [.nil],.cells [.own 3],.tree q1.sh],fun q1=>q1.i≤List.length s∧q1.sh=List.take q1.i s,fun q1=>List.length s-q1.i⟩
theorem Abd (s:List Shp) (hp1:List.length s≤1048576) (hp2: ∀e∈s,List.length e.fields≤1048576):Fun Tryz.prog 89 [.agg [.seq .shp s]] [] (.v (.agg [.own 0])) [.tree s]:=by
 have hN:A8=274877906944:=rfl
 refine Aq Tryz.func89 Q4 Q4 (w:=let z4:=L4 s;(.seg [.at 0,.mkT 2 0,.keep [1,2,3,4],.sel [0,1,2,3]] (.loop z4 fun q1=> .br (.intro (Sx (s[q1.i]?)) fun x1=> .seg [.ord [(0,true),(1,true),(2,true),(3,true),(4,true),(5,true),(6,true),(7,true),(9,true),(10,true),(11,true),(12,true),(13,true),(14,true),(8,false),(15,false),(16,true),(17,false),(18,false),(19,true),(20,false)] [3],.el .shp x1,.el .shp x1,.ty .fld,.ty .fld,.tyT,.tyT,.as 12 (.v (vI (((q1.i:Nat):Int)+1))),.at 0,.keep [1,2,3,4],.sel [0,1,2,7]] (.next)) (.leaf () [3])),z4.Has [(1,.v (vP 0)),(2,.v (vP 1)),(3,.v (vP 2)),(4,.v (vI 0))] [.cells [.seq .shp s],.cells [.nil],.cells [.own 3],.tree ([]:List Shp)]∧∀q1,z4.inv q1→(let z3:=((q1.i:Nat):Int);Bc (decide (z3<((List.length s:Nat):Int))) (El (s[q1.i]?) fun x1=>(let z1:=s[q1.i]? =some x1;let z2:=(⟨x1.id,([]:List Fld)++x1.fields⟩:Shp);z1∧((0:Int)≤z3)∧z1∧((0:Int)≤z3)∧z1∧((0:Int)≤z3)∧z1∧((0:Int)≤z3)∧(List.length ([]:List Fld)+List.length x1.fields≤A8)∧(List.length q1.sh+List.length [z2]≤A8)∧(wI (z3+1))∧z4.Nxt q1 [(1,.v (vP 0)),(2,.v (vP 1)),(3,.v (vP 2)),(4,.v (vI (z3+1)))] [.cells [.seq .shp s],.cells [.nil],.cells [.own 3],.tree (q1.sh++[z2])])) (Lf (.v (.agg [.own 0])) (.v (.agg [.own 0])) [.tree q1.sh] [.tree s])))) Q4 ?_
 refine⟨Bj (j:=(⟨([]:List Shp),0⟩:L3)) Q9 rfl (by dsimp only[L4];exact⟨by omega,by simp⟩),fun (q1:L3) hq_q1=>?_⟩
 have hi_q1:q1.i≤List.length s∧q1.sh=List.take q1.i s:=hq_q1
 obtain ⟨v1,v2⟩:=hi_q1
 have hsl:=congrArg List.length v2
 rw[List.length_take] at hsl
 refine dsp (fun h1 p1=>?_) fun h1 p1=>?_
 refine⟨(Bm (l:=s) (i:=q1.i) Q2),fun x1 hx1=>?_⟩
 have hfx:=hp2 x1 (List.mem_of_getElem? hx1)
 exact⟨hx1,Q2,hx1,Q2,hx1,Q2,hx1,Q2,Q5,Q47,(Ad Q2 Q2),A5 (j:=(⟨q1.sh++[(⟨x1.id,([]:List Fld)++x1.fields⟩:Shp)],q1.i+1⟩:L3)) Q9 rfl (by dsimp only[L4];exact⟨by omega,by rw[v2,List.take_succ_eq_append_getElem (by omega)];simp[(List.getElem?_eq_some_iff.1 hx1).2]⟩) (by dsimp only[L4];omega)⟩
 refine⟨rfl,(Ab (congrArg Blk.tree ?_) rfl)⟩
 rotate_left
 all_goals first|(rfl)|((rw[v2,List.take_of_length_le (by omega)];done))
theorem Ge (d:Dcd) (hp1:List.length (d).plan.shapes≤1048576) (hp2: ∀e∈(d).plan.shapes,List.length e.fields≤1048576) (hp3:List.length (d).stack≤1048576):Fun Tryz.prog 59 [.agg (Bs d)] [] (.v (.agg (Ae 0 1 d))) [.tree d.plan.shapes,.lst .lev d.stack]:=by
 have hN:A8=274877906944:=rfl
 refine Aq Tryz.func59 Q4 Q4 (w:=(.seg [.call [] (.v (.agg [.own 0])) [.tree d.plan.shapes],.ty .lev,.ty .lev] (.leaf () [2,4]),(Fp 89 [.agg [.seq .shp d.plan.shapes]] [] (.v (.agg [.own 0])) [.tree d.plan.shapes])∧(List.length ([]:List Lev)+List.length d.stack≤A8)∧Lf (.v (.agg (Ae 0 1 d))) (.v (.agg (Ae 0 1 d))) [.tree d.plan.shapes,.lst .lev (([]:List Lev)++d.stack)] (L2 d))) Q4 ?_
 refine⟨(Abd d.plan.shapes Q2 (hp2)),Q5,?_⟩
 have hm1:d=(⟨d.plan,d.mode,([]:List Lev)++d.stack,d.scan,d.start,d.at_,d.field,d.wire,d.want,d.utf,d.end_⟩:Dcd):=by rfl
 exact⟨Q6,Q6⟩
theorem Adz (p:Pln) (hp1:List.length (p).shapes≤A8):Fun Tryz.prog 40 [.agg (Mg p)] [] (.tup [.agg (Ae 0 1 (Fc p)),vB (Dh p)]) [.tree (Fc p).plan.shapes,.lst .lev (Fc p).stack]:=by
 have hN:A8=274877906944:=rfl
 refine Aq Tryz.func40 Q4 Q4 (w:=let zi:Int→C:= .int .i64;let z1:List C:=[.own 1,.int .u64 0,zi 0,zi 0,zi 0,zi 0,zi 0,.bool false,.bool false,zi 0,zi 0,zi 0,zi 0,zi 0,zi 0,zi 0,zi 0,.int .u64 0,zi 0,.str [],zi 0,zi 0];let z2:S:= .tup [.agg (Ae 0 1 (Fc p)),vB (Dh p)];(.seg [.call [] (.v (vB (Dh p))) []] (.br (.seg [.at 0,.mkT 1 0,.mk 1 5 .lev] (.leaf () [2,3])) (.seg [.call [] (.v (.agg [.own 0])) [.tree p.shapes],.at 0,.mk 1 5 .lev] (.leaf () [2,3]))),(Fp 13 [.agg (Mg p)] [] (.v (vB (Dh p))) [])∧Bc (!(Dh p)) (Lf (.tup [.agg (.own 0::zi 0::zi 0::zi 0::zi 0::z1),vB false]) z2 [.tree ([]:List Shp),.lst .lev ([]:List Lev)] (L2 (Fc p))) ((Fp 89 [.agg [.seq .shp p.shapes]] [] (.v (.agg [.own 0])) [.tree p.shapes])∧Lf (.tup [.agg (.own 0::zi p.root::zi p.deep::zi p.most::zi 1::z1),vB true]) z2 [.tree p.shapes,.lst .lev ([]:List Lev)] (L2 (Fc p))))) Q4 ?_
 refine⟨(Z0 p),fun h1=>have q1:=An h1;?_,fun h1=>have q1:=Am h1;have p1:=Cj q1;?_⟩
 refine zE (Fc p) (⟨(⟨([]:List Shp),0,0,0⟩:Pln),0,([]:List Lev),(⟨0,0⟩:Scn),0,0,(⟨0,0,false,false,0⟩:Fld),0,0,(⟨0,0,0⟩:Utf),(⟨0,0,0,0,[],0,0⟩:Ev)⟩:Dcd) (fun hm1=>⟨(congrArg S.tup (Ab (congrArg V.agg (Ab rfl (Ab (congrArg (C.int .i64) ?_) (Ab (congrArg (C.int .i64) ?_) (Ab (congrArg (C.int .i64) ?_) (Ab (congrArg (C.int .i64) ?_) (Ab rfl (Ab (congrArg (C.int .u64) ?_) (Ab (congrArg (C.int .i64) ?_) (Ab (congrArg (C.int .i64) ?_) (Ab (congrArg (C.int .i64) ?_) (Ab (congrArg (C.int .i64) ?_) (Ab (congrArg (C.int .i64) ?_) (Ab (congrArg C.bool ?_) (Ab (congrArg C.bool ?_) (Ab (congrArg (C.int .i64) ?_) (Ab (congrArg (C.int .i64) ?_) (Ab (congrArg (C.int .i64) ?_) (Ab (congrArg (C.int .i64) ?_) (Ab (congrArg (C.int .i64) ?_) (Ab (congrArg (C.int .i64) ?_) (Ab (congrArg (C.int .i64) ?_) (Ab (congrArg (C.int .i64) ?_) (Ab (congrArg (C.int .u64) ?_) (Ab (congrArg (C.int .i64) ?_) (Ab (congrArg C.str ?_) (Ab (congrArg (C.int .i64) ?_) (Ab (congrArg (C.int .i64) ?_) rfl)))))))))))))))))))))))))))) (Ab (congrArg V.c (congrArg C.bool ?_)) rfl))),Q6⟩) ?_
 rotate_left 27
 have hpt:=Cj q1
 refine zE (Fc p) (⟨p,1,([]:List Lev),(⟨0,0⟩:Scn),0,0,(⟨0,0,false,false,0⟩:Fld),0,0,(⟨0,0,0⟩:Utf),(⟨0,0,0,0,[],0,0⟩:Ev)⟩:Dcd) (fun hm1=>⟨(Abd p.shapes Q2 (D4 hpt.2.1)),(congrArg S.tup (Ab (congrArg V.agg (Ab rfl (Ab (congrArg (C.int .i64) ?_) (Ab (congrArg (C.int .i64) ?_) (Ab (congrArg (C.int .i64) ?_) (Ab (congrArg (C.int .i64) ?_) (Ab rfl (Ab (congrArg (C.int .u64) ?_) (Ab (congrArg (C.int .i64) ?_) (Ab (congrArg (C.int .i64) ?_) (Ab (congrArg (C.int .i64) ?_) (Ab (congrArg (C.int .i64) ?_) (Ab (congrArg (C.int .i64) ?_) (Ab (congrArg C.bool ?_) (Ab (congrArg C.bool ?_) (Ab (congrArg (C.int .i64) ?_) (Ab (congrArg (C.int .i64) ?_) (Ab (congrArg (C.int .i64) ?_) (Ab (congrArg (C.int .i64) ?_) (Ab (congrArg (C.int .i64) ?_) (Ab (congrArg (C.int .i64) ?_) (Ab (congrArg (C.int .i64) ?_) (Ab (congrArg (C.int .i64) ?_) (Ab (congrArg (C.int .u64) ?_) (Ab (congrArg (C.int .i64) ?_) (Ab (congrArg C.str ?_) (Ab (congrArg (C.int .i64) ?_) (Ab (congrArg (C.int .i64) ?_) rfl)))))))))))))))))))))))))))) (Ab (congrArg V.c (congrArg C.bool ?_)) rfl))),Q6⟩) ?_
 rotate_left 27
 all_goals first|(simp_all[Fc,utf0];done)|(grind[Fc,utf0])
theorem Fv (m:Mac) (e:Ev) (hp1:List.length (m).out≤200000000):Fun Tryz.prog 88 [vP 0,.agg (cEv e)] [.cells (Ac 1 2 3 m),.tree m.d.plan.shapes,.lst .lev m.d.stack,.lst .ev m.out] (.tup []) [.cells (Ac 1 2 4 m),.tree (m).d.plan.shapes,.lst .lev (m).d.stack,.dead,.lst .ev ((m).out++[e])]:=by
 have hN:A8=274877906944:=rfl
 refine Aq Tryz.func88 Q4 Q4 (w:=(.seg [.ord (os 11 [6,7,10]) [3],.ty .ev,.ty .ev] (.leaf () [0,1,2,3,6]),(List.length m.out+List.length [e]≤A8)∧Lf (.tup []) (.tup []) [.cells (Ac 1 2 4 m),.tree m.d.plan.shapes,.lst .lev m.d.stack,.dead,.lst .ev (m.out++[e])] [.cells (Ac 1 2 4 m),.tree (m).d.plan.shapes,.lst .lev (m).d.stack,.dead,.lst .ev ((m).out++[e])])) Q4 ?_
 exact⟨Q5,rfl,(Ab rfl (Ab (congrArg Blk.tree (by rfl)) (Ab (congrArg (Blk.lst .lev) (by rfl)) (Ab rfl (Ab (congrArg (Blk.lst .ev) (by rfl)) rfl)))))⟩
theorem Cg (m:Mac) (c:Int) (a:Int) (hp1:List.length (m).out≤200000000):Fun Tryz.prog 52 [vP 0,vI c,vI a] [.cells (Ac 1 2 3 m),.tree m.d.plan.shapes,.lst .lev m.d.stack,.lst .ev m.out] (.tup []) [.cells (Ac 1 2 4 (Az m c a)),.tree (Az m c a).d.plan.shapes,.lst .lev (Az m c a).d.stack,.dead,.lst .ev (Az m c a).out]:=by
 have hN:A8=274877906944:=rfl
 refine Aq Tryz.func52 Q4 Q4 (w:=let zi:Int→C:= .int .i64;let z3:=A3 c a;let z1:List C:=[.own 1,zi m.d.plan.root,zi m.d.plan.deep,zi m.d.plan.most,zi 9,.own 2,.int .u64 0,zi 0,zi m.d.start,zi m.d.at_,zi m.d.field.number,zi m.d.field.kind,.bool m.d.field.rep,.bool m.d.field.packed,zi m.d.field.msg,zi m.d.wire,zi 0,zi m.d.utf.want,zi m.d.utf.low,zi m.d.utf.high,zi z3.kind,zi z3.field,.int .u64 z3.bits,zi z3.len,.str z3.text,zi z3.code,zi z3.at_,.own 4];let z2:List Blk:=[.cells z1,.tree m.d.plan.shapes,.lst .lev m.d.stack,.dead,.lst .ev (m.out++[z3])];let z4:=Az m c a;(.seg [.call [] (.v (.agg (cEv z3))) [],.call [0,1,2,3] (.tup []) z2] (.leaf () [0,1,2,3,4]),(Fp 111 [vI c,vI a] [] (.v (.agg (cEv z3))) [])∧(Fp 88 [vP 0,.agg (cEv z3)] [.cells [.own 1,zi m.d.plan.root,zi m.d.plan.deep,zi m.d.plan.most,zi 9,.own 2,.int .u64 0,zi 0,zi m.d.start,zi m.d.at_,zi m.d.field.number,zi m.d.field.kind,.bool m.d.field.rep,.bool m.d.field.packed,zi m.d.field.msg,zi m.d.wire,zi 0,zi m.d.utf.want,zi m.d.utf.low,zi m.d.utf.high,zi z3.kind,zi z3.field,.int .u64 z3.bits,zi z3.len,.str z3.text,zi z3.code,zi z3.at_,.own 3],.tree m.d.plan.shapes,.lst .lev m.d.stack,.lst .ev m.out] (.tup []) z2)∧Lf (.tup []) (.tup []) z2 [.cells (Ac 1 2 4 z4),.tree z4.d.plan.shapes,.lst .lev z4.d.stack,.dead,.lst .ev z4.out])) Q4 ?_
 refine zE (Az m c a) (⟨(⟨m.d.plan,9,m.d.stack,(⟨0,0⟩:Scn),m.d.start,m.d.at_,m.d.field,m.d.wire,0,m.d.utf,(A3 c a)⟩:Dcd),m.out++[(A3 c a)]⟩:Mac) (fun hm1=>⟨(Ahh _ _),(Fv (⟨(⟨m.d.plan,9,m.d.stack,(⟨0,0⟩:Scn),m.d.start,m.d.at_,m.d.field,m.d.wire,0,m.d.utf,(A3 c a)⟩:Dcd),m.out⟩:Mac) (A3 c a) Q7),rfl,Q6⟩) ?_
 rotate_left
 all_goals first|(rfl)|(simp_all[Az,A9])
theorem Amz (m:Mac) (hp1:List.length (m).out≤200000000) (hp2:List.length (m).d.stack≤A8):Fun Tryz.prog 180 [vP 0] [.cells (Ac 1 2 3 m),.tree m.d.plan.shapes,.lst .lev m.d.stack,.lst .ev m.out] (.v (vB (A0 m).isSome)) [.cells (Ac 1 4 5 ((A0 m).getD m)),.tree ((A0 m).getD m).d.plan.shapes,.dead,.dead,.lst .lev ((A0 m).getD m).d.stack,.lst .ev ((A0 m).getD m).out]:=by
 have hN:A8=274877906944:=rfl
 refine Aq Tryz.func180 Q4 Q4 (w:=let zi:Int→C:= .int .i64;let z4:List C:=[zi 0,.int .u64 0,zi 0,.str [],zi 0,zi 0];let z7:List C:=[zi m.d.end_.kind,zi m.d.end_.field,.int .u64 m.d.end_.bits,zi m.d.end_.len,.str m.d.end_.text,zi m.d.end_.code,zi m.d.end_.at_,.own 5];let z3:List C:= .own 1::zi m.d.plan.root::zi m.d.plan.deep::zi m.d.plan.most::zi 1:: .own 4:: .int .u64 m.d.scan.bits::zi m.d.scan.have_::zi m.d.start::zi m.d.at_::zi m.d.field.number::zi m.d.field.kind:: .bool m.d.field.rep:: .bool m.d.field.packed::zi m.d.field.msg::zi m.d.wire::zi m.d.want::zi m.d.utf.want::zi m.d.utf.low::zi m.d.utf.high::z7;let z5:List C:= .own 1::zi m.d.plan.root::zi m.d.plan.deep::zi m.d.plan.most::zi 2:: .own 4:: .int .u64 m.d.scan.bits::zi m.d.scan.have_::zi m.d.start::zi m.d.at_::zi m.d.field.number::zi m.d.field.kind:: .bool m.d.field.rep:: .bool m.d.field.packed::zi m.d.field.msg::zi m.d.wire::zi 0::zi m.d.utf.want::zi m.d.utf.low::zi m.d.utf.high::z7;let z8:List C:=[zi m.d.end_.kind,zi m.d.end_.field,.int .u64 m.d.end_.bits,zi m.d.end_.len,.str m.d.end_.text,zi m.d.end_.code,zi m.d.end_.at_,.own 3];let z2:List C:= .own 1::zi m.d.plan.root::zi m.d.plan.deep::zi m.d.plan.most::zi 1:: .own 2:: .int .u64 m.d.scan.bits::zi m.d.scan.have_::zi m.d.start::zi m.d.at_::zi m.d.field.number::zi m.d.field.kind:: .bool m.d.field.rep:: .bool m.d.field.packed::zi m.d.field.msg::zi m.d.wire::zi m.d.want::zi m.d.utf.want::zi m.d.utf.low::zi m.d.utf.high::z8;let z9:List C:=[zi m.d.end_.kind,zi m.d.end_.field,.int .u64 m.d.end_.bits,zi m.d.end_.len,.str m.d.end_.text,zi m.d.end_.code,zi m.d.end_.at_,.own 4];let z1:List C:= .own 1::zi m.d.plan.root::zi m.d.plan.deep::zi m.d.plan.most::zi 1:: .own 2:: .int .u64 m.d.scan.bits::zi m.d.scan.have_::zi m.d.start::zi m.d.at_::zi m.d.field.number::zi m.d.field.kind:: .bool m.d.field.rep:: .bool m.d.field.packed::zi m.d.field.msg::zi m.d.wire::zi m.d.want::zi m.d.utf.want::zi m.d.utf.low::zi m.d.utf.high::z9;let z6:List C:= .own 1::zi m.d.plan.root::zi m.d.plan.deep::zi m.d.plan.most::zi 2:: .own 2:: .int .u64 m.d.scan.bits::zi m.d.scan.have_::zi m.d.start::zi m.d.at_::zi m.d.field.number::zi m.d.field.kind:: .bool m.d.field.rep:: .bool m.d.field.packed::zi m.d.field.msg::zi m.d.wire::zi 0::zi 0::zi 0::zi 0::z9;let z13:=((List.length m.d.stack:Nat):Int);let z11:=List.take ((Int.toNat (z13-1))-0) m.d.stack;let z18:S:= .v (vB (A0 m).isSome);let z19:List Blk:=[.cells (Ac 1 2 3 m),.tree m.d.plan.shapes,.lst .lev z11,.lst .ev m.out];let z20:List Blk:=[.cells z2,.tree m.d.plan.shapes,.lst .lev z11,.lst .ev m.out];let z21:=decide (m.d.scan.have_=0);let z22:=decide (0<((List.length z11:Nat):Int));let z23:=(0:Int)≤z13-1;let z24:List Blk:=[.cells (Ac 1 4 5 m),.tree m.d.plan.shapes,.dead,.dead,.lst .lev m.d.stack,.lst .ev m.out];let z25:S:= .v (vI (D6 m.d));let z26:=Az m 5 m.d.at_;let z27:S:= .v (vB true);let z28:=decide (m.d.mode=2);let z29:List V:=[vP 0,.agg (zi 7::z4)];let z30:List V:=[vP 0,.agg (zi 8::z4)];let z31:=z13-1≤z13;let z32:=wI (z13-1);let z34:=decide (D6 m.d=0);let z36:List Blk:=[.cells (Ac 1 2 4 z26),.tree z26.d.plan.shapes,.lst .lev z26.d.stack,.dead,.lst .ev z26.out];let z37:=decide (m.d.want<1);let z38:S:= .v (vI (z13-1));let z39:=decide (0<z13);let z41:=(A0 m).getD m;let z12:List Blk:=[.cells (Ac 1 4 5 z41),.tree z41.d.plan.shapes,.dead,.dead,.lst .lev z41.d.stack,.lst .ev z41.out];let z10:=Lf (.v (vB false)) z18 z24 z12;let z35:=Lf z27 z18 [.cells z5,.tree m.d.plan.shapes,.dead,.dead,.lst .lev m.d.stack,.lst .ev m.out] z12;let z40:=Bc z28 ((z21=false)∧Lf (.v (vB false)) z18 z24 z12) z10;let z42:=os 18 [17];let z43:=m.out++[(⟨5,0,0,0,[],0,0⟩:Ev)];let z33:List Blk:=[.cells z6,.tree m.d.plan.shapes,.lst .lev m.d.stack,.dead,.lst .ev z43];let z44:=m.out++[(⟨7,0,0,0,[],0,0⟩:Ev)];let z14:List Blk:=[.cells (Ac 1 2 4 m),.tree m.d.plan.shapes,.lst .lev z11,.dead,.lst .ev z44];let z16:List Blk:=[.cells (Ac 1 4 5 m),.tree m.d.plan.shapes,.dead,.dead,.lst .lev z11,.lst .ev z44];let z45:=m.out++[(⟨8,0,0,0,[],0,0⟩:Ev)];let z15:List Blk:=[.cells z1,.tree m.d.plan.shapes,.lst .lev z11,.dead,.lst .ev z45];let z17:List Blk:=[.cells z3,.tree m.d.plan.shapes,.dead,.dead,.lst .lev z11,.lst .ev z45];let z46:=Bs m.d;(.br (.br (.br (.seg [.call [0,1,2,3] (.tup []) z36,.at 0,.cut 0 5] (.leaf () [0,1,2,3,5,4])) (.seg [.call [0,1,2,3] (.tup []) z33,.at 0,.cut 0 5] (.leaf () [0,1,2,3,5,4]))) (.br (.seg [.br false] (.br (.br (.br (.seg [.call [] z25 []] (.br (.seg [.ord z42 [],.as 133 z38,.at 13,.cut 0 5] (.br (.seg [.call [0,1,4,3] (.tup []) z14] (.leaf () [0,1,2,3,4,5])) (.seg [.call [0,1,4,3] (.tup []) z15] (.leaf () [0,1,2,3,4,5])))) (.seg [.at 0,.cut 0 5,.cut 0 27] (.leaf () [0,1,2,3,4,5])))) (.seg [.at 0,.cut 0 5,.cut 0 27] (.leaf () [0,1,2,3,4,5]))) (.seg [.at 0,.cut 0 5,.cut 0 27] (.leaf () [0,1,2,3,4,5]))) (.seg [.at 0,.cut 0 5,.cut 0 27] (.leaf () [0,1,2,3,4,5])))) (.br (.br (.seg [.br false] (.br (.seg [.br true] (.br (.seg [.call [] z25 []] (.br (.seg [.ord z42 [],.as 133 z38,.at 13,.cut 0 5] (.br (.seg [.call [0,1,4,3] (.tup []) z14] (.leaf () [0,1,2,3,4,5])) (.seg [.call [0,1,4,3] (.tup []) z15] (.leaf () [0,1,2,3,4,5])))) (.seg [.at 0,.cut 0 5,.cut 0 27] (.leaf () [0,1,2,3,4,5])))) (.seg [.at 0,.cut 0 5,.cut 0 27] (.leaf () [0,1,2,3,4,5])))) (.seg [.at 0,.cut 0 5,.cut 0 27] (.leaf () [0,1,2,3,4,5])))) (.br (.seg [.br false,.at 0,.cut 0 5,.cut 0 27] (.leaf () [0,1,2,3,4,5])) (.seg [.at 0,.cut 0 5,.cut 0 27] (.leaf () [0,1,2,3,4,5])))) (.br (.br (.br (.seg [.call [] z25 []] (.br (.seg [.ord z42 [],.as 133 z38,.at 13,.cut 0 5] (.br (.seg [.call [0,1,4,3] (.tup []) z14] (.leaf () [0,1,2,3,4,5])) (.seg [.call [0,1,4,3] (.tup []) z15] (.leaf () [0,1,2,3,4,5])))) (.seg [.at 0,.cut 0 5,.cut 0 27] (.leaf () [0,1,2,3,4,5])))) (.seg [.at 0,.cut 0 5,.cut 0 27] (.leaf () [0,1,2,3,4,5]))) (.seg [.at 0,.cut 0 5,.cut 0 27] (.leaf () [0,1,2,3,4,5]))) (.seg [.at 0,.cut 0 5,.cut 0 27] (.leaf () [0,1,2,3,4,5])))))) (.br (.br (.seg [.at 0,.cut 0 5,.cut 0 27] (.leaf () [0,1,2,3,4,5])) (.br (.br (.br (.seg [.call [] z25 []] (.br (.seg [.ord z42 [],.as 133 z38,.at 13,.cut 0 5] (.br (.seg [.call [0,1,4,3] (.tup []) z14] (.leaf () [0,1,2,3,4,5])) (.seg [.call [0,1,4,3] (.tup []) z15] (.leaf () [0,1,2,3,4,5])))) (.seg [.at 0,.cut 0 5,.cut 0 27] (.leaf () [0,1,2,3,4,5])))) (.seg [.at 0,.cut 0 5,.cut 0 27] (.leaf () [0,1,2,3,4,5]))) (.seg [.at 0,.cut 0 5,.cut 0 27] (.leaf () [0,1,2,3,4,5]))) (.seg [.at 0,.cut 0 5,.cut 0 27] (.leaf () [0,1,2,3,4,5])))) (.br (.br (.br (.seg [.at 0,.cut 0 5,.cut 0 27] (.leaf () [0,1,2,3,4,5])) (.br (.seg [.br true] (.br (.seg [.call [] z25 []] (.br (.seg [.ord z42 [],.as 133 z38,.at 13,.cut 0 5] (.br (.seg [.call [0,1,4,3] (.tup []) z14] (.leaf () [0,1,2,3,4,5])) (.seg [.call [0,1,4,3] (.tup []) z15] (.leaf () [0,1,2,3,4,5])))) (.seg [.at 0,.cut 0 5,.cut 0 27] (.leaf () [0,1,2,3,4,5])))) (.seg [.at 0,.cut 0 5,.cut 0 27] (.leaf () [0,1,2,3,4,5])))) (.seg [.at 0,.cut 0 5,.cut 0 27] (.leaf () [0,1,2,3,4,5])))) (.br (.seg [.br false,.at 0,.cut 0 5,.cut 0 27] (.leaf () [0,1,2,3,4,5])) (.seg [.at 0,.cut 0 5,.cut 0 27] (.leaf () [0,1,2,3,4,5])))) (.br (.br (.br (.seg [.call [] z25 []] (.br (.seg [.ord z42 [],.as 133 z38,.at 13,.cut 0 5] (.br (.seg [.call [0,1,4,3] (.tup []) z14] (.leaf () [0,1,2,3,4,5])) (.seg [.call [0,1,4,3] (.tup []) z15] (.leaf () [0,1,2,3,4,5])))) (.seg [.at 0,.cut 0 5,.cut 0 27] (.leaf () [0,1,2,3,4,5])))) (.seg [.at 0,.cut 0 5,.cut 0 27] (.leaf () [0,1,2,3,4,5]))) (.seg [.at 0,.cut 0 5,.cut 0 27] (.leaf () [0,1,2,3,4,5]))) (.seg [.at 0,.cut 0 5,.cut 0 27] (.leaf () [0,1,2,3,4,5]))))),Bc (decide (m.d.mode=6)) (Bc z37 (Bc (decide (0<m.d.utf.want)) ((Fp 52 [vP 0,vI 5,vI m.d.at_] [.cells (Ac 1 2 3 m),.tree m.d.plan.shapes,.lst .lev m.d.stack,.lst .ev m.out] (.tup []) z36)∧Lf z27 z18 [.cells (Ac 1 4 5 z26),.tree z26.d.plan.shapes,.dead,.dead,.lst .lev z26.d.stack,.lst .ev z26.out] z12) ((Fp 88 [vP 0,.agg (zi 5::z4)] [.cells (.own 1::zi m.d.plan.root::zi m.d.plan.deep::zi m.d.plan.most::zi 2:: .own 2:: .int .u64 m.d.scan.bits::zi m.d.scan.have_::zi m.d.start::zi m.d.at_::zi m.d.field.number::zi m.d.field.kind:: .bool m.d.field.rep:: .bool m.d.field.packed::zi m.d.field.msg::zi m.d.wire::zi 0::zi 0::zi 0::zi 0::z8),.tree m.d.plan.shapes,.lst .lev m.d.stack,.lst .ev m.out] (.tup []) z33)∧Lf z27 z18 [.cells (.own 1::zi m.d.plan.root::zi m.d.plan.deep::zi m.d.plan.most::zi 2:: .own 4:: .int .u64 m.d.scan.bits::zi m.d.scan.have_::zi m.d.start::zi m.d.at_::zi m.d.field.number::zi m.d.field.kind:: .bool m.d.field.rep:: .bool m.d.field.packed::zi m.d.field.msg::zi m.d.wire::zi 0::zi 0::zi 0::zi 0::z7),.tree m.d.plan.shapes,.dead,.dead,.lst .lev m.d.stack,.lst .ev z43] z12)) (Bc (decide (m.d.mode=7)) ((z37=false)∧Bc z28 (Bc z21 (Bc z39 ((Fp 108 [.agg z46] [] z25 [])∧Bc z34 (z32∧z32∧z31∧z23∧z31∧z23∧Bc z22 ((Fp 88 z29 z19 (.tup []) z14)∧Lf z27 z18 z16 z12) ((Fp 88 z30 z20 (.tup []) z15)∧Lf z27 z18 z17 z12)) z10) z10) z10) z10) (Bc (decide (m.d.mode=8)) (Bc z21 ((z37=false)∧Bc z28 ((z21=true)∧Bc z39 ((Fp 108 [.agg z46] [] z25 [])∧Bc z34 (z32∧z32∧z31∧z23∧z31∧z23∧Bc z22 ((Fp 88 z29 z19 (.tup []) z14)∧Lf z27 z18 z16 z12) ((Fp 88 z30 z20 (.tup []) z15)∧Lf z27 z18 z17 z12)) z10) z10) z10) z40) (Bc z28 (Bc z21 (Bc z39 ((Fp 108 [.agg z46] [] z25 [])∧Bc z34 (z32∧z32∧z31∧z23∧z31∧z23∧Bc z22 ((Fp 88 z29 z19 (.tup []) z14)∧Lf z27 z18 z16 z12) ((Fp 88 z30 z20 (.tup []) z15)∧Lf z27 z18 z17 z12)) z10) z10) z10) z10)))) (Bc (decide (m.d.mode=7)) (Bc z37 z35 (Bc z28 (Bc z21 (Bc z39 ((Fp 108 [.agg z46] [] z25 [])∧Bc z34 (z32∧z32∧z31∧z23∧z31∧z23∧Bc z22 ((Fp 88 z29 z19 (.tup []) z14)∧Lf z27 z18 z16 z12) ((Fp 88 z30 z20 (.tup []) z15)∧Lf z27 z18 z17 z12)) z10) z10) z10) z10)) (Bc (decide (m.d.mode=8)) (Bc z21 (Bc z37 z35 (Bc z28 ((z21=true)∧Bc z39 ((Fp 108 [.agg z46] [] z25 [])∧Bc z34 (z32∧z32∧z31∧z23∧z31∧z23∧Bc z22 ((Fp 88 z29 z19 (.tup []) z14)∧Lf z27 z18 z16 z12) ((Fp 88 z30 z20 (.tup []) z15)∧Lf z27 z18 z17 z12)) z10) z10) z10)) z40) (Bc z28 (Bc z21 (Bc z39 ((Fp 108 [.agg z46] [] z25 [])∧Bc z34 (z32∧z32∧z31∧z23∧z31∧z23∧Bc z22 ((Fp 88 z29 z19 (.tup []) z14)∧Lf z27 z18 z16 z12) ((Fp 88 z30 z20 (.tup []) z15)∧Lf z27 z18 z17 z12)) z10) z10) z10) z10))))) Q4 ?_
 refine dsp (fun h1 p1=>?_) fun h1 p1=>?_
 refine dsp (fun h2 p2=>?_) fun h2 p2=>?_
 refine dsp (fun h3 p3=>?_) fun h3 p3=>?_
 refine zE ((A0 m).getD m) (Az m 5 m.d.at_) (fun hm1=>⟨(Cg m _ _ Q2),(sB ?_),Q6⟩) ?_
 rotate_left 2
 refine zE ((A0 m).getD m) (⟨(⟨m.d.plan,2,m.d.stack,m.d.scan,m.d.start,m.d.at_,m.d.field,m.d.wire,0,(⟨0,0,0⟩:Utf),m.d.end_⟩:Dcd),m.out++[(⟨5,0,0,0,[],0,0⟩:Ev)]⟩:Mac) (fun hm1=>⟨(Fv (⟨(⟨m.d.plan,2,m.d.stack,m.d.scan,m.d.start,m.d.at_,m.d.field,m.d.wire,0,(⟨0,0,0⟩:Utf),m.d.end_⟩:Dcd),m.out⟩:Mac) (⟨5,0,0,0,[],0,0⟩:Ev) Q7),(sB ?_),Q6⟩) ?_
 rotate_left 2
 refine dsp (fun h3 p3=>?_) fun h3 p3=>?_
 refine⟨h2,dsp (fun h4 p4=>?_) fun h4 p4=>?_⟩
 refine dsp (fun h5 p5=>?_) fun h5 p5=>?_
 refine dsp (fun h6 p6=>?_) fun h6 p6=>?_
 refine⟨(Ed m.d Q2),dsp (fun h7 p7=>?_) fun h7 p7=>?_⟩
 refine⟨(Ad Q2 Q2),(Ad Q2 Q2),Q2,Q2,Q2,Q2,dsp (fun h8 p8=>?_) fun h8 p8=>?_⟩
 refine zE ((A0 m).getD m) (⟨(⟨m.d.plan,m.d.mode,List.take ((Int.toNat (((List.length m.d.stack:Nat):Int)-1))-0) m.d.stack,m.d.scan,m.d.start,m.d.at_,m.d.field,m.d.wire,m.d.want,m.d.utf,m.d.end_⟩:Dcd),m.out++[(⟨7,0,0,0,[],0,0⟩:Ev)]⟩:Mac) (fun hm1=>⟨(Fv (⟨(⟨m.d.plan,m.d.mode,List.take ((Int.toNat (((List.length m.d.stack:Nat):Int)-1))-0) m.d.stack,m.d.scan,m.d.start,m.d.at_,m.d.field,m.d.wire,m.d.want,m.d.utf,m.d.end_⟩:Dcd),m.out⟩:Mac) (⟨7,0,0,0,[],0,0⟩:Ev) Q7),(sB ?_),Q6⟩) ?_
 rotate_left 2
 refine zE ((A0 m).getD m) (⟨(⟨m.d.plan,1,List.take ((Int.toNat (((List.length m.d.stack:Nat):Int)-1))-0) m.d.stack,m.d.scan,m.d.start,m.d.at_,m.d.field,m.d.wire,m.d.want,m.d.utf,m.d.end_⟩:Dcd),m.out++[(⟨8,0,0,0,[],0,0⟩:Ev)]⟩:Mac) (fun hm1=>⟨(Fv (⟨(⟨m.d.plan,1,List.take ((Int.toNat (((List.length m.d.stack:Nat):Int)-1))-0) m.d.stack,m.d.scan,m.d.start,m.d.at_,m.d.field,m.d.wire,m.d.want,m.d.utf,m.d.end_⟩:Dcd),m.out⟩:Mac) (⟨8,0,0,0,[],0,0⟩:Ev) Q7),(sB ?_),Q6⟩) ?_
 rotate_left 2
 refine zE ((A0 m).getD m) m (fun hm1=>⟨(sB ?_),Q6⟩) ?_
 rotate_left 2
 refine zE ((A0 m).getD m) m (fun hm1=>⟨(sB ?_),Q6⟩) ?_
 rotate_left 2
 refine zE ((A0 m).getD m) m (fun hm1=>⟨(sB ?_),Q6⟩) ?_
 rotate_left 2
 refine zE ((A0 m).getD m) m (fun hm1=>⟨(sB ?_),Q6⟩) ?_
 rotate_left 2
 refine dsp (fun h4 p4=>?_) fun h4 p4=>?_
 refine dsp (fun h5 p5=>?_) fun h5 p5=>?_
 refine⟨h2,dsp (fun h6 p6=>?_) fun h6 p6=>?_⟩
 refine⟨h5,dsp (fun h7 p7=>?_) fun h7 p7=>?_⟩
 refine⟨(Ed m.d Q2),dsp (fun h8 p8=>?_) fun h8 p8=>?_⟩
 refine⟨(Ad Q2 Q2),(Ad Q2 Q2),Q2,Q2,Q2,Q2,dsp (fun h9 p9=>?_) fun h9 p9=>?_⟩
 refine zE ((A0 m).getD m) (⟨(⟨m.d.plan,m.d.mode,List.take ((Int.toNat (((List.length m.d.stack:Nat):Int)-1))-0) m.d.stack,m.d.scan,m.d.start,m.d.at_,m.d.field,m.d.wire,m.d.want,m.d.utf,m.d.end_⟩:Dcd),m.out++[(⟨7,0,0,0,[],0,0⟩:Ev)]⟩:Mac) (fun hm1=>⟨(Fv (⟨(⟨m.d.plan,m.d.mode,List.take ((Int.toNat (((List.length m.d.stack:Nat):Int)-1))-0) m.d.stack,m.d.scan,m.d.start,m.d.at_,m.d.field,m.d.wire,m.d.want,m.d.utf,m.d.end_⟩:Dcd),m.out⟩:Mac) (⟨7,0,0,0,[],0,0⟩:Ev) Q7),(sB ?_),Q6⟩) ?_
 rotate_left 2
 refine zE ((A0 m).getD m) (⟨(⟨m.d.plan,1,List.take ((Int.toNat (((List.length m.d.stack:Nat):Int)-1))-0) m.d.stack,m.d.scan,m.d.start,m.d.at_,m.d.field,m.d.wire,m.d.want,m.d.utf,m.d.end_⟩:Dcd),m.out++[(⟨8,0,0,0,[],0,0⟩:Ev)]⟩:Mac) (fun hm1=>⟨(Fv (⟨(⟨m.d.plan,1,List.take ((Int.toNat (((List.length m.d.stack:Nat):Int)-1))-0) m.d.stack,m.d.scan,m.d.start,m.d.at_,m.d.field,m.d.wire,m.d.want,m.d.utf,m.d.end_⟩:Dcd),m.out⟩:Mac) (⟨8,0,0,0,[],0,0⟩:Ev) Q7),(sB ?_),Q6⟩) ?_
 rotate_left 2
 refine zE ((A0 m).getD m) m (fun hm1=>⟨(sB ?_),Q6⟩) ?_
 rotate_left 2
 refine zE ((A0 m).getD m) m (fun hm1=>⟨(sB ?_),Q6⟩) ?_
 rotate_left 2
 refine zE ((A0 m).getD m) m (fun hm1=>⟨(sB ?_),Q6⟩) ?_
 rotate_left 2
 refine dsp (fun h6 p6=>?_) fun h6 p6=>?_
 refine zE ((A0 m).getD m) m (fun hm1=>⟨h5,(sB ?_),Q6⟩) ?_
 rotate_left 2
 refine zE ((A0 m).getD m) m (fun hm1=>⟨(sB ?_),Q6⟩) ?_
 rotate_left 2
 refine dsp (fun h5 p5=>?_) fun h5 p5=>?_
 refine dsp (fun h6 p6=>?_) fun h6 p6=>?_
 refine dsp (fun h7 p7=>?_) fun h7 p7=>?_
 refine⟨(Ed m.d Q2),dsp (fun h8 p8=>?_) fun h8 p8=>?_⟩
 refine⟨(Ad Q2 Q2),(Ad Q2 Q2),Q2,Q2,Q2,Q2,dsp (fun h9 p9=>?_) fun h9 p9=>?_⟩
 refine zE ((A0 m).getD m) (⟨(⟨m.d.plan,m.d.mode,List.take ((Int.toNat (((List.length m.d.stack:Nat):Int)-1))-0) m.d.stack,m.d.scan,m.d.start,m.d.at_,m.d.field,m.d.wire,m.d.want,m.d.utf,m.d.end_⟩:Dcd),m.out++[(⟨7,0,0,0,[],0,0⟩:Ev)]⟩:Mac) (fun hm1=>⟨(Fv (⟨(⟨m.d.plan,m.d.mode,List.take ((Int.toNat (((List.length m.d.stack:Nat):Int)-1))-0) m.d.stack,m.d.scan,m.d.start,m.d.at_,m.d.field,m.d.wire,m.d.want,m.d.utf,m.d.end_⟩:Dcd),m.out⟩:Mac) (⟨7,0,0,0,[],0,0⟩:Ev) Q7),(sB ?_),Q6⟩) ?_
 rotate_left 2
 refine zE ((A0 m).getD m) (⟨(⟨m.d.plan,1,List.take ((Int.toNat (((List.length m.d.stack:Nat):Int)-1))-0) m.d.stack,m.d.scan,m.d.start,m.d.at_,m.d.field,m.d.wire,m.d.want,m.d.utf,m.d.end_⟩:Dcd),m.out++[(⟨8,0,0,0,[],0,0⟩:Ev)]⟩:Mac) (fun hm1=>⟨(Fv (⟨(⟨m.d.plan,1,List.take ((Int.toNat (((List.length m.d.stack:Nat):Int)-1))-0) m.d.stack,m.d.scan,m.d.start,m.d.at_,m.d.field,m.d.wire,m.d.want,m.d.utf,m.d.end_⟩:Dcd),m.out⟩:Mac) (⟨8,0,0,0,[],0,0⟩:Ev) Q7),(sB ?_),Q6⟩) ?_
 rotate_left 2
 refine zE ((A0 m).getD m) m (fun hm1=>⟨(sB ?_),Q6⟩) ?_
 rotate_left 2
 refine zE ((A0 m).getD m) m (fun hm1=>⟨(sB ?_),Q6⟩) ?_
 rotate_left 2
 refine zE ((A0 m).getD m) m (fun hm1=>⟨(sB ?_),Q6⟩) ?_
 rotate_left 2
 refine zE ((A0 m).getD m) m (fun hm1=>⟨(sB ?_),Q6⟩) ?_
 rotate_left 2
 refine dsp (fun h2 p2=>?_) fun h2 p2=>?_
 refine dsp (fun h3 p3=>?_) fun h3 p3=>?_
 refine zE ((A0 m).getD m) (⟨(⟨m.d.plan,2,m.d.stack,m.d.scan,m.d.start,m.d.at_,m.d.field,m.d.wire,0,m.d.utf,m.d.end_⟩:Dcd),m.out⟩:Mac) (fun hm1=>⟨(sB ?_),Q6⟩) ?_
 rotate_left 2
 refine dsp (fun h4 p4=>?_) fun h4 p4=>?_
 refine dsp (fun h5 p5=>?_) fun h5 p5=>?_
 refine dsp (fun h6 p6=>?_) fun h6 p6=>?_
 refine⟨(Ed m.d Q2),dsp (fun h7 p7=>?_) fun h7 p7=>?_⟩
 refine⟨(Ad Q2 Q2),(Ad Q2 Q2),Q2,Q2,Q2,Q2,dsp (fun h8 p8=>?_) fun h8 p8=>?_⟩
 refine zE ((A0 m).getD m) (⟨(⟨m.d.plan,m.d.mode,List.take ((Int.toNat (((List.length m.d.stack:Nat):Int)-1))-0) m.d.stack,m.d.scan,m.d.start,m.d.at_,m.d.field,m.d.wire,m.d.want,m.d.utf,m.d.end_⟩:Dcd),m.out++[(⟨7,0,0,0,[],0,0⟩:Ev)]⟩:Mac) (fun hm1=>⟨(Fv (⟨(⟨m.d.plan,m.d.mode,List.take ((Int.toNat (((List.length m.d.stack:Nat):Int)-1))-0) m.d.stack,m.d.scan,m.d.start,m.d.at_,m.d.field,m.d.wire,m.d.want,m.d.utf,m.d.end_⟩:Dcd),m.out⟩:Mac) (⟨7,0,0,0,[],0,0⟩:Ev) Q7),(sB ?_),Q6⟩) ?_
 rotate_left 2
 refine zE ((A0 m).getD m) (⟨(⟨m.d.plan,1,List.take ((Int.toNat (((List.length m.d.stack:Nat):Int)-1))-0) m.d.stack,m.d.scan,m.d.start,m.d.at_,m.d.field,m.d.wire,m.d.want,m.d.utf,m.d.end_⟩:Dcd),m.out++[(⟨8,0,0,0,[],0,0⟩:Ev)]⟩:Mac) (fun hm1=>⟨(Fv (⟨(⟨m.d.plan,1,List.take ((Int.toNat (((List.length m.d.stack:Nat):Int)-1))-0) m.d.stack,m.d.scan,m.d.start,m.d.at_,m.d.field,m.d.wire,m.d.want,m.d.utf,m.d.end_⟩:Dcd),m.out⟩:Mac) (⟨8,0,0,0,[],0,0⟩:Ev) Q7),(sB ?_),Q6⟩) ?_
 rotate_left 2
 refine zE ((A0 m).getD m) m (fun hm1=>⟨(sB ?_),Q6⟩) ?_
 rotate_left 2
 refine zE ((A0 m).getD m) m (fun hm1=>⟨(sB ?_),Q6⟩) ?_
 rotate_left 2
 refine zE ((A0 m).getD m) m (fun hm1=>⟨(sB ?_),Q6⟩) ?_
 rotate_left 2
 refine zE ((A0 m).getD m) m (fun hm1=>⟨(sB ?_),Q6⟩) ?_
 rotate_left 2
 refine dsp (fun h3 p3=>?_) fun h3 p3=>?_
 refine dsp (fun h4 p4=>?_) fun h4 p4=>?_
 refine dsp (fun h5 p5=>?_) fun h5 p5=>?_
 refine zE ((A0 m).getD m) (⟨(⟨m.d.plan,2,m.d.stack,m.d.scan,m.d.start,m.d.at_,m.d.field,m.d.wire,0,m.d.utf,m.d.end_⟩:Dcd),m.out⟩:Mac) (fun hm1=>⟨(sB ?_),Q6⟩) ?_
 rotate_left 2
 refine dsp (fun h6 p6=>?_) fun h6 p6=>?_
 refine⟨h4,dsp (fun h7 p7=>?_) fun h7 p7=>?_⟩
 refine⟨(Ed m.d Q2),dsp (fun h8 p8=>?_) fun h8 p8=>?_⟩
 refine⟨(Ad Q2 Q2),(Ad Q2 Q2),Q2,Q2,Q2,Q2,dsp (fun h9 p9=>?_) fun h9 p9=>?_⟩
 refine zE ((A0 m).getD m) (⟨(⟨m.d.plan,m.d.mode,List.take ((Int.toNat (((List.length m.d.stack:Nat):Int)-1))-0) m.d.stack,m.d.scan,m.d.start,m.d.at_,m.d.field,m.d.wire,m.d.want,m.d.utf,m.d.end_⟩:Dcd),m.out++[(⟨7,0,0,0,[],0,0⟩:Ev)]⟩:Mac) (fun hm1=>⟨(Fv (⟨(⟨m.d.plan,m.d.mode,List.take ((Int.toNat (((List.length m.d.stack:Nat):Int)-1))-0) m.d.stack,m.d.scan,m.d.start,m.d.at_,m.d.field,m.d.wire,m.d.want,m.d.utf,m.d.end_⟩:Dcd),m.out⟩:Mac) (⟨7,0,0,0,[],0,0⟩:Ev) Q7),(sB ?_),Q6⟩) ?_
 rotate_left 2
 refine zE ((A0 m).getD m) (⟨(⟨m.d.plan,1,List.take ((Int.toNat (((List.length m.d.stack:Nat):Int)-1))-0) m.d.stack,m.d.scan,m.d.start,m.d.at_,m.d.field,m.d.wire,m.d.want,m.d.utf,m.d.end_⟩:Dcd),m.out++[(⟨8,0,0,0,[],0,0⟩:Ev)]⟩:Mac) (fun hm1=>⟨(Fv (⟨(⟨m.d.plan,1,List.take ((Int.toNat (((List.length m.d.stack:Nat):Int)-1))-0) m.d.stack,m.d.scan,m.d.start,m.d.at_,m.d.field,m.d.wire,m.d.want,m.d.utf,m.d.end_⟩:Dcd),m.out⟩:Mac) (⟨8,0,0,0,[],0,0⟩:Ev) Q7),(sB ?_),Q6⟩) ?_
 rotate_left 2
 refine zE ((A0 m).getD m) m (fun hm1=>⟨(sB ?_),Q6⟩) ?_
 rotate_left 2
 refine zE ((A0 m).getD m) m (fun hm1=>⟨(sB ?_),Q6⟩) ?_
 rotate_left 2
 refine zE ((A0 m).getD m) m (fun hm1=>⟨(sB ?_),Q6⟩) ?_
 rotate_left 2
 refine dsp (fun h5 p5=>?_) fun h5 p5=>?_
 refine zE ((A0 m).getD m) m (fun hm1=>⟨h4,(sB ?_),Q6⟩) ?_
 rotate_left 2
 refine zE ((A0 m).getD m) m (fun hm1=>⟨(sB ?_),Q6⟩) ?_
 rotate_left 2
 refine dsp (fun h4 p4=>?_) fun h4 p4=>?_
 refine dsp (fun h5 p5=>?_) fun h5 p5=>?_
 refine dsp (fun h6 p6=>?_) fun h6 p6=>?_
 refine⟨(Ed m.d Q2),dsp (fun h7 p7=>?_) fun h7 p7=>?_⟩
 refine⟨(Ad Q2 Q2),(Ad Q2 Q2),Q2,Q2,Q2,Q2,dsp (fun h8 p8=>?_) fun h8 p8=>?_⟩
 refine zE ((A0 m).getD m) (⟨(⟨m.d.plan,m.d.mode,List.take ((Int.toNat (((List.length m.d.stack:Nat):Int)-1))-0) m.d.stack,m.d.scan,m.d.start,m.d.at_,m.d.field,m.d.wire,m.d.want,m.d.utf,m.d.end_⟩:Dcd),m.out++[(⟨7,0,0,0,[],0,0⟩:Ev)]⟩:Mac) (fun hm1=>⟨(Fv (⟨(⟨m.d.plan,m.d.mode,List.take ((Int.toNat (((List.length m.d.stack:Nat):Int)-1))-0) m.d.stack,m.d.scan,m.d.start,m.d.at_,m.d.field,m.d.wire,m.d.want,m.d.utf,m.d.end_⟩:Dcd),m.out⟩:Mac) (⟨7,0,0,0,[],0,0⟩:Ev) Q7),(sB ?_),Q6⟩) ?_
 rotate_left 2
 refine zE ((A0 m).getD m) (⟨(⟨m.d.plan,1,List.take ((Int.toNat (((List.length m.d.stack:Nat):Int)-1))-0) m.d.stack,m.d.scan,m.d.start,m.d.at_,m.d.field,m.d.wire,m.d.want,m.d.utf,m.d.end_⟩:Dcd),m.out++[(⟨8,0,0,0,[],0,0⟩:Ev)]⟩:Mac) (fun hm1=>⟨(Fv (⟨(⟨m.d.plan,1,List.take ((Int.toNat (((List.length m.d.stack:Nat):Int)-1))-0) m.d.stack,m.d.scan,m.d.start,m.d.at_,m.d.field,m.d.wire,m.d.want,m.d.utf,m.d.end_⟩:Dcd),m.out⟩:Mac) (⟨8,0,0,0,[],0,0⟩:Ev) Q7),(sB ?_),Q6⟩) ?_
 rotate_left 2
 refine zE ((A0 m).getD m) m (fun hm1=>⟨(sB ?_),Q6⟩) ?_
 rotate_left 2
 refine zE ((A0 m).getD m) m (fun hm1=>⟨(sB ?_),Q6⟩) ?_
 rotate_left 2
 refine zE ((A0 m).getD m) m (fun hm1=>⟨(sB ?_),Q6⟩) ?_
 rotate_left 2
 refine zE ((A0 m).getD m) m (fun hm1=>⟨(sB ?_),Q6⟩) ?_
 rotate_left 2
 all_goals first|(simp_all[A0,Az,A9,Wp,Akr,Ln,utf0];done)|(grind[A0,Az,A9,Wp,Akr,Ln,utf0])
end Go.Proofs.YtphecbmdhbphgaaGreat.Ax
