/- Whole inputs. Whole inputs: results of their own. Models: merged events. Models: merged prefixes. Bytes and last events. The law FnBoundary. -/
import Derived.Test.YtijacopaadmncaaGreatKS3
import Derived.Test.YtijacopaadmncaaGreatKS1
import Derived.Test.YtijacopaadmncaaGreatKS6
import Derived.Test.YtijacopaadmncaaGreatKS5
set_option linter.unusedSimpArgs false
set_option linter.unusedVariables false
namespace Go.Proofs.YtijacopaadmncaaGreat.Ax
open Go.RowKit
structure parsed_i_V0 where
 r:Mr
 ends:List Int
def parsed_i_F0 (p:Pln) (s:List UInt8):Fam:=⟨parsed_i_V0,fun q1=>[(1,.v (vT s)),(2,.v (vP 0)),(6,.v (vP 1)),(7,.v (vO 3))],fun q1=>[.cells (Dm p),.cells (Bp 2 q1.r),.lst .ev q1.r.out,.lst .int q1.ends],fun q1=>WInv (wh0 p s) ⟨q1.r,q1.ends⟩∧(q1.r).fail.kind=0,fun q1=>Fi q1.r⟩
theorem parsed_i (p:Pln) (s:List UInt8) (hp1:Bo p=true) (hp2:s.length≤4000):Fun Tryz.prog 58 [.agg (Dm p),vT s] [] (.tup [vO 0,vO 1]) [.lst .ev (Bs p s),.lst .int (Ce p s).ends]:=by
 have hN:Bg=274877906944:=rfl
 have hpt:=C3 hp1
 refine Ap Tryz.func58 Q5 Q5 (w:=let zi:Int→C:= .int .i64;let z13:=([(1,.v (vT s)),(2,.v (vP 0)),(6,.v (vP 1)),(7,.v (vO 3))]:List (Nat×S))=[(1,.v (vT s)),(2,.v (vP 0)),(6,.v (vP 1)),(7,.v (vO 3))];let z14:List Blk:=[.lst .ev (Bs p s),.lst .int (Ce p s).ends];let z15:=fr (.first 10 (.one 8 (.one 9 (.first 11 (.first 12 (.done)))))) 0 8;let z16:S:= .tup [vO 0,vO 1];let z17:=(⟨8,0,0,0,[],0,0⟩:Ev);let z18:=(⟨9,0,0,0,[],0,(s.length:Int)⟩:Ev);let z19:=parsed_i_F0 p s;(.seg [.ty .int,.at 0,.mk 1 6 .ev,.keep [1,2,6,7],.sel [0,1,3,2]] (.loop z19 fun q1=>let z2:=Aa q1.r 9223372036854775807;let z1:=(⟨z2.plan,z2.s,z2.at_,z2.out++[(⟨1,0,0,Ae q1.r 9223372036854775807,[],0,0⟩:Ev)],z2.fail⟩:Mr);let z4:=Ae q1.r 9223372036854775807;let z3:=Cj (Int.toNat ((z1).plan.deep-1)) p.root (z2.at_+z4) z1;.br (.seg [.call [1,2] (.tup [.c (.int .u64 z4),vB (Aw q1.r 9223372036854775807)]) [.cells (Bp 1 z2),.lst .ev z2.out]] (.br (.seg [.as 37 (.v (.c (.int .u64 p.most)))] (.br (.seg [.call [1,2] (.v (vB false)) [.cells (Bp 1 (Ay z2 7 q1.r.at_)),.lst .ev (Ay z2 7 q1.r.at_).out],.br false,.br true,.tree z15 9 [],.ty .ev,.ty .ev] (.leaf () [5,3])) (.seg [.br true,.as 50 (.v (vI z4)),.ty .ev,.ty .ev,.tree (fr (.one 10 (.first 11 (.done))) 0 10) 10 [],.as 64 (.v (vI z4)),.as 65 (.v (vI (z2.at_+z4))),.call [1,5] (.v (vB (decide (z3.fail.kind=0)))) [.cells (Bp 2 z3),.dead,.lst .ev z3.out]] (.br (.seg [.tree z15 9 [],.ty .ev,.ty .ev] (.leaf () [8,3])) (.seg [.tree (fr (fr (.two 6 (.two 7 (.one 13 (.one 14 (.first 15 (.first 16 (.one 17 (.first 18 (.done))))))) 13 (.one 7 (.one 14 (.first 15 (.first 16 (.one 17 (.first 18 (.done)))))))) 13 (.one 6 (.one 7 (.one 14 (.first 15 (.first 16 (.one 17 (.first 18 (.done))))))))) 8 5) 0 6) 17 [3,6],.ty .ev,.ty .ev,.ty .int,.ty .int,.at 0,.keep [1,2,6,7],.sel [0,1,8,10],.ty .int,.ty .ev,.ty .int,.at 0,.keep [1,2,6,7],.sel [0,1,9,10],.ty .int,.ty .ev,.ty .ev,.ty .int,.at 0,.keep [1,2,6,7],.sel [0,1,9,10],.at 0,.keep [1,2,6,7],.sel [0,1,2,3]] (.next)))))) (.seg [.br false,.br true,.tree z15 9 [],.ty .ev,.ty .ev] (.leaf () [5,3])))) (.seg [.ty .ev,.ty .ev] (.leaf () [5,3]))),z19.Has [(1,.v (vT s)),(2,.v (vP 0)),(6,.v (vP 1)),(7,.v (vO 3))] [.cells (Dm p),.cells [.seq .shp p.shapes,zi p.root,zi p.deep,zi p.most,.str s,zi 0,.own 2,zi 0,zi 0,.int .u64 0,zi 0,.str [],zi 0,zi 0],.lst .ev ([]:List Ev),.lst .int [0]]∧∀q1,z19.inv q1→(let z6:=Aa q1.r 9223372036854775807;let z8:=Ae q1.r 9223372036854775807;let z9:=(⟨1,0,0,Ae q1.r 9223372036854775807,[],0,0⟩:Ev);let z5:=Cj (Int.toNat (((⟨z6.plan,z6.s,z6.at_,z6.out++[z9],z6.fail⟩:Mr)).plan.deep-1)) p.root (z6.at_+z8) (⟨z6.plan,z6.s,z6.at_,z6.out++[z9],z6.fail⟩:Mr);let z7:List Blk:=[.cells (Dm p),.cells (Bp 2 z5),.lst .ev (z5.out++[z17]),.lst .int (q1.ends++[z5.at_])];let z10:=Aw q1.r 9223372036854775807;let z11:=q1.ends.length+List.length [z5.at_]≤Bg;let z12:=Ay z6 7 q1.r.at_;Bc (decide (q1.r.at_<(s.length:Int))) ((Fp 110 [vP 0,vI 9223372036854775807] [.cells (Bp 1 q1.r),.lst .ev q1.r.out] (.tup [.c (.int .u64 z8),vB z10]) [.cells (Bp 1 z6),.lst .ev z6.out])∧Bc z10 ((wU (p.most))∧Bc (decide (p.most<Ae q1.r 9223372036854775807)) ((Fp 111 [vP 0,vI 7,vI q1.r.at_] [.cells (Bp 1 z6),.lst .ev z6.out] (.v (vB false)) [.cells (Bp 1 z12),.lst .ev z12.out])∧(false=false)∧((!false)=true)∧(z12.out.length+List.length [z12.fail]≤Bg)∧Lf z16 z16 [.lst .ev (z12.out++[z12.fail]),.lst .int q1.ends] z14) ((z10=true)∧(wI z8)∧(z6.out.length+List.length [z9]≤Bg)∧(wI z8)∧(wI z8)∧(wI (z6.at_+z8))∧(wI (z6.at_+z8))∧(Fp 70 [vP 0,vI p.root,vI (z6.at_+z8),vI 1] [.cells (Bp 1 z6),.lst .ev (z6.out++[z9])] (.v (vB (decide (z5.fail.kind=0)))) [.cells (Bp 2 z5),.dead,.lst .ev z5.out])∧Bc (!(decide (z5.fail.kind=0))) ((z5.out.length+List.length [z5.fail]≤Bg)∧Lf z16 z16 [.lst .ev (z5.out++[z5.fail]),.lst .int q1.ends] z14) ((z5.out.length+List.length [z17]≤Bg)∧z11∧(z5.out.length+List.length [z17]≤Bg)∧z11∧((z7:List Blk)=z7)∧z13∧(z5.out.length+List.length [z17]≤Bg)∧z11∧((z7:List Blk)=z7)∧z13∧z19.Nxt q1 [(1,.v (vT s)),(2,.v (vP 0)),(6,.v (vP 1)),(7,.v (vO 3))] z7))) ((z10=false)∧((!z10)=true)∧(z6.out.length+List.length [z6.fail]≤Bg)∧Lf z16 z16 [.lst .ev (z6.out++[z6.fail]),.lst .int q1.ends] z14)) ((q1.r.out.length+List.length [z18]≤Bg)∧Lf z16 z16 [.lst .ev (q1.r.out++[z18]),.lst .int q1.ends] z14)))) Q5 ?_
 refine⟨Ca (j:=(⟨(⟨p,s,0,([]:List Ev),(⟨0,0,0,0,[],0,0⟩:Ev)⟩:Mr),[0]⟩:parsed_i_V0)) rfl Q7 (by dsimp only[parsed_i_F0];exact⟨WInv.refl,rfl⟩),fun (q1:parsed_i_V0) hq_q1=>?_⟩
 have hi_q1:WInv (wh0 p s) ⟨q1.r,q1.ends⟩∧(q1.r).fail.kind=0:=hq_q1
 have hfl:=hi_q1.2
 have hrm:=hi_q1.1.room hfl
 have hen:=hi_q1.1.ends hfl
 dsimp only at hrm hen
 have hfe:=R5 q1.r
 have hfm:=Us q1.r
 have hqs:=congrArg List.length hrm.1
 obtain ⟨hv,hv2,hv3⟩:=Ck (r:=q1.r) (e:=9223372036854775807) (by omega)
 have hvk:=Bz (r:=q1.r) (e:=9223372036854775807) hfl
 have hu:=Em q1.r 9223372036854775807
 have hvs:=congrArg List.length hv.1.s
 have hvo:=congrArg List.length hv3
 have hvp:=hv.1.plan
 have hpl:=hvp.trans hrm.2.1
 refine dsp (fun h1 p1=>?_) fun h1 p1=>?_
 refine⟨(Jn q1.r _ Q2),fun h2=>?_,fun h2=>?_⟩
 have hok:Aw q1.r 9223372036854775807=true:=h2
 have hk:(Aa q1.r 9223372036854775807).fail.kind=0:=by rw[hvk] at hok;simpa using hok
 have ha:=hv.1.at_ hk
 have hb:=hv.2 hk
 have hto:=hv2 hok
 refine⟨(Bx Q2 Q2),dsp (fun h3 p3=>?_) fun h3 p3=>?_⟩
 refine⟨(Fo (Aa q1.r 9223372036854775807) _ _),Q21,Q21,(by simp only[List.length_cons,List.length_nil,List.length_append,List.length_cons,List.length_nil,Ay];omega),rfl,(Af (congrArg (Blk.lst .ev) ?_) (Af (congrArg (Blk.lst .int) ?_) rfl))⟩
 rotate_left 2
 refine⟨h2,(Ac Q2 Q2),Q6,(Ac Q2 Q2),(Ac Q2 Q2),(Ac Q2 Q2),(Ac Q2 Q2),(Ag6 (⟨(Aa q1.r 9223372036854775807).plan,(Aa q1.r 9223372036854775807).s,(Aa q1.r 9223372036854775807).at_,(Aa q1.r 9223372036854775807).out++[(⟨1,0,0,Ae q1.r 9223372036854775807,[],0,0⟩:Ev)],(Aa q1.r 9223372036854775807).fail⟩:Mr) _ _ _ Q6 Q6 (hk) Q6 Q6 Q2 (by rw[hpl];exact hp1) Q59),fun h4=>have q4:=As h4;have p4:=of_decide_eq_false q4;?_,fun h4=>have q4:=Aq h4;have p4:=of_decide_eq_true q4;?_⟩
 have hfx:Bu q1.r=(Cj (Int.toNat (((⟨(Aa q1.r 9223372036854775807).plan,(Aa q1.r 9223372036854775807).s,(Aa q1.r 9223372036854775807).at_,(Aa q1.r 9223372036854775807).out++[(⟨1,0,0,Ae q1.r 9223372036854775807,[],0,0⟩:Ev)],(Aa q1.r 9223372036854775807).fail⟩:Mr)).plan.deep-1)) p.root ((Aa q1.r 9223372036854775807).at_+(Ae q1.r 9223372036854775807)) (⟨(Aa q1.r 9223372036854775807).plan,(Aa q1.r 9223372036854775807).s,(Aa q1.r 9223372036854775807).at_,(Aa q1.r 9223372036854775807).out++[(⟨1,0,0,Ae q1.r 9223372036854775807,[],0,0⟩:Ev)],(Aa q1.r 9223372036854775807).fail⟩:Mr)):=by rw[hfm];simp only[B1,Ag,hvp,hrm.2.1]
 have hfs:frmStep q1.r=Bu q1.r:=by rw[hfe,if_neg (by simp[hok]),if_neg (by rw[hrm.2.1];exact p3),if_neg (by rw[hfx];exact p4)]
 have hwh:Ce p s=⟨(Cj (Int.toNat (((⟨(Aa q1.r 9223372036854775807).plan,(Aa q1.r 9223372036854775807).s,(Aa q1.r 9223372036854775807).at_,(Aa q1.r 9223372036854775807).out++[(⟨1,0,0,Ae q1.r 9223372036854775807,[],0,0⟩:Ev)],(Aa q1.r 9223372036854775807).fail⟩:Mr)).plan.deep-1)) p.root ((Aa q1.r 9223372036854775807).at_+(Ae q1.r 9223372036854775807)) (⟨(Aa q1.r 9223372036854775807).plan,(Aa q1.r 9223372036854775807).s,(Aa q1.r 9223372036854775807).at_,(Aa q1.r 9223372036854775807).out++[(⟨1,0,0,Ae q1.r 9223372036854775807,[],0,0⟩:Ev)],(Aa q1.r 9223372036854775807).fail⟩:Mr)),q1.ends⟩:=hi_q1.1.leave (by show q1.r.at_<_;omega) hfl (by unfold Cd;simp only[hfs,hfx];rw[if_neg p4]) p4
 refine⟨(Ef Q6 Q6),rfl,(Af (congrArg (Blk.lst .ev) ?_) (Af (congrArg (Blk.lst .int) ?_) rfl))⟩
 rotate_left 2
 have hfx:Bu q1.r=(Cj (Int.toNat (((⟨(Aa q1.r 9223372036854775807).plan,(Aa q1.r 9223372036854775807).s,(Aa q1.r 9223372036854775807).at_,(Aa q1.r 9223372036854775807).out++[(⟨1,0,0,Ae q1.r 9223372036854775807,[],0,0⟩:Ev)],(Aa q1.r 9223372036854775807).fail⟩:Mr)).plan.deep-1)) p.root ((Aa q1.r 9223372036854775807).at_+(Ae q1.r 9223372036854775807)) (⟨(Aa q1.r 9223372036854775807).plan,(Aa q1.r 9223372036854775807).s,(Aa q1.r 9223372036854775807).at_,(Aa q1.r 9223372036854775807).out++[(⟨1,0,0,Ae q1.r 9223372036854775807,[],0,0⟩:Ev)],(Aa q1.r 9223372036854775807).fail⟩:Mr)):=by rw[hfm];simp only[B1,Ag,hvp,hrm.2.1]
 have hfs:frmStep q1.r=Ag (Bu q1.r) frameEndEv:=by rw[hfe,if_neg (by simp[hok]),if_neg (by rw[hrm.2.1];exact p3),if_pos (by rw[hfx];exact p4)]
 have hst:Cd ⟨q1.r,q1.ends⟩=⟨Ag (Cj (Int.toNat (((⟨(Aa q1.r 9223372036854775807).plan,(Aa q1.r 9223372036854775807).s,(Aa q1.r 9223372036854775807).at_,(Aa q1.r 9223372036854775807).out++[(⟨1,0,0,Ae q1.r 9223372036854775807,[],0,0⟩:Ev)],(Aa q1.r 9223372036854775807).fail⟩:Mr)).plan.deep-1)) p.root ((Aa q1.r 9223372036854775807).at_+(Ae q1.r 9223372036854775807)) (⟨(Aa q1.r 9223372036854775807).plan,(Aa q1.r 9223372036854775807).s,(Aa q1.r 9223372036854775807).at_,(Aa q1.r 9223372036854775807).out++[(⟨1,0,0,Ae q1.r 9223372036854775807,[],0,0⟩:Ev)],(Aa q1.r 9223372036854775807).fail⟩:Mr)) frameEndEv,q1.ends++[(Cj (Int.toNat (((⟨(Aa q1.r 9223372036854775807).plan,(Aa q1.r 9223372036854775807).s,(Aa q1.r 9223372036854775807).at_,(Aa q1.r 9223372036854775807).out++[(⟨1,0,0,Ae q1.r 9223372036854775807,[],0,0⟩:Ev)],(Aa q1.r 9223372036854775807).fail⟩:Mr)).plan.deep-1)) p.root ((Aa q1.r 9223372036854775807).at_+(Ae q1.r 9223372036854775807)) (⟨(Aa q1.r 9223372036854775807).plan,(Aa q1.r 9223372036854775807).s,(Aa q1.r 9223372036854775807).at_,(Aa q1.r 9223372036854775807).out++[(⟨1,0,0,Ae q1.r 9223372036854775807,[],0,0⟩:Ev)],(Aa q1.r 9223372036854775807).fail⟩:Mr)).at_]⟩:=by unfold Cd;simp only[hfs,hfx];rw[if_pos (show (Ag (Cj (Int.toNat (((⟨(Aa q1.r 9223372036854775807).plan,(Aa q1.r 9223372036854775807).s,(Aa q1.r 9223372036854775807).at_,(Aa q1.r 9223372036854775807).out++[(⟨1,0,0,Ae q1.r 9223372036854775807,[],0,0⟩:Ev)],(Aa q1.r 9223372036854775807).fail⟩:Mr)).plan.deep-1)) p.root ((Aa q1.r 9223372036854775807).at_+(Ae q1.r 9223372036854775807)) (⟨(Aa q1.r 9223372036854775807).plan,(Aa q1.r 9223372036854775807).s,(Aa q1.r 9223372036854775807).at_,(Aa q1.r 9223372036854775807).out++[(⟨1,0,0,Ae q1.r 9223372036854775807,[],0,0⟩:Ev)],(Aa q1.r 9223372036854775807).fail⟩:Mr)) frameEndEv).fail.kind=0 from p4)];try rfl
 exact⟨(Ef Q6 Q6),Q4,(Ef Q6 Q6),Q4,rfl,rfl,(Ef Q6 Q6),Q4,rfl,rfl,A5 (j:=(⟨(⟨(Cj (Int.toNat (((⟨(Aa q1.r 9223372036854775807).plan,(Aa q1.r 9223372036854775807).s,(Aa q1.r 9223372036854775807).at_,(Aa q1.r 9223372036854775807).out++[(⟨1,0,0,Ae q1.r 9223372036854775807,[],0,0⟩:Ev)],(Aa q1.r 9223372036854775807).fail⟩:Mr)).plan.deep-1)) p.root ((Aa q1.r 9223372036854775807).at_+(Ae q1.r 9223372036854775807)) (⟨(Aa q1.r 9223372036854775807).plan,(Aa q1.r 9223372036854775807).s,(Aa q1.r 9223372036854775807).at_,(Aa q1.r 9223372036854775807).out++[(⟨1,0,0,Ae q1.r 9223372036854775807,[],0,0⟩:Ev)],(Aa q1.r 9223372036854775807).fail⟩:Mr)).plan,(Cj (Int.toNat (((⟨(Aa q1.r 9223372036854775807).plan,(Aa q1.r 9223372036854775807).s,(Aa q1.r 9223372036854775807).at_,(Aa q1.r 9223372036854775807).out++[(⟨1,0,0,Ae q1.r 9223372036854775807,[],0,0⟩:Ev)],(Aa q1.r 9223372036854775807).fail⟩:Mr)).plan.deep-1)) p.root ((Aa q1.r 9223372036854775807).at_+(Ae q1.r 9223372036854775807)) (⟨(Aa q1.r 9223372036854775807).plan,(Aa q1.r 9223372036854775807).s,(Aa q1.r 9223372036854775807).at_,(Aa q1.r 9223372036854775807).out++[(⟨1,0,0,Ae q1.r 9223372036854775807,[],0,0⟩:Ev)],(Aa q1.r 9223372036854775807).fail⟩:Mr)).s,(Cj (Int.toNat (((⟨(Aa q1.r 9223372036854775807).plan,(Aa q1.r 9223372036854775807).s,(Aa q1.r 9223372036854775807).at_,(Aa q1.r 9223372036854775807).out++[(⟨1,0,0,Ae q1.r 9223372036854775807,[],0,0⟩:Ev)],(Aa q1.r 9223372036854775807).fail⟩:Mr)).plan.deep-1)) p.root ((Aa q1.r 9223372036854775807).at_+(Ae q1.r 9223372036854775807)) (⟨(Aa q1.r 9223372036854775807).plan,(Aa q1.r 9223372036854775807).s,(Aa q1.r 9223372036854775807).at_,(Aa q1.r 9223372036854775807).out++[(⟨1,0,0,Ae q1.r 9223372036854775807,[],0,0⟩:Ev)],(Aa q1.r 9223372036854775807).fail⟩:Mr)).at_,(Cj (Int.toNat (((⟨(Aa q1.r 9223372036854775807).plan,(Aa q1.r 9223372036854775807).s,(Aa q1.r 9223372036854775807).at_,(Aa q1.r 9223372036854775807).out++[(⟨1,0,0,Ae q1.r 9223372036854775807,[],0,0⟩:Ev)],(Aa q1.r 9223372036854775807).fail⟩:Mr)).plan.deep-1)) p.root ((Aa q1.r 9223372036854775807).at_+(Ae q1.r 9223372036854775807)) (⟨(Aa q1.r 9223372036854775807).plan,(Aa q1.r 9223372036854775807).s,(Aa q1.r 9223372036854775807).at_,(Aa q1.r 9223372036854775807).out++[(⟨1,0,0,Ae q1.r 9223372036854775807,[],0,0⟩:Ev)],(Aa q1.r 9223372036854775807).fail⟩:Mr)).out++[(⟨8,0,0,0,[],0,0⟩:Ev)],(Cj (Int.toNat (((⟨(Aa q1.r 9223372036854775807).plan,(Aa q1.r 9223372036854775807).s,(Aa q1.r 9223372036854775807).at_,(Aa q1.r 9223372036854775807).out++[(⟨1,0,0,Ae q1.r 9223372036854775807,[],0,0⟩:Ev)],(Aa q1.r 9223372036854775807).fail⟩:Mr)).plan.deep-1)) p.root ((Aa q1.r 9223372036854775807).at_+(Ae q1.r 9223372036854775807)) (⟨(Aa q1.r 9223372036854775807).plan,(Aa q1.r 9223372036854775807).s,(Aa q1.r 9223372036854775807).at_,(Aa q1.r 9223372036854775807).out++[(⟨1,0,0,Ae q1.r 9223372036854775807,[],0,0⟩:Ev)],(Aa q1.r 9223372036854775807).fail⟩:Mr)).fail⟩:Mr),q1.ends++[(Cj (Int.toNat (((⟨(Aa q1.r 9223372036854775807).plan,(Aa q1.r 9223372036854775807).s,(Aa q1.r 9223372036854775807).at_,(Aa q1.r 9223372036854775807).out++[(⟨1,0,0,Ae q1.r 9223372036854775807,[],0,0⟩:Ev)],(Aa q1.r 9223372036854775807).fail⟩:Mr)).plan.deep-1)) p.root ((Aa q1.r 9223372036854775807).at_+(Ae q1.r 9223372036854775807)) (⟨(Aa q1.r 9223372036854775807).plan,(Aa q1.r 9223372036854775807).s,(Aa q1.r 9223372036854775807).at_,(Aa q1.r 9223372036854775807).out++[(⟨1,0,0,Ae q1.r 9223372036854775807,[],0,0⟩:Ev)],(Aa q1.r 9223372036854775807).fail⟩:Mr)).at_]⟩:parsed_i_V0)) rfl Q7 (by dsimp only[parsed_i_F0];exact⟨(hi_q1.1.next (by show q1.r.at_<_;omega) hfl hst).1,p4⟩) (by dsimp only[parsed_i_F0];exact(hi_q1.1.next (by show q1.r.at_<_;omega) hfl hst).2)⟩
 have hok:Aw q1.r 9223372036854775807=false:=h2
 refine⟨h2,(Qu h2),Q4,rfl,(Af (congrArg (Blk.lst .ev) ?_) (Af (congrArg (Blk.lst .int) ?_) rfl))⟩
 rotate_left 2
 refine⟨Q6,rfl,(Af (congrArg (Blk.lst .ev) ?_) (Af (congrArg (Blk.lst .int) ?_) rfl))⟩
 rotate_left 2
 all_goals first|((rw[Bs,hwh];exact congrArg (_++[·]) (if_neg (by assumption))))|((rw[hwh];done))|((rw[Bs,hi_q1.1.end_ (by show¬q1.r.at_<_;omega)];simp[hfl,K9];done))|((rw[hi_q1.1.end_ (by show¬q1.r.at_<_;omega)];done))|((have hw:=hi_q1.1.leave (by show q1.r.at_<_;omega) hfl (rfl) (by show (frmStep q1.r).fail.kind≠0;grind (ematch:=20) (gen:=20) [Cd,Ag,Ay,Bd,B1,frameEndEv]);rw[Bs,hw];grind (ematch:=20) (gen:=20) [Cd,Ag,Ay,Bd,B1,frameEndEv]))|((have hw:=hi_q1.1.leave (by show q1.r.at_<_;omega) hfl (rfl) (by show (frmStep q1.r).fail.kind≠0;grind (ematch:=20) (gen:=20) [Cd,Ag,Ay,Bd,B1,frameEndEv]);rw[hw];grind (ematch:=20) (gen:=20) [Cd,Ag,Ay,Bd,B1,frameEndEv]))
theorem whole_i (p:Pln) (s:List UInt8) (hp1:s.length≤1048576):Fun Tryz.prog 18 [.agg (Dm p),vT s] [] (.v (.c (.seq .ev (Az p s)))) []:=by
 have hN:Bg=274877906944:=rfl
 refine Ap Tryz.func18 Q5 Q5 (w:=let z2:List Blk:=[.lst .ev (Bs p s),.lst .int (Ce p s).ends];let z3:S:= .v (.c (.seq .ev (Az p s)));let z1:=Lf (.v (.c (.seq .ev ([]:List Ev)))) z3 [] [];(.seg [.call [] (.v (vB (Bo p))) []] (.br (.seg [.at 0,.mkS 4 .ev,.pubS 4] (.leaf () [])) (.br (.seg [.at 0,.mkS 4 .ev,.pubS 4] (.leaf () [])) (.seg [.call [] (.tup [vO 0,vO 1]) z2,.at 0,.pubS 4] (.leaf () [])))),(Fp 57 [.agg (Dm p)] [] (.v (vB (Bo p))) [])∧Bc (!(Bo p)) z1 (Bc (decide (4000<(s.length:Int))) z1 ((Fp 58 [.agg (Dm p),vT s] [] (.tup [vO 0,vO 1]) z2)∧Lf (.v (.c (.seq .ev (Bs p s)))) z3 [] [])))) Q5 ?_
 refine⟨(L3 p),fun h1=>have q1:=As h1;?_,fun h1=>have q1:=Aq h1;have p1:=C3 q1;?_⟩
 refine⟨(congrArg S.v (congrArg V.c (congrArg (C.seq .ev) ?_))),rfl⟩
 rotate_left
 refine dsp (fun h2 p2=>?_) fun h2 p2=>?_
 refine⟨(congrArg S.v (congrArg V.c (congrArg (C.seq .ev) ?_))),rfl⟩
 rotate_left
 have hwl:Az p s=Bs p s:=by unfold Az;rw[if_pos ⟨by simp_all,by omega⟩]
 refine⟨(parsed_i p _ Q2 Q2),(congrArg S.v (congrArg V.c (congrArg (C.seq .ev) ?_))),rfl⟩
 rotate_left
 all_goals first|(simp_all[Az];done)|(grind[Az])
theorem framesIn_i (p:Pln) (s:List UInt8) (hp1:s.length≤1048576):Fun Tryz.prog 15 [.agg (Dm p),vT s] [] (.v (vI (En p s))) []:=by
 have hN:Bg=274877906944:=rfl
 have hwm:List.length (Az p s)≤16001:=by unfold Az;split;exact Pb (by omega);simp
 refine Ap Tryz.func15 Q5 Q5 (w:=let z1:S:= .v (vI (Lm (Az p s) 8));let z2:S:= .v (.c (.seq .ev (Az p s)));(.seg [.call [] z2 [],.call [] z1 []] (.leaf () []),(Fp 18 [.agg (Dm p),vT s] [] z2 [])∧(Fp 60 [.c (.seq .ev (Az p s)),vI 8] [] z1 [])∧Lf z1 (.v (vI (En p s))) [] [])) Q5 ?_
 exact⟨(whole_i p _ Q2),(Aii _ _ Q2),(congrArg S.v (congrArg V.c (congrArg (C.int .i64) (by rfl)))),rfl⟩
def boundsL (p:Pln) (s:List UInt8):List Int:=if Bo p=true∧(s.length:Int)≤4000 then (Ce p s).ends else []
theorem whole_o (p:Pln) (s:List UInt8) (hp1:List.length s≤1048576):Fun Tryz.prog 18 [.agg (Dm p),vT s] [] (.v (vO 0)) [.lst .ev (Az p s)]:=by
 have hN:Bg=274877906944:=rfl
 refine Ap Tryz.func18 Q5 Q5 (w:=let z1:=Lf (.v (vO 0)) (.v (vO 0)) [.lst .ev ([]:List Ev)] [.lst .ev (Az p s)];let z2:List Blk:=[.lst .ev (Bs p s),.lst .int (Ce p s).ends];(.seg [.call [] (.v (vB (Bo p))) []] (.br (.seg [.at 0,.mkS 4 .ev] (.leaf () [1])) (.br (.seg [.at 0,.mkS 4 .ev] (.leaf () [1])) (.seg [.call [] (.tup [vO 0,vO 1]) z2] (.leaf () [1])))),(Fp 57 [.agg (Dm p)] [] (.v (vB (Bo p))) [])∧Bc (!(Bo p)) z1 (Bc (decide (4000<((List.length s:Nat):Int))) z1 ((Fp 58 [.agg (Dm p),vT s] [] (.tup [vO 0,vO 1]) z2)∧Lf (.v (vO 0)) (.v (vO 0)) [.lst .ev (Bs p s)] [.lst .ev (Az p s)])))) Q5 ?_
 refine⟨(L3 p),fun h1=>have q1:=As h1;?_,fun h1=>have q1:=Aq h1;have p1:=C3 q1;?_⟩
 refine⟨rfl,(Af (congrArg (Blk.lst .ev) ?_) rfl)⟩
 rotate_left
 refine dsp (fun h2 p2=>?_) fun h2 p2=>?_
 refine⟨rfl,(Af (congrArg (Blk.lst .ev) ?_) rfl)⟩
 rotate_left
 have hwl:Az p s=Bs p s:=by unfold Az;rw[if_pos ⟨by simp_all,by omega⟩]
 have hbl:boundsL p s=(Ce p s).ends:=by unfold boundsL;rw[if_pos ⟨by simp_all,by omega⟩]
 refine⟨(parsed_i p _ Q2 Q2),rfl,(Af (congrArg (Blk.lst .ev) ?_) rfl)⟩
 rotate_left
 all_goals first|(simp_all[Az,boundsL];done)|(grind[Az,boundsL])
theorem Ahs (p:Pln) (s:List UInt8) (hp1:List.length s≤1048576):Fun Tryz.prog 12 [.agg (Dm p),vT s] [] (.v (vO 0)) [.lst .int (boundsL p s)]:=by
 have hN:Bg=274877906944:=rfl
 refine Ap Tryz.func12 Q5 Q5 (w:=let z1:=Lf (.v (vO 0)) (.v (vO 0)) [.lst .int ([]:List Int)] [.lst .int (boundsL p s)];let z2:List Blk:=[.lst .ev (Bs p s),.lst .int (Ce p s).ends];(.seg [.call [] (.v (vB (Bo p))) []] (.br (.seg [.at 0,.mkS 4 .int] (.leaf () [1])) (.br (.seg [.at 0,.mkS 4 .int] (.leaf () [1])) (.seg [.call [] (.tup [vO 0,vO 1]) z2] (.leaf () [2])))),(Fp 57 [.agg (Dm p)] [] (.v (vB (Bo p))) [])∧Bc (!(Bo p)) z1 (Bc (decide (4000<((List.length s:Nat):Int))) z1 ((Fp 58 [.agg (Dm p),vT s] [] (.tup [vO 0,vO 1]) z2)∧Lf (.v (vO 0)) (.v (vO 0)) [.lst .int (Ce p s).ends] [.lst .int (boundsL p s)])))) Q5 ?_
 refine⟨(L3 p),fun h1=>have q1:=As h1;?_,fun h1=>have q1:=Aq h1;have p1:=C3 q1;?_⟩
 refine⟨rfl,(Af (congrArg (Blk.lst .int) ?_) rfl)⟩
 rotate_left
 refine dsp (fun h2 p2=>?_) fun h2 p2=>?_
 refine⟨rfl,(Af (congrArg (Blk.lst .int) ?_) rfl)⟩
 rotate_left
 have hwl:Az p s=Bs p s:=by unfold Az;rw[if_pos ⟨by simp_all,by omega⟩]
 have hbl:boundsL p s=(Ce p s).ends:=by unfold boundsL;rw[if_pos ⟨by simp_all,by omega⟩]
 refine⟨(parsed_i p _ Q2 Q2),rfl,(Af (congrArg (Blk.lst .int) ?_) rfl)⟩
 rotate_left
 all_goals first|(simp_all[Az,boundsL];done)|(grind[Az,boundsL])
theorem Ab3 (p:Pln) (s:List UInt8) (hp1:List.length s≤1048576):Fun Tryz.prog 14 [.agg (Dm p),vT s] [] (.v (vO 0)) [.lst .int (boundsL p s)]:=by
 have hN:Bg=274877906944:=rfl
 refine Ap Tryz.func14 Q5 Q5 (w:=let z1:=Lf (.v (vO 0)) (.v (vO 0)) [.lst .int ([]:List Int)] [.lst .int (boundsL p s)];let z2:List Blk:=[.lst .ev (Bs p s),.lst .int (Ce p s).ends];(.seg [.call [] (.v (vB (Bo p))) []] (.br (.seg [.ty .int] (.leaf () [1])) (.br (.seg [.ty .int] (.leaf () [1])) (.seg [.call [] (.tup [vO 0,vO 1]) z2] (.leaf () [2])))),(Fp 42 [.agg (Dm p)] [] (.v (vB (Bo p))) [])∧Bc (!(Bo p)) z1 (Bc (decide (4000<((List.length s:Nat):Int))) z1 ((Fp 59 [.agg (Dm p),vT s] [] (.tup [vO 0,vO 1]) z2)∧Lf (.v (vO 0)) (.v (vO 0)) [.lst .int (Ce p s).ends] [.lst .int (boundsL p s)])))) Q5 ?_
 refine⟨(Xk p),fun h1=>have q1:=As h1;?_,fun h1=>have q1:=Aq h1;have p1:=C3 q1;?_⟩
 refine⟨rfl,(Af (congrArg (Blk.lst .int) ?_) rfl)⟩
 rotate_left
 refine dsp (fun h2 p2=>?_) fun h2 p2=>?_
 refine⟨rfl,(Af (congrArg (Blk.lst .int) ?_) rfl)⟩
 rotate_left
 have hwl:Az p s=Bs p s:=by unfold Az;rw[if_pos ⟨by simp_all,by omega⟩]
 have hbl:boundsL p s=(Ce p s).ends:=by unfold boundsL;rw[if_pos ⟨by simp_all,by omega⟩]
 refine⟨(Amp p _ Q2 Q2),rfl,(Af (congrArg (Blk.lst .int) ?_) rfl)⟩
 rotate_left
 all_goals first|(simp_all[Az,boundsL];done)|(grind[Az,boundsL])
def tx:List Ev→Nat
 |[]=>0
 |e::r=>e.text.length+tx r
def endE (l:List Ev):Ev:=l.getD (l.length-1) ev0
theorem endE_some {l:List Ev} {i:Nat} {x:Ev} (hx:l[i]? =some x) (hi:(i:Int)=(l.length:Int)-1):endE l=x:=by
 unfold endE
 rw[List.getD_eq_getElem?_getD,show l.length-1=i by omega,hx];rfl
/-! ### Merged prefixes -/
def PMe (a b:Ev):Prop:=a=b∨(a.kind=4∧b.kind=4∧a.text<+:b.text)
def PM (x y:List Ev):Prop:=x=[]∨∃q a b z,x=q++[a]∧y=q++b::z∧PMe a b
theorem snoc_of {x:List Ev} (h:x≠[]): ∃q a,x=q++[a]:=⟨x.dropLast,x.getLast h,(List.dropLast_concat_getLast h).symm⟩
theorem PM.less (x z:List Ev):PM x (x++z):=by
 by_cases h:x=[]
 ·exact .inl h
 ·obtain ⟨q,a,hx⟩:=snoc_of h
  exact .inr ⟨q,a,a,z,hx,by rw[hx,List.append_assoc];rfl,.inl rfl⟩
theorem PMe.trans {a b c:Ev} (h:PMe a b) (g:PMe b c):PMe a c:=by
 rcases h with rfl|⟨h1,h2,h3⟩
 ·exact g
 ·rcases g with rfl|⟨g1,g2,g3⟩
  ·exact .inr ⟨h1,h2,h3⟩
  ·exact .inr ⟨h1,g2,h3.trans g3⟩
theorem PM.trans {x y w:List Ev} (h:PM x y) (g:PM y w):PM x w:=by
 rcases h with h|⟨q,a,b,z,hx,hy,hr⟩
 ·exact .inl h
 rcases g with g|⟨q2,a2,b2,z2,hy2,hw,hr2⟩
 ·rw[g] at hy;simp at hy
 by_cases hz:z=[]
 ·rw[hz,hy2] at hy
  obtain ⟨e1,e2⟩:=List.append_inj' hy rfl
  have e3:=List.head_eq_of_cons_eq e2
  rw[e1] at hw;rw[←e3] at hr
  exact .inr ⟨q,a,b2,z2,hx,hw,hr.trans hr2⟩
 ·obtain ⟨z',c,hz'⟩:=snoc_of hz
  rw[hz',hy2,←List.cons_append,←List.append_assoc] at hy
  obtain ⟨e1,e2⟩:=List.append_inj' hy rfl
  refine .inr ⟨q,a,b,z'++b2::z2,hx,?_,hr⟩
  rw[hw,e1,List.append_assoc];rfl
structure at0_b_O where
 x:Int
def at0_b_f (l:List Int) (i:Int) (o:at0_b_O):Prop:=Fun Tryz.prog 16 [.c (.seq .u8 l),vI i] [] (.v (vI o.x)) []
def at0_b_p (l:List Int) (i:Int) (o:at0_b_O):Prop:=(((0:Int)≤o.x∧o.x≤255))∧at0_b_f l i o
theorem at0_b (l:List Int) (i:Int) (hp1:(0:Int)≤i∧i≤1048576) (hp2:List.length l≤1048576) (hp3: ∀e∈l,(0:Int)≤e∧e≤255): ∃o:at0_b_O,at0_b_p l i o:=by
 have hN:Bg=274877906944:=rfl
 refine B2 Tryz.func16 Q5 Q5 (w:=let z1:=(i*7)+((List.length l:Nat):Int);let z2:=Int.tmod z1 256;(.br (.intro (Sx (l[Int.toNat i]?)) fun x1=> .seg [.el .u8 x1,.as 13 (.v (vI x1))] (.leaf (⟨x1⟩:at0_b_O) [])) (.seg [.as 15 (.v (vI (i*7))),.as 18 (.v (vI z1))] (.leaf (⟨Int.tmod z1 256⟩:at0_b_O) [])),Bc (decide (i<((List.length l:Nat):Int))) (El (l[Int.toNat i]?) fun x1=>((l[Int.toNat i]? =some x1)∧((0:Int)≤i)∧(wI (x1))∧(((0:Int)≤x1∧x1≤255))∧Lf (.v (vI x1)) (.v (vI x1)) [] [])) ((wI (i*7))∧(wI z1)∧((256:Int)≠0)∧(((0:Int)≤z2∧z2≤255))∧Lf (.v (vI z2)) (.v (vI z2)) [] []))) Q5 ?_
 refine dsp (fun h1 p1=>?_) fun h1 p1=>?_
 refine⟨(Be (l:=l) (i:=Int.toNat i) Q2),fun x1 hx1=>?_⟩
 have hub:=hp3 _ (List.mem_of_getElem? hx1)
 exact⟨hx1,Q60,(Ac Q2 Q2),Q60,rfl,rfl⟩
 exact⟨(Ac Q2 Q2),(Ac Q2 Q2),Q21,Q60,rfl,rfl⟩
theorem endOf_ok (l:List Ev) (hp1:List.length l≤Bg):Fun Tryz.prog 17 [.c (.seq .ev l)] [] (.v (.agg (cEv (endE l)))) []:=by
 have hN:Bg=274877906944:=rfl
 refine Ap Tryz.func17 Q5 Q5 (w:=let z1:=((List.length l:Nat):Int);(.br (.leaf () []) (.seg [.as 10 (.v (vI (z1-1)))] (.intro (Sx (l[Int.toNat (z1-1)]?)) fun x1=> .seg [.el .ev x1] (.leaf () []))),Bc (decide (z1=0)) (Lf (.v (.agg [.int .i64 0,.int .i64 0,.int .u64 0,.int .i64 0,.str [],.int .i64 0,.int .i64 0])) (.v (.agg (cEv (endE l)))) [] []) ((wI (z1-1))∧El (l[Int.toNat (z1-1)]?) fun x1=>((l[Int.toNat (z1-1)]? =some x1)∧((0:Int)≤z1-1)∧Lf (.v (.agg (cEv x1))) (.v (.agg (cEv (endE l)))) [] [])))) Q5 ?_
 refine dsp (fun h1 p1=>?_) fun h1 p1=>?_
 refine zE (endE l) (⟨0,0,0,0,[],0,0⟩:Ev) (fun hm1=>⟨Q9,rfl⟩) ?_
 rotate_left
 refine⟨(Ac Q2 Q2),(Be (l:=l) (i:=Int.toNat (((List.length l:Nat):Int)-1)) Q2),fun x1 hx1=>?_⟩
 refine zE (endE l) x1 (fun hm1=>⟨hx1,Q2,Q9,rfl⟩) ?_
 rotate_left
 all_goals first|((rw[endE_some hx1 (by omega)];done))|((rw[show l=[] from List.eq_nil_of_length_eq_zero (by omega)];rfl))|(rfl)|(grind)
theorem Y7: ∀(k:Nat) (w:Wh),(B5 S4 Cd k w).ends.length≤w.ends.length+k
 |0,w=>by simp[B5]
 |k+1,w=>by
  unfold B5
  split
  ·have h:=Y7 k (Cd w)
   have:(Cd w).ends.length≤w.ends.length+1:=by
    unfold Cd;simp only;split
    ·simp
    ·omega
   omega
  ·omega
theorem Lk {p:Pln} {s:List UInt8} :(boundsL p s).length≤4003:=by
 unfold boundsL
 split
 ·rename_i h
  have:=Y7 (Fi (wh0 p s).r) (wh0 p s)
  have e:Ce p s=B5 S4 Cd (Fi (wh0 p s).r) (wh0 p s):=rfl
  rw[e]
  have hm:Fi (wh0 p s).r≤4001:=by unfold Fi;rw[if_pos (show (wh0 p s).r.fail.kind=0 from rfl)];show Int.toNat (1+(s.length:Int)-0)≤4001;omega
  have h1:(wh0 p s).ends.length=1:=rfl
  omega
 ·simp
theorem Y8 {p:Pln} {s:List UInt8} (h: ¬((boundsL p s).length:Int)=0):Bo p=true∧s.length≤4000∧boundsL p s=(Ce p s).ends∧En p s=((boundsL p s).length:Int)-1:=by
 by_cases hc:Bo p=true∧(s.length:Int)≤4000
 ·have hb:boundsL p s=(Ce p s).ends:=by unfold boundsL;rw[if_pos hc]
  refine⟨hc.1,by omega,hb,?_⟩
  unfold En Az
  rw[if_pos ⟨hc.1,by omega⟩,hb]
  exact Ada p s
 ·exfalso;apply h;unfold boundsL;rw[if_neg hc];rfl
theorem Af7 {p:Pln} {s:List UInt8} {k:Int} (hp:Bo p=true) (hl:s.length≤4000) (h0:0≤k) (hk:k≤(s.length:Int)):
  (k∈(Ce p s).ends→endE (Az p (s.take k.toNat))=K9 k)∧(¬k∈(Ce p s).ends→(endE (Az p (s.take k.toNat))).kind=10∧((endE (Az p (s.take k.toNat))).code=10→(endE (Az p (s.take k.toNat))).at_=k)):=by
 have hlen:1≤(Az p (s.take k.toNat)).length:=by
  unfold Az
  rw[if_pos ⟨hp,by rw[List.length_take];omega⟩]
  unfold Bs
  rw[List.length_append,List.length_singleton];omega
 have hx:(Az p (s.take k.toNat))[(Az p (s.take k.toNat)).length-1]? =some ((Az p (s.take k.toNat))[(Az p (s.take k.toNat)).length-1]):=List.getElem?_eq_getElem (by omega)
 have hb:=Af1 (K:=k.toNat) hp hl (by omega) hx (by omega)
 rw[endE_some hx (by omega)]
 rw[show ((k.toNat:Nat):Int)=k by omega] at hb
 exact hb
theorem Ab4 {l:List Int} {i:Nat} {x k:Int} {b:Bool} (h:b=decide (k∈l.take i)) (hx:l[i]? =some x):(b||decide (x=k))=decide (k∈l.take (i+1)):=by
 rw[h,List.take_add_one,hx,←Bool.decide_or]
 rw[decide_eq_decide]
 simp only[List.mem_append,Option.toList_some,List.mem_singleton]
 constructor
 ·rintro (h|h)
  ·exact .inl h
  ·exact .inr h.symm
 ·rintro (h|h)
  ·exact .inl h
  ·exact .inr h.symm
theorem Aht {l:List Int} {i:Nat} {k:Int} {b:Bool} (h:b=decide (k∈l.take i)) (hb:b=true):true=decide (k∈l.take (i+1)):=by
 rw[hb] at h
 have:=of_decide_eq_true h.symm
 refine(decide_eq_true ?_).symm
 rw[List.take_add_one];exact List.mem_append_left _ this
theorem Amy {l:List Int} {i:Nat} {x k:Int} {b:Bool} (h:b=decide (k∈l.take i)) (hx:l[i]? =some x) (hb:b=false):decide (x=k)=decide (k∈l.take (i+1)):=by
 have:=Ab4 h hx
 rw[hb,Bool.false_or] at this;exact this
structure Hk where
 i:Nat
def Hm (l:List Int):Fam:=⟨Hk,fun q1=>[(0,.v (.c (.seq .int l))),(1,.v (.c (.seq .int l))),(5,.v (vI ((q1.i:Nat):Int)))],fun _=>[],fun q1=>q1.i≤List.length l,fun q1=>List.length l-q1.i⟩
theorem Aaj (l:List Int) (hp1:List.length l≤Bg):Fun Tryz.prog 13 [.c (.seq .int l),.c (.seq .int l)] [] (.v (vB true)) []:=by
 have hN:Bg=274877906944:=rfl
 refine Ap Tryz.func13 Q5 Q5 (w:=let z3:=((List.length l:Nat):Int);let z4:=Hm l;(.seg [.br false,.at 0,.keep [0,1,5],.sel []] (.loop z4 fun q1=> .br (.intro (Sx (l[q1.i]?)) fun x1=> .seg [.ord (os 9 []) [],.el .int x1,.el .int x1,.br false,.as 16 (.v (vI (((q1.i:Nat):Int)+1))),.at 0,.keep [0,1,5],.sel []] (.next)) (.leaf () [])),((!decide (z3=z3))=false)∧z4.Has [(0,.v (.c (.seq .int l))),(1,.v (.c (.seq .int l))),(5,.v (vI 0))] []∧∀q1,z4.inv q1→(let z2:=((q1.i:Nat):Int);Bc (decide (z2<z3)) (El (l[q1.i]?) fun x1=>(let z1:=l[q1.i]? =some x1;z1∧((0:Int)≤z2)∧z1∧((0:Int)≤z2)∧z1∧((0:Int)≤z2)∧z1∧((0:Int)≤z2)∧((!decide (x1=x1))=false)∧(wI (z2+1))∧z4.Nxt q1 [(0,.v (.c (.seq .int l))),(1,.v (.c (.seq .int l))),(5,.v (vI (z2+1)))] [])) (Lf (.v (vB true)) (.v (vB true)) [] [])))) Q5 ?_
 refine⟨(by simp),Ca (j:=(⟨0⟩:Hk)) Q7 rfl (by dsimp only[Hm];omega),fun (q1:Hk) hq_q1=>?_⟩
 have hi_q1:q1.i≤List.length l:=hq_q1
 refine dsp (fun h1 p1=>?_) fun h1 p1=>?_
 refine⟨(Be (l:=l) (i:=q1.i) Q2),fun x1 hx1=>?_⟩
 exact⟨hx1,Q2,hx1,Q2,hx1,Q2,hx1,Q2,(by simp),(Ac Q2 Q2),A5 (j:=(⟨q1.i+1⟩:Hk)) Q7 rfl (by dsimp only[Hm];omega) (by dsimp only[Hm];omega)⟩
 exact⟨rfl,rfl⟩
structure D5 where
 p:Pln
 t:List UInt8
def Kw (code:List Int) (o:D5):Prop:=Fun Tryz.prog 11 [.c (.seq .u8 code)] [] (.tup [.agg (Dm o.p),vT o.t]) []
def G0 (code:List Int) (o:D5):Prop:=((Wn o.p)∧(List.length (o.t:List UInt8)≤200000))∧Kw code o
theorem S5 (code:List Int) (hp1:List.length code≤1048576): ∃o:D5,G0 code o:=by
 have hN:Bg=274877906944:=rfl
 refine B2 Tryz.func11 Q5 Q5 (w:=(.intro (F5 code) fun o1=> .seg [.call [] (.tup [vP 0,.agg (Dm o1.p),vT o1.t]) (Kc o1.c1)] (.leaf (⟨o1.p,o1.t⟩:D5) []),In (F5 code) fun o1=>(let z1:S:= .tup [.agg (Dm o1.p),vT o1.t];(Mo code o1)∧((Wn o1.p)∧(List.length (o1.t:List UInt8)≤200000))∧Lf z1 z1 [] []))) Q5 ?_
 refine⟨(U4 code Q2),fun o1 ho_o1=>?_⟩
 obtain ⟨⟨hp_o1_0,hp_o1_1,hp_o1_2⟩,hf_o1⟩:=ho_o1
 exact⟨hf_o1,⟨Q66,Q2⟩,rfl,rfl⟩
structure Ff where
 met:Bool
 i:Nat
def Eh (o1:D5) (o2:at0_b_O) (o3:at0_b_O):Fam:=⟨Ff,fun q1=>[(3,.v (vP 0)),(4,.v (vT o1.t)),(5,.v (vO 1)),(6,.v (vI (Int.tmod ((o2.x*256)+o3.x) (((List.length o1.t:Nat):Int)+1)))),(7,.v (vB q1.met)),(8,.v (vI ((q1.i:Nat):Int)))],fun _=>[.cells (Dm o1.p),.lst .int (boundsL o1.p o1.t)],fun q1=>q1.i≤List.length (boundsL o1.p o1.t)∧q1.met=decide ((Int.tmod ((o2.x*256)+o3.x) (((List.length o1.t:Nat):Int)+1))∈List.take q1.i (boundsL o1.p o1.t)),fun q1=>List.length (boundsL o1.p o1.t)-q1.i⟩
theorem Y9 (code:List Int) (hp1:((List.length code:Nat):Int)≤9223372036854775807) (hp2: ∀e∈code,(0:Int)≤e∧e≤255):Fun Tryz.prog 3 [.c (.seq .u8 code)] [] (.v (vB true)) []:=by
 have hN:Bg=274877906944:=rfl
 refine Ap Tryz.func3 Q5 Q5 (w:=let z15:S:= .v (vB true);let z16:=decide (1048576<((List.length code:Nat):Int));let z17:S:= .v (vO 0);(.seg [.call [] (.v (vB z16)) []] (.br (.leaf () []) (.intro (G0 code) fun o1=>let z9:=boundsL o1.p o1.t;let z10:=((List.length o1.t:Nat):Int)+1;.seg [.call [] (.tup [.agg (Dm o1.p),vT o1.t]) [],.call [] z17 [.lst .int z9],.call [] z17 [.lst .int z9],.call [] z15 [],.br false] (.br (.seg [.br true,.call [] z17 [.lst .int z9]] (.leaf () [])) (.seg [.call [] (.v (vI (En o1.p o1.t))) [],.as 46 (.v (vI (((List.length z9:Nat):Int)-1)))] (.br (.leaf () []) (.intro (at0_b_p code 2) fun o2=> .seg [.call [] (.v (vI o2.x)) [],.as 50 (.v (vI (o2.x*256)))] (.intro (at0_b_p code 3) fun o3=>let z4:=Az o1.p (List.take (Int.toNat (Int.tmod ((o2.x*256)+o3.x) z10)) o1.t);.seg [.call [] (.v (vI o3.x)) [],.as 53 (.v (vI ((o2.x*256)+o3.x))),.as 56 (.v (vI z10)),.at 0,.keep [3,4,5,6,7,8],.sel [0,1]] (.loop (Eh o1 o2 o3) fun q1=>let z1:S:= .v (vI (((q1.i:Nat):Int)+1));.br (.br (.seg [.as 63 z1,.at 0,.keep [3,4,5,6,7,8],.sel [0,1]] (.next)) (.intro (Sx (z9[q1.i]?)) fun x1=> .seg [.el .int x1,.as 63 z1,.at 0,.keep [3,4,5,6,7,8],.sel [0,1]] (.next))) (.seg [.tree (fr (.two 4 (.two 5 (.one 6 (.one 7 (.done))) 6 (.one 5 (.one 7 (.done)))) 6 (.one 4 (.one 5 (.one 7 (.done))))) 0 4) 7 [],.call [] z17 [.lst .ev z4],.call [] (.v (.agg (cEv (endE z4)))) [],.at 0,.keep [6,7,9],.sel [3],.call [] (.v (.agg (cEv (endE z4)))) [],.at 0,.keep [6,7,9],.sel [3],.call [] z17 [.lst .ev z4],.call [] (.v (.agg (cEv (endE z4)))) [],.at 0,.keep [6,7,9],.sel [2]] (.br (.leaf () []) (.br (.br (.leaf () []) (.leaf () [])) (.leaf () [])))))))))))),(Fp 10 [.c (.seq .u8 code)] [] (.v (vB z16)) [])∧Bc z16 (Lf z15 z15 [] []) (In (G0 code) fun o1=>(let z11:=((List.length o1.t:Nat):Int);let z13:=boundsL o1.p o1.t;let z12:=((List.length z13:Nat):Int);let z14:=Dm o1.p;(Kw code o1)∧(Fp 12 [.agg z14,vT o1.t] [] z17 [.lst .int z13])∧(Fp 14 [.agg z14,vT o1.t] [] z17 [.lst .int z13])∧(Fp 13 [.c (.seq .int z13),.c (.seq .int z13)] [] z15 [])∧((!true)=false)∧Bc (decide (z12=0)) (((decide (z12=0))=true)∧(Fp 14 [.agg z14,vT o1.t] [] z17 [.lst .int z13])∧Lf (.v (vB (decide (z12=0)))) z15 [] []) ((Fp 15 [.agg z14,vT o1.t] [] (.v (vI (En o1.p o1.t))) [])∧(wI (z12-1))∧Bc (!decide (En o1.p o1.t=z12-1)) (Lf (.v (vB false)) z15 [] []) (In (at0_b_p code 2) fun o2=>((at0_b_f code 2 o2)∧(wI (o2.x*256))∧In (at0_b_p code 3) fun o3=>(let z7:=(o2.x*256)+o3.x;let z6:=Int.tmod z7 (z11+1);let z5:=Az o1.p (List.take (Int.toNat z6) o1.t);let z8:=Eh o1 o2 o3;(at0_b_f code 3 o3)∧(wI z7)∧(wI (z11+1))∧((z11+1)≠0)∧z8.Has [(3,.v (vP 0)),(4,.v (vT o1.t)),(5,.v (vO 1)),(6,.v (vI z6)),(7,.v (vB false)),(8,.v (vI 0))] [.cells z14,.lst .int z13]∧∀q1,z8.inv q1→(let z2:=([(6,.v (vI z6)),(7,.v (vB q1.met)),(9,.v (vP 0))]:List (Nat×S))=[(6,.v (vI z6)),(7,.v (vB q1.met)),(9,.v (vP 0))];let z3:=((q1.i:Nat):Int);Bc (decide (z3<z12)) (Bc q1.met ((wI (z3+1))∧z8.Nxt q1 [(3,.v (vP 0)),(4,.v (vT o1.t)),(5,.v (vO 1)),(6,.v (vI z6)),(7,.v (vB true)),(8,.v (vI (z3+1)))] [.cells z14,.lst .int z13]) (El (z13[q1.i]?) fun x1=>((z3<z12)∧((0:Int)≤z3)∧(z13[q1.i]? =some x1)∧(wI (z3+1))∧z8.Nxt q1 [(3,.v (vP 0)),(4,.v (vT o1.t)),(5,.v (vO 1)),(6,.v (vI z6)),(7,.v (vB (decide (x1=Int.tmod z7 (z11+1))))),(8,.v (vI (z3+1)))] [.cells z14,.lst .int z13]))) ((Int.tmod z7 (z11+1)≤z11)∧((0:Int)≤Int.tmod z7 (z11+1))∧(Int.tmod z7 (z11+1)≤z11)∧((0:Int)≤Int.tmod z7 (z11+1))∧(Fp 18 [.agg z14,vT (List.take (Int.toNat z6) o1.t)] [] z17 [.lst .ev z5])∧(Fp 17 [.c (.seq .ev z5)] [] (.v (.agg (cEv (endE z5)))) [])∧(Fp 17 [.c (.seq .ev z5)] [] (.v (.agg (cEv (endE z5)))) [])∧(([.cells (cEv (endE z5))]:List Blk)=[.cells (cEv (endE z5))])∧z2∧(Fp 18 [.agg z14,vT (List.take (Int.toNat z6) o1.t)] [] z17 [.lst .ev z5])∧(Fp 17 [.c (.seq .ev z5)] [] (.v (.agg (cEv (endE z5)))) [])∧(([.cells (cEv (endE z5))]:List Blk)=[.cells (cEv (endE z5))])∧z2∧Bc q1.met (Lf (.v (vB (decide ((endE z5).kind=9)&&(decide ((endE z5).field=0)&&(decide ((endE z5).bits=0)&&(decide ((endE z5).len=0)&&(decide ((endE z5).text=[])&&(decide ((endE z5).code=0)&&decide ((endE z5).at_=Int.tmod z7 (z11+1)))))))))) z15 [] []) (Bc (decide ((endE z5).kind=10)) (Bc (!decide ((endE z5).code=10)) (Lf z15 z15 [] []) (Lf (.v (vB (decide ((endE z5).at_=Int.tmod z7 (z11+1))))) z15 [] [])) (Lf (.v (vB false)) z15 [] [])))))))))))) Q5 ?_
 refine⟨(Abh _ Q2),dsp (fun h1 p1=>?_) fun h1 p1=>?_⟩
 exact⟨rfl,rfl⟩
 refine⟨(S5 code Q2),fun o1 ho_o1=>?_⟩
 obtain ⟨⟨hp_o1_0,hp_o1_1⟩,hf_o1⟩:=ho_o1
 refine⟨hf_o1,(Ahs o1.p _ Q2),(Ab3 o1.p _ Q2),(Aaj _ (by have:= @Lk o1.p o1.t;omega)),Q21,dsp (fun h2 p2=>?_) fun h2 p2=>?_⟩
 have hbl:= @Lk o1.p o1.t
 refine⟨h2,(Ab3 o1.p _ Q2),(sB ?_),rfl⟩
 rotate_left
 have hbf:=Y8 p2
 have hbl:= @Lk o1.p o1.t
 refine⟨(framesIn_i o1.p _ Q2),(Ac Q2 Q2),fun h3=>have q3:=As h3;have p3:=of_decide_eq_false q3;?_,fun h3=>have q3:=Aq h3;have p3:=of_decide_eq_true q3;?_⟩
 refine⟨(sB ?_),rfl⟩
 rotate_left
 refine⟨(at0_b code 2 Q2 Q2 (hp2)),fun o2 ho_o2=>?_⟩
 obtain ⟨hp_o2,hf_o2⟩:=ho_o2
 refine⟨hf_o2,(Ac Q2 Q2),(at0_b code 3 Q2 Q2 (hp2)),fun o3 ho_o3=>?_⟩
 obtain ⟨hp_o3,hf_o3⟩:=ho_o3
 refine⟨hf_o3,(Ac Q2 Q2),(Ac Q2 Q2),Q2,Ca (j:=(⟨false,0⟩:Ff)) Q7 rfl (by dsimp only[Eh];exact⟨by omega,by simp⟩),fun (q1:Ff) hq_q1=>?_⟩
 have hi_q1:q1.i≤List.length (boundsL o1.p o1.t)∧q1.met=decide ((Int.tmod ((o2.x*256)+o3.x) (((List.length o1.t:Nat):Int)+1))∈List.take q1.i (boundsL o1.p o1.t)):=hq_q1
 obtain ⟨v1,v2⟩:=hi_q1
 refine dsp (fun h4 p4=>?_) fun h4 p4=>?_
 refine⟨fun h5=>?_,fun h5=>?_⟩
 exact⟨(Ac Q2 Q2),A5 (j:=(⟨true,q1.i+1⟩:Ff)) Q7 rfl Q54 (by dsimp only[Eh];omega)⟩
 refine⟨(Be (l:=boundsL o1.p o1.t) (i:=q1.i) (by have:= @Lk o1.p o1.t;omega)),fun x1 hx1=>?_⟩
 exact⟨(by have:= @Lk o1.p o1.t;omega),Q2,hx1,(Ac Q2 Q2),A5 (j:=(⟨decide (x1=Int.tmod ((o2.x*256)+o3.x) (((List.length o1.t:Nat):Int)+1)),q1.i+1⟩:Ff)) Q7 rfl Q54 (by dsimp only[Eh];omega)⟩
 have kb:=F9 ((o2.x*256)+o3.x) (((List.length o1.t:Nat):Int)+1)
 have hbe:=Af7 (p:=o1.p) (s:=o1.t) (k:=(Int.tmod ((o2.x*256)+o3.x) (((List.length o1.t:Nat):Int)+1))) hbf.1 hbf.2.1 (by omega) (by omega)
 have hbm:q1.met=decide ((Int.tmod ((o2.x*256)+o3.x) (((List.length o1.t:Nat):Int)+1))∈(Ce o1.p o1.t).ends):=by rw[v2,List.take_of_length_le (by omega),hbf.2.2.1]
 refine⟨Q48,Q48,Q48,Q48,(whole_o o1.p _ Q50),(endOf_ok _ (Nat.le_trans Ex Q2)),(endOf_ok _ (Nat.le_trans Ex Q2)),rfl,rfl,(whole_o o1.p _ Q50),(endOf_ok _ (Nat.le_trans Ex Q2)),rfl,rfl,fun h5=>?_,fun h5=>?_⟩
 refine⟨(sB ?_),rfl⟩
 rotate_left
 refine dsp (fun h6 p6=>?_) fun h6 p6=>?_
 refine⟨fun h7=>have q7:=As h7;have p7:=of_decide_eq_false q7;?_,fun h7=>have q7:=Aq h7;have p7:=of_decide_eq_true q7;?_⟩
 exact⟨rfl,rfl⟩
 refine⟨(sB ?_),rfl⟩
 rotate_left
 refine⟨(sB ?_),rfl⟩
 rotate_left
 all_goals first|(rfl)|((exfalso;exact(by assumption: ¬_) hbf.2.2.2))|((simp[hbf.2.2.2] at *;done))|((have hm:=of_decide_eq_true (hbm.symm.trans (by assumption));rw[hbe.1 hm];simp[K9];done))|((have hm:=of_decide_eq_false (hbm.symm.trans (by assumption));have hz:=hbe.2 hm;simp[hz.1];done))|((have hm:=of_decide_eq_false (hbm.symm.trans (by assumption));have hz:=hbe.2 hm;simp_all;done))|(grind)
end Go.Proofs.YtijacopaadmncaaGreat.Ax
