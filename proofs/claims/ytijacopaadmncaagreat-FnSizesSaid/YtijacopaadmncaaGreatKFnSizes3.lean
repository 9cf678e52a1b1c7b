/- Events as frames: the steps. Events as frames. Sizes of frames. Sizes: the reference, lists of sizes. Lists of sizes: both sides. Models: numbers are read as they are written. Models: frames without an error. Models: messages are read as they are written. -/
import Derived.Test.YtijacopaadmncaaGreatKS2
import Derived.Test.YtijacopaadmncaaGreatKFnSizes2
import Derived.Test.YtijacopaadmncaaGreatKS3
import Derived.Test.YtijacopaadmncaaGreatKFnSizes1
set_option linter.unusedSimpArgs false
set_option linter.unusedVariables false
namespace Go.Proofs.YtijacopaadmncaaGreat.Ax
open Go.RowKit
structure value_i_J1000002_V where
 isBytes:Bool
def value_i_J1000002_F (f:Fmr) (e:Ev) (x1:Int):Fam:=⟨value_i_J1000002_V,fun j1000002=>[(0,.v (vP 0)),(3,.v (vP 2)),(5,.v (vP 3)),(6,.v (vB (fieldAt f.plan.shapes x1 e.field).isSome)),(7,.v (vB j1000002.isBytes))],fun _=>[.cells (Fu 1 f),.lst .int f.st.stack,.cells (cEv e),.cells (Dd ((fieldAt f.plan.shapes x1 e.field).getD fld0))],fun j1000002=>j1000002.isBytes=isBytes ((fieldAt f.plan.shapes x1 e.field).getD fld0).kind,fun _=>0⟩
theorem value_i (f:Fmr) (e:Ev) (hp1:1≤List.length (f).st.stack) (hp2:List.length (f).st.stack≤1000) (hp3:Cp (f).plan.shapes=true) (hp4:List.length (e).text≤Ba) (hp5:(0:Int)≤(e).bits∧(e).bits≤18446744073709551615):Fun Tryz.prog 136 [vP 0,.agg (cEv e)] [.cells (Fu 1 f),.lst .int f.st.stack] (.v (vI (E6 (f).plan (f).st e))) [.cells [.seq .shp (f).plan.shapes,.int .i64 (f).plan.root,.int .i64 (f).plan.deep,.int .i64 (f).plan.most,.own 2,.bool (Bj (f).plan (f).st e).inText,.bool (Bj (f).plan (f).st e).isText,.int .i64 (Bj (f).plan (f).st e).utf.want,.int .i64 (Bj (f).plan (f).st e).utf.low,.int .i64 (Bj (f).plan (f).st e).utf.high,.bool (Bj (f).plan (f).st e).ended],.dead,.lst .int (Bj (f).plan (f).st e).stack]:=by
 have hN:Ba=274877906944:=rfl
 have hs6:=K2 hp3
 refine Av Tryz.func136 Q8 Q8 (w:=let zi:Int→C:= .int .i64;let z9:List C:=[zi 0,zi 0,zi 0,.bool f.st.ended];let z11:S:= .v (vI (E6 (f).plan (f).st e));let z12:List Blk:=[.cells (Fu 2 f),.dead,.lst .int f.st.stack];let z13:=(f.st.stack.length:Int);let z14:=decide (e.kind=6);let z15:=decide (e.kind=3);let z17:=decide (e.kind=2);let z18:=Bj (f).plan (f).st e;let z8:List C:=[.seq .shp (f).plan.shapes,zi (f).plan.root,zi (f).plan.deep,zi (f).plan.most,.own 2,.bool z18.inText,.bool z18.isText,zi z18.utf.want,zi z18.utf.low,zi z18.utf.high,.bool z18.ended];let z10:List Blk:=[.cells z8,.dead,.lst .int z18.stack];let z16:=Lf (.v (vI 2)) z11 z12 z10;let z19:=Lf (.v (vI 4)) z11 z12 z10;let z20:=decide (f.plan.deep≤z13);let z21:=Lf (.v (vI 6)) z11 z12 z10;let z22:S:= .v (vI 0);let z23:=z14=false;let z24:=os 17 [];let z25:=os 16 [9,12,15];let z26:=z14=true;let z27:=f.st.stack[Int.toNat (z13-1)]?;let z28:=z15=false;let z29:=z17=false;(.intro (Sx z27) fun x1=>let z3:=fieldAt f.plan.shapes x1 e.field;let z1:=z3.getD fld0;let z2:S:= .tup [.agg (Dd z1),vB z3.isSome];.seg [.tree (fr (.two 19 (fr (.one 23 (.one 24 (.first 25 (.done)))) 20 3) 23 (.one 19 (fr (.one 24 (.first 25 (.done))) 20 3))) 0 19) 26 [],.as 23 (.v (vI (z13-1))),.el .int x1,.call [] z2 [],.at 0,.keep [0,3,5,6],.sel [0,1,2,3],.call [] z2 [],.at 0,.keep [0,3,5,6],.sel [0,1,2,3]] (.join 1000002 (value_i_J1000002_F f e x1) (.br (.seg [.at 0,.keep [0,3,5,6,7],.sel [0,1,2,3]] (.next)) (.seg [.at 0,.keep [0,3,5,6,7],.sel [0,1,2,3]] (.next))) fun j1000002=> .br (.seg [.at 0,.cut 0 4] (.leaf () [0,1,4])) (.br (.seg [.call [] (.v (vB (Bs z1.kind))) []] (.br (.seg [.at 0,.cut 0 4] (.leaf () [0,1,4])) (.br (.br (.seg [.at 0,.cut 0 4] (.leaf () [0,1,4])) (.br (.br (.seg [.at 0,.cut 0 4] (.leaf () [0,1,4])) (.seg [.br true,.call [] (.v (vB (Cb z1.kind e.bits))) []] (.br (.seg [.at 0,.cut 0 4] (.leaf () [0,1,4])) (.seg [.ord z24 [],.br true] (.br (.seg [.at 0,.cut 0 4] (.leaf () [0,1,4])) (.seg [.br true,.ord z25 [0],.at 0,.cut 0 4] (.leaf () [0,1,4]))))))) (.seg [.br true,.call [] (.v (vB (Cb z1.kind e.bits))) []] (.br (.seg [.at 0,.cut 0 4] (.leaf () [0,1,4])) (.seg [.ord z24 [],.br false,.br true,.ord z25 [0],.at 0,.cut 0 4] (.leaf () [0,1,4])))))) (.br (.br (.seg [.at 0,.cut 0 4] (.leaf () [0,1,4])) (.seg [.br true,.call [] (.v (vB (Cb z1.kind e.bits))) []] (.br (.seg [.at 0,.cut 0 4] (.leaf () [0,1,4])) (.seg [.ord z24 [],.br true] (.br (.seg [.at 0,.cut 0 4] (.leaf () [0,1,4])) (.seg [.br false,.br true,.ord (os 12 [7,8,11]) [1],.ty .int,.ty .int] (.leaf () [0,1,5]))))))) (.seg [.br true,.call [] (.v (vB (Cb z1.kind e.bits))) []] (.br (.seg [.at 0,.cut 0 4] (.leaf () [0,1,4])) (.seg [.ord z24 [],.br false,.br false,.br false,.at 0,.cut 0 4] (.leaf () [0,1,4])))))))) (.br (.br (.seg [.at 0,.cut 0 4] (.leaf () [0,1,4])) (.br (.br (.seg [.at 0,.cut 0 4] (.leaf () [0,1,4])) (.seg [.br false,.ord z24 [],.br true] (.br (.seg [.at 0,.cut 0 4] (.leaf () [0,1,4])) (.seg [.br true,.ord z25 [0],.at 0,.cut 0 4] (.leaf () [0,1,4]))))) (.seg [.br false,.ord z24 [],.br false,.br true,.ord z25 [0],.at 0,.cut 0 4] (.leaf () [0,1,4])))) (.br (.br (.seg [.at 0,.cut 0 4] (.leaf () [0,1,4])) (.seg [.br false,.ord z24 [],.br true] (.br (.seg [.at 0,.cut 0 4] (.leaf () [0,1,4])) (.seg [.br false,.br true,.ord (os 12 [7,8,11]) [1],.ty .int,.ty .int] (.leaf () [0,1,5]))))) (.seg [.br false,.ord z24 [],.br false,.br false,.br false,.at 0,.cut 0 4] (.leaf () [0,1,4])))))),El z27 fun x1=>(let z5:=fieldAt f.plan.shapes x1 e.field;let z4:=z5.getD fld0;let z6:=f.st.stack[Int.toNat (z13-1)]? =some x1;let z7:=value_i_J1000002_F f e x1;(wI (z13-1))∧(wI (z13-1))∧(z13-1<z13)∧((0:Int)≤z13-1)∧(z13-1<z13)∧((0:Int)≤z13-1)∧z6∧z6∧(Fp 121 [.agg [.seq .shp f.plan.shapes],vI x1,vI e.field] [] (.tup [.agg (Dd z4),vB z5.isSome]) [])∧(Fp 121 [.agg [.seq .shp f.plan.shapes],vI x1,vI e.field] [] (.tup [.agg (Dd z4),vB z5.isSome]) [])∧(([.cells (Fu 1 f),.lst .int f.st.stack,.cells (cEv e),.cells (Dd z4)]:List Blk)=[.cells (Fu 1 f),.lst .int f.st.stack,.cells (cEv e),.cells (Dd z4)])∧(([(0,.v (vP 0)),(3,.v (vP 2)),(5,.v (vP 3)),(6,.v (vB z5.isSome))]:List (Nat×S))=[(0,.v (vP 0)),(3,.v (vP 2)),(5,.v (vP 3)),(6,.v (vB z5.isSome))])∧(Bc (decide (z4.kind=6)) (z7.Has [(0,.v (vP 0)),(3,.v (vP 2)),(5,.v (vP 3)),(6,.v (vB z5.isSome)),(7,.v (vB true))] [.cells (Fu 1 f),.lst .int f.st.stack,.cells (cEv e),.cells (Dd z4)]) (z7.Has [(0,.v (vP 0)),(3,.v (vP 2)),(5,.v (vP 3)),(6,.v (vB z5.isSome)),(7,.v (vB (decide (z4.kind=7))))] [.cells (Fu 1 f),.lst .int f.st.stack,.cells (cEv e),.cells (Dd z4)]))∧∀j1000002,z7.inv j1000002→(Bc (!z5.isSome) (Lf (.v (vI 3)) z11 z12 z10) (Bc z17 ((Fp 186 [vI z4.kind] [] (.v (vB (Bs z4.kind))) [])∧Bc (!(Bs z4.kind)) z16 (Bc z15 (Bc (!j1000002.isBytes) z16 (Bc z14 (Bc (!decide (z4.kind=8)) z16 ((z17=true)∧(Fp 197 [vI z4.kind,.c (.int .u64 e.bits)] [] (.v (vB (Cb z4.kind e.bits))) [])∧Bc (!(Cb z4.kind e.bits)) z19 (z26∧Bc z20 z21 ((z15=true)∧Lf z22 z11 [.cells (.seq .shp f.plan.shapes::zi f.plan.root::zi f.plan.deep::zi f.plan.most:: .own 2:: .bool true:: .bool (decide (z4.kind=6))::z9),.dead,.lst .int f.st.stack] z10)))) ((z17=true)∧(Fp 197 [vI z4.kind,.c (.int .u64 e.bits)] [] (.v (vB (Cb z4.kind e.bits))) [])∧Bc (!(Cb z4.kind e.bits)) z19 (z23∧(z15=true)∧Lf z22 z11 [.cells (.seq .shp f.plan.shapes::zi f.plan.root::zi f.plan.deep::zi f.plan.most:: .own 2:: .bool true:: .bool (decide (z4.kind=6))::z9),.dead,.lst .int f.st.stack] z10)))) (Bc z14 (Bc (!decide (z4.kind=8)) z16 ((z17=true)∧(Fp 197 [vI z4.kind,.c (.int .u64 e.bits)] [] (.v (vB (Cb z4.kind e.bits))) [])∧Bc (!(Cb z4.kind e.bits)) z19 (z26∧Bc z20 z21 (z28∧z26∧(f.st.stack.length+List.length [z4.msg]≤Ba)∧Lf z22 z11 [.cells (Fu 2 f),.dead,.lst .int (f.st.stack++[z4.msg])] z10)))) ((z17=true)∧(Fp 197 [vI z4.kind,.c (.int .u64 e.bits)] [] (.v (vB (Cb z4.kind e.bits))) [])∧Bc (!(Cb z4.kind e.bits)) z19 (z23∧z28∧z23∧Lf z22 z11 z12 z10))))) (Bc z15 (Bc (!j1000002.isBytes) z16 (Bc z14 (Bc (!decide (z4.kind=8)) z16 (z29∧z26∧Bc z20 z21 ((z15=true)∧Lf z22 z11 [.cells (.seq .shp f.plan.shapes::zi f.plan.root::zi f.plan.deep::zi f.plan.most:: .own 2:: .bool true:: .bool (decide (z4.kind=6))::z9),.dead,.lst .int f.st.stack] z10))) (z29∧z23∧(z15=true)∧Lf z22 z11 [.cells (.seq .shp f.plan.shapes::zi f.plan.root::zi f.plan.deep::zi f.plan.most:: .own 2:: .bool true:: .bool (decide (z4.kind=6))::z9),.dead,.lst .int f.st.stack] z10))) (Bc z14 (Bc (!decide (z4.kind=8)) z16 (z29∧z26∧Bc z20 z21 (z28∧z26∧(f.st.stack.length+List.length [z4.msg]≤Ba)∧Lf z22 z11 [.cells (Fu 2 f),.dead,.lst .int (f.st.stack++[z4.msg])] z10))) (z29∧z23∧z28∧z23∧Lf z22 z11 z12 z10)))))))) Q8 ?_
 refine⟨(A8 (l:=f.st.stack) (i:=Int.toNat ((f.st.stack.length:Int)-1)) Q5),fun x1 hx1=>?_⟩
 have hlast:Kq f.st.stack=x1:=by unfold Kq;exact N0 (by rw[←hx1];congr 1;omega)
 have hown:Mb f.plan f.st e=(fieldAt f.plan.shapes x1 e.field):=by unfold Mb;rw[hlast]
 refine⟨(Ac Q5 Q5),(Ac Q5 Q5),Q5,Q5,Q5,Q5,hx1,hx1,(Lq f.plan.shapes _ _ Q5 (Cy hp3)),(Lq f.plan.shapes _ _ Q5 (Cy hp3)),rfl,rfl,?_,fun (j1000002:value_i_J1000002_V) hq_j1000002=>?_⟩
 refine dsp (fun h2 p2=>?_) fun h2 p2=>?_
 exact Bv (j:=(⟨true⟩:value_i_J1000002_V)) rfl rfl (by dsimp only[value_i_J1000002_F];simp_all[isBytes])
 exact Bv (j:=(⟨decide (((fieldAt f.plan.shapes x1 e.field).getD fld0).kind=7)⟩:value_i_J1000002_V)) rfl rfl (by dsimp only[value_i_J1000002_F];simp_all[isBytes])
 have hi_j1000002:j1000002.isBytes=isBytes ((fieldAt f.plan.shapes x1 e.field).getD fld0).kind:=hq_j1000002
 refine⟨fun h2=>have q2:=Ar h2;?_,fun h2=>have q2:=Ao h2;?_⟩
 have ho:(fieldAt f.plan.shapes x1 e.field)=none:=by simpa using q2
 have hg:(fieldAt f.plan.shapes x1 e.field).getD fld0=fld0:=by rw[ho];rfl
 have hvc:=Hb (hown.trans ho)
 have hvs:=Qz (hown.trans ho)
 refine zE (Bj (f).plan (f).st e) f.st (fun hm1=>⟨(sI ?_),Q17⟩) ?_
 rotate_left 2
 obtain ⟨o,ho⟩:=Option.isSome_iff_exists.1 q2
 have hg:(fieldAt f.plan.shapes x1 e.field).getD fld0=o:=by rw[ho];rfl
 have hvc:=J3 (hown.trans ho)
 have hvs:=Hc (hown.trans ho)
 have hB:isBytes o.kind=j1000002.isBytes:=by rw[←hg];exact hi_j1000002.symm
 refine dsp (fun h3 p3=>?_) fun h3 p3=>?_
 refine⟨(Rb _),fun h4=>have q4:=Ar h4;have p4:=Bw q4;?_,fun h4=>have q4:=Ao h4;have p4:=Bp q4;?_⟩
 refine zE (Bj (f).plan (f).st e) f.st (fun hm1=>⟨(sI ?_),Q17⟩) ?_
 rotate_left 2
 refine dsp (fun h5 p5=>?_) fun h5 p5=>?_
 refine⟨fun h6=>have q6:=Ar h6;?_,fun h6=>have q6:=Ao h6;?_⟩
 refine zE (Bj (f).plan (f).st e) f.st (fun hm1=>⟨(sI ?_),Q17⟩) ?_
 rotate_left 2
 refine dsp (fun h7 p7=>?_) fun h7 p7=>?_
 refine⟨fun h8=>have q8:=Ar h8;have p8:=of_decide_eq_false q8;?_,fun h8=>have q8:=Ao h8;have p8:=of_decide_eq_true q8;?_⟩
 refine zE (Bj (f).plan (f).st e) f.st (fun hm1=>⟨(sI ?_),Q17⟩) ?_
 rotate_left 2
 refine⟨h3,(J4 _ _ Q5),fun h9=>have q9:=Ar h9;?_,fun h9=>have q9:=Ao h9;?_⟩
 refine zE (Bj (f).plan (f).st e) f.st (fun hm1=>⟨(sI ?_),Q17⟩) ?_
 rotate_left 2
 refine⟨h7,dsp (fun h10 p10=>?_) fun h10 p10=>?_⟩
 refine zE (Bj (f).plan (f).st e) f.st (fun hm1=>⟨(sI ?_),Q17⟩) ?_
 rotate_left 2
 refine zE (Bj (f).plan (f).st e) (⟨f.st.stack,true,decide (((fieldAt f.plan.shapes x1 e.field).getD fld0).kind=6),utf0,f.st.ended⟩:Fa) (fun hm1=>⟨h5,(sI ?_),Q17⟩) ?_
 rotate_left 2
 refine⟨h3,(J4 _ _ Q5),fun h8=>have q8:=Ar h8;?_,fun h8=>have q8:=Ao h8;?_⟩
 refine zE (Bj (f).plan (f).st e) f.st (fun hm1=>⟨(sI ?_),Q17⟩) ?_
 rotate_left 2
 refine zE (Bj (f).plan (f).st e) (⟨f.st.stack,true,decide (((fieldAt f.plan.shapes x1 e.field).getD fld0).kind=6),utf0,f.st.ended⟩:Fa) (fun hm1=>⟨h7,h5,(sI ?_),Q17⟩) ?_
 rotate_left 2
 refine dsp (fun h6 p6=>?_) fun h6 p6=>?_
 refine⟨fun h7=>have q7:=Ar h7;have p7:=of_decide_eq_false q7;?_,fun h7=>have q7:=Ao h7;have p7:=of_decide_eq_true q7;?_⟩
 refine zE (Bj (f).plan (f).st e) f.st (fun hm1=>⟨(sI ?_),Q17⟩) ?_
 rotate_left 2
 refine⟨h3,(J4 _ _ Q5),fun h8=>have q8:=Ar h8;?_,fun h8=>have q8:=Ao h8;?_⟩
 refine zE (Bj (f).plan (f).st e) f.st (fun hm1=>⟨(sI ?_),Q17⟩) ?_
 rotate_left 2
 refine⟨h6,dsp (fun h9 p9=>?_) fun h9 p9=>?_⟩
 refine zE (Bj (f).plan (f).st e) f.st (fun hm1=>⟨(sI ?_),Q17⟩) ?_
 rotate_left 2
 refine zE (Bj (f).plan (f).st e) (⟨f.st.stack++[((fieldAt f.plan.shapes x1 e.field).getD fld0).msg],f.st.inText,f.st.isText,f.st.utf,f.st.ended⟩:Fa) (fun hm1=>⟨h5,h6,Q9,(sI ?_),Q17⟩) ?_
 rotate_left 2
 refine⟨h3,(J4 _ _ Q5),fun h7=>have q7:=Ar h7;?_,fun h7=>have q7:=Ao h7;?_⟩
 refine zE (Bj (f).plan (f).st e) f.st (fun hm1=>⟨(sI ?_),Q17⟩) ?_
 rotate_left 2
 refine zE (Bj (f).plan (f).st e) f.st (fun hm1=>⟨h6,h5,h6,(sI ?_),Q17⟩) ?_
 rotate_left 2
 refine dsp (fun h4 p4=>?_) fun h4 p4=>?_
 refine⟨fun h5=>have q5:=Ar h5;?_,fun h5=>have q5:=Ao h5;?_⟩
 refine zE (Bj (f).plan (f).st e) f.st (fun hm1=>⟨(sI ?_),Q17⟩) ?_
 rotate_left 2
 refine dsp (fun h6 p6=>?_) fun h6 p6=>?_
 refine⟨fun h7=>have q7:=Ar h7;have p7:=of_decide_eq_false q7;?_,fun h7=>have q7:=Ao h7;have p7:=of_decide_eq_true q7;?_⟩
 refine zE (Bj (f).plan (f).st e) f.st (fun hm1=>⟨(sI ?_),Q17⟩) ?_
 rotate_left 2
 refine⟨h3,h6,dsp (fun h8 p8=>?_) fun h8 p8=>?_⟩
 refine zE (Bj (f).plan (f).st e) f.st (fun hm1=>⟨(sI ?_),Q17⟩) ?_
 rotate_left 2
 refine zE (Bj (f).plan (f).st e) (⟨f.st.stack,true,decide (((fieldAt f.plan.shapes x1 e.field).getD fld0).kind=6),utf0,f.st.ended⟩:Fa) (fun hm1=>⟨h4,(sI ?_),Q17⟩) ?_
 rotate_left 2
 refine zE (Bj (f).plan (f).st e) (⟨f.st.stack,true,decide (((fieldAt f.plan.shapes x1 e.field).getD fld0).kind=6),utf0,f.st.ended⟩:Fa) (fun hm1=>⟨h3,h6,h4,(sI ?_),Q17⟩) ?_
 rotate_left 2
 refine dsp (fun h5 p5=>?_) fun h5 p5=>?_
 refine⟨fun h6=>have q6:=Ar h6;have p6:=of_decide_eq_false q6;?_,fun h6=>have q6:=Ao h6;have p6:=of_decide_eq_true q6;?_⟩
 refine zE (Bj (f).plan (f).st e) f.st (fun hm1=>⟨(sI ?_),Q17⟩) ?_
 rotate_left 2
 refine⟨h3,h5,dsp (fun h7 p7=>?_) fun h7 p7=>?_⟩
 refine zE (Bj (f).plan (f).st e) f.st (fun hm1=>⟨(sI ?_),Q17⟩) ?_
 rotate_left 2
 refine zE (Bj (f).plan (f).st e) (⟨f.st.stack++[((fieldAt f.plan.shapes x1 e.field).getD fld0).msg],f.st.inText,f.st.isText,f.st.utf,f.st.ended⟩:Fa) (fun hm1=>⟨h4,h5,Q9,(sI ?_),Q17⟩) ?_
 rotate_left 2
 refine zE (Bj (f).plan (f).st e) f.st (fun hm1=>⟨h3,h5,h4,h5,(sI ?_),Q17⟩) ?_
 rotate_left 2
 all_goals first|(rw[hvs,hvc,hB];simp_all[utf0];done)|(rw[hvc,hB];simp_all;done)|(rw[hvs,hvc];simp_all[isBytes,utf0];done)|(rw[hvc];simp_all[isBytes,utf0];done)|(rw[hvs];done)|(rw[hvc];done)|(grind (splits:=25) [isBytes,fld0])
theorem part_i (f:Fmr) (e:Ev) (hp1:List.length (e).text≤Ba):Fun Tryz.prog 134 [vP 0,.agg (cEv e)] [.cells (Fu 1 f),.lst .int f.st.stack] (.v (vI (C9 (f).st e))) [.cells [.seq .shp (f).plan.shapes,.int .i64 (f).plan.root,.int .i64 (f).plan.deep,.int .i64 (f).plan.most,.own 1,.bool (Bn (f).st e).inText,.bool (Bn (f).st e).isText,.int .i64 (Bn (f).st e).utf.want,.int .i64 (Bn (f).st e).utf.low,.int .i64 (Bn (f).st e).utf.high,.bool (Bn (f).st e).ended],.lst .int (Bn (f).st e).stack]:=by
 have hN:Ba=274877906944:=rfl
 refine Av Tryz.func134 Q8 Q8 (w:=let zi:Int→C:= .int .i64;let z2:List C:=[.seq .shp f.plan.shapes,zi f.plan.root,zi f.plan.deep,zi f.plan.most,.own 1,.bool false,.bool f.st.isText,zi f.st.utf.want,zi f.st.utf.low,zi f.st.utf.high,.bool f.st.ended];let z5:S:= .v (vI (C9 (f).st e));let z6:List Blk:=[.cells (Fu 1 f),.lst .int f.st.stack];let z7:=Ft f.st.utf e.text;let z8:=Bn (f).st e;let z1:List C:=[.seq .shp (f).plan.shapes,zi (f).plan.root,zi (f).plan.deep,zi (f).plan.most,.own 1,.bool z8.inText,.bool z8.isText,zi z8.utf.want,zi z8.utf.low,zi z8.utf.high,.bool z8.ended];let z3:List Blk:=[.cells z1,.lst .int z8.stack];let z9:=Lf (.v (vI 0)) z5 [.cells z2,.lst .int f.st.stack] z3;let z10:List Blk:=[.cells (Fu 1 f),.lst .int f.st.stack,.cells (Hy z7)];let z11:=C1 f.st.utf e.text;let z4:S:= .tup [.agg (Hy z7),vI z11];(.br (.br (.seg [.tree (fr (.two 6 (fr (.one 10 (.one 11 (.first 12 (.done)))) 7 3) 10 (.one 6 (fr (.one 11 (.first 12 (.done))) 7 3))) 0 6) 13 [],.call [] z4 [],.at 0,.keep [0,5,6],.sel [0,1,3],.call [] z4 [],.at 0,.keep [0,5,6],.sel [0,1,3]] (.br (.leaf () [0,1]) (.leaf () [0,1]))) (.leaf () [0,1])) (.br (.br (.br (.leaf () [0,1]) (.leaf () [0,1])) (.leaf () [0,1])) (.leaf () [0,1])),Bc (decide (e.kind=4)) (Bc f.st.isText ((Fp 196 [.agg (Hy f.st.utf),vT e.text] [] z4 [])∧(Fp 196 [.agg (Hy f.st.utf),vT e.text] [] z4 [])∧((z10:List Blk)=z10)∧(([(0,.v (vP 0)),(5,.v (vP 2)),(6,.v (vI z11))]:List (Nat×S))=[(0,.v (vP 0)),(5,.v (vP 2)),(6,.v (vI z11))])∧Bc (decide (0≤C1 f.st.utf e.text)) (Lf (.v (vI 5)) z5 z6 z3) (Lf (.v (vI 0)) z5 [.cells [.seq .shp f.plan.shapes,zi f.plan.root,zi f.plan.deep,zi f.plan.most,.own 1,.bool f.st.inText,.bool f.st.isText,zi z7.want,zi z7.low,zi z7.high,.bool f.st.ended],.lst .int f.st.stack] z3)) (Lf (.v (vI 0)) z5 z6 z3)) (Bc (decide (e.kind=5)) (Bc f.st.isText (Bc (!(decide (f.st.utf.want=0)&&(decide (f.st.utf.low=0)&&decide (f.st.utf.high=0)))) (Lf (.v (vI 5)) z5 z6 z3) z9) z9) (Lf (.v (vI 2)) z5 z6 z3)))) Q8 ?_
 refine dsp (fun h1 p1=>?_) fun h1 p1=>?_
 refine⟨fun h2=>?_,fun h2=>?_⟩
 refine⟨(Re f.st.utf _ Q5),(Re f.st.utf _ Q5),rfl,rfl,dsp (fun h3 p3=>?_) fun h3 p3=>?_⟩
 refine zE (Bn (f).st e) f.st (fun hm1=>⟨(sI ?_),Q17⟩) ?_
 rotate_left 2
 refine zE (Bn (f).st e) (⟨f.st.stack,f.st.inText,f.st.isText,(Ft f.st.utf e.text),f.st.ended⟩:Fa) (fun hm1=>⟨(sI ?_),Q17⟩) ?_
 rotate_left 2
 refine zE (Bn (f).st e) f.st (fun hm1=>⟨(sI ?_),Q17⟩) ?_
 rotate_left 2
 refine dsp (fun h2 p2=>?_) fun h2 p2=>?_
 refine⟨fun h3=>?_,fun h3=>?_⟩
 refine⟨fun h4=>have q4:=Ar h4;have p4:=(M2 dT (M2 dT dF)).1 q4;?_,fun h4=>have q4:=Ao h4;have p4:=(M1 dT (M1 dT dT)).1 q4;?_⟩
 have hu:f.st.utf≠utf0:=Apg (by simpa using q4)
 refine zE (Bn (f).st e) f.st (fun hm1=>⟨(sI ?_),Q17⟩) ?_
 rotate_left 2
 have hu:f.st.utf=utf0:=Apf (by simpa using q4)
 refine zE (Bn (f).st e) (⟨f.st.stack,false,f.st.isText,f.st.utf,f.st.ended⟩:Fa) (fun hm1=>⟨(sI ?_),Q17⟩) ?_
 rotate_left 2
 refine zE (Bn (f).st e) (⟨f.st.stack,false,f.st.isText,f.st.utf,f.st.ended⟩:Fa) (fun hm1=>⟨(sI ?_),Q17⟩) ?_
 rotate_left 2
 refine zE (Bn (f).st e) f.st (fun hm1=>⟨(sI ?_),Q17⟩) ?_
 rotate_left 2
 all_goals first|(simp_all[Bn,C9];done)|(grind[Bn,C9])
theorem next_i (f:Fmr) (e:Ev) (hp1:1≤List.length (f).st.stack) (hp2:List.length (f).st.stack≤1000) (hp3:Cp (f).plan.shapes=true) (hp4:List.length (e).text≤Ba) (hp5:(0:Int)≤(e).bits∧(e).bits≤18446744073709551615):Fun Tryz.prog 76 [vP 0,.agg (cEv e)] [.cells (Fu 1 f),.lst .int f.st.stack] (.v (vI (C2 (f).plan (f).st e))) [.cells [.seq .shp (f).plan.shapes,.int .i64 (f).plan.root,.int .i64 (f).plan.deep,.int .i64 (f).plan.most,.own 2,.bool (B5 (f).plan (f).st e).inText,.bool (B5 (f).plan (f).st e).isText,.int .i64 (B5 (f).plan (f).st e).utf.want,.int .i64 (B5 (f).plan (f).st e).utf.low,.int .i64 (B5 (f).plan (f).st e).utf.high,.bool (B5 (f).plan (f).st e).ended],.dead,.lst .int (B5 (f).plan (f).st e).stack]:=by
 have hN:Ba=274877906944:=rfl
 refine Av Tryz.func76 Q8 Q8 (w:=let zi:Int→C:= .int .i64;let z4:List C:=[.seq .shp f.plan.shapes,zi f.plan.root,zi f.plan.deep,zi f.plan.most,.own 2,.bool f.st.inText,.bool f.st.isText,zi f.st.utf.want,zi f.st.utf.low,zi f.st.utf.high,.bool true];let z6:=(f.st.stack.length:Int);let z8:=Bj (f).plan (f).st e;let z2:List C:=[.seq .shp (f).plan.shapes,zi (f).plan.root,zi (f).plan.deep,zi (f).plan.most,.own 2,.bool z8.inText,.bool z8.isText,zi z8.utf.want,zi z8.utf.low,zi z8.utf.high,.bool z8.ended];let z9:S:= .v (vI (C2 (f).plan (f).st e));let z11:=B5 (f).plan (f).st e;let z1:List C:=[.seq .shp (f).plan.shapes,zi (f).plan.root,zi (f).plan.deep,zi (f).plan.most,.own 2,.bool z11.inText,.bool z11.isText,zi z11.utf.want,zi z11.utf.low,zi z11.utf.high,.bool z11.ended];let z7:List Blk:=[.cells z1,.dead,.lst .int z11.stack];let z5:=Lf (.v (vI 2)) z9 [.cells (Fu 2 f),.dead,.lst .int f.st.stack] z7;let z12:=Bc (decide (e.kind=8)) (Bc (decide (z6=1)) (Lf (.v (vI 0)) z9 [.cells z4,.dead,.lst .int f.st.stack] z7) z5) z5;let z13:=Bn (f).st e;let z3:List C:=[.bool z13.inText,.bool z13.isText,zi z13.utf.want,zi z13.utf.low,zi z13.utf.high,.bool z13.ended];let z10:List Blk:=[.cells (.seq .shp (f).plan.shapes::zi (f).plan.root::zi (f).plan.deep::zi (f).plan.most:: .own 1::z3),.lst .int z13.stack];let z14:S:= .v (vI (E6 (f).plan (f).st e));let z15:List Blk:=[.cells z2,.dead,.lst .int z8.stack];let z16:S:= .v (vI (C9 (f).st e));let z17:List Blk:=[.cells (Fu 1 f),.lst .int f.st.stack];(.br (.seg [.at 0,.cut 0 4] (.leaf () [0,1,3])) (.br (.seg [.call [0,1] z16 z10,.at 0,.cut 0 4] (.leaf () [0,1,3])) (.seg [.call [] (.v (vB (Cf e.kind))) []] (.br (.seg [.call [0,1] z14 z15] (.leaf () [0,1,3])) (.br (.br (.seg [.ord (os 15 [14]) [],.as 47 (.v (vI (z6-1))),.at 0,.cut 0 4] (.leaf () [0,1,3])) (.br (.br (.seg [.at 0,.cut 0 4] (.leaf () [0,1,3])) (.seg [.at 0,.cut 0 4] (.leaf () [0,1,3]))) (.seg [.at 0,.cut 0 4] (.leaf () [0,1,3])))) (.br (.br (.seg [.at 0,.cut 0 4] (.leaf () [0,1,3])) (.seg [.at 0,.cut 0 4] (.leaf () [0,1,3]))) (.seg [.at 0,.cut 0 4] (.leaf () [0,1,3]))))))),Bc f.st.ended z5 (Bc f.st.inText ((Fp 134 [vP 0,.agg (cEv e)] z17 z16 z10)∧Lf z16 z9 [.cells (.seq .shp (f).plan.shapes::zi (f).plan.root::zi (f).plan.deep::zi (f).plan.most:: .own 2::z3),.dead,.lst .int z13.stack] z7) ((Fp 135 [vI e.kind] [] (.v (vB (Cf e.kind))) [])∧Bc (Cf e.kind) ((Fp 136 [vP 0,.agg (cEv e)] z17 z14 z15)∧Lf z14 z9 z15 z7) (Bc (decide (e.kind=7)) (Bc (decide (1<z6)) ((wI (z6-1))∧(wI (z6-1))∧(z6-1≤z6)∧((0:Int)≤z6-1)∧(z6-1≤z6)∧((0:Int)≤z6-1)∧Lf (.v (vI 0)) z9 [.cells (Fu 2 f),.dead,.lst .int (List.take ((Int.toNat (z6-1))-0) f.st.stack)] z7) z12) z12))))) Q8 ?_
 refine⟨fun h1=>?_,fun h1=>?_⟩
 refine zE (B5 (f).plan (f).st e) f.st (fun hm1=>⟨(sI ?_),Q17⟩) ?_
 rotate_left 2
 refine⟨fun h2=>?_,fun h2=>?_⟩
 refine zE (B5 (f).plan (f).st e) (Bn (f).st e) (fun hm1=>⟨(part_i f e Q5),(sI ?_),Q17⟩) ?_
 rotate_left 2
 refine⟨(Vh _),fun h3=>?_,fun h3=>?_⟩
 refine zE (B5 (f).plan (f).st e) (Bj (f).plan (f).st e) (fun hm1=>⟨(value_i f e Q5 Q5 Q5 Q5 Q5),(sI ?_),Q17⟩) ?_
 rotate_left 2
 refine dsp (fun h4 p4=>?_) fun h4 p4=>?_
 refine dsp (fun h5 p5=>?_) fun h5 p5=>?_
 refine zE (B5 (f).plan (f).st e) (⟨List.take ((Int.toNat ((f.st.stack.length:Int)-1))-0) f.st.stack,f.st.inText,f.st.isText,f.st.utf,f.st.ended⟩:Fa) (fun hm1=>⟨(Ac Q5 Q5),(Ac Q5 Q5),Q5,Q5,Q5,Q5,(sI ?_),Q17⟩) ?_
 rotate_left 2
 refine dsp (fun h6 p6=>?_) fun h6 p6=>?_
 refine dsp (fun h7 p7=>?_) fun h7 p7=>?_
 refine zE (B5 (f).plan (f).st e) (⟨f.st.stack,f.st.inText,f.st.isText,f.st.utf,true⟩:Fa) (fun hm1=>⟨(sI ?_),Q17⟩) ?_
 rotate_left 2
 refine zE (B5 (f).plan (f).st e) f.st (fun hm1=>⟨(sI ?_),Q17⟩) ?_
 rotate_left 2
 refine zE (B5 (f).plan (f).st e) f.st (fun hm1=>⟨(sI ?_),Q17⟩) ?_
 rotate_left 2
 refine dsp (fun h5 p5=>?_) fun h5 p5=>?_
 refine dsp (fun h6 p6=>?_) fun h6 p6=>?_
 refine zE (B5 (f).plan (f).st e) (⟨f.st.stack,f.st.inText,f.st.isText,f.st.utf,true⟩:Fa) (fun hm1=>⟨(sI ?_),Q17⟩) ?_
 rotate_left 2
 refine zE (B5 (f).plan (f).st e) f.st (fun hm1=>⟨(sI ?_),Q17⟩) ?_
 rotate_left 2
 refine zE (B5 (f).plan (f).st e) f.st (fun hm1=>⟨(sI ?_),Q17⟩) ?_
 rotate_left 2
 all_goals first|(simp_all[B5,C2];done)|(grind[B5,C2])
theorem Ak9 (r:Fs) (e:Ev) (hp1:List.length (e).text≤Ba) (hp2:Fh (r).utf=true):Fun Tryz.prog 168 [vP 0,.agg (cEv e)] [.cells (Ve 1 r),.lst .int r.stack] (.v (vI (C9 (Lo r) e))) [.cells (Ve 1 (Gj r e)),.lst .int (Gj r e).stack]:=by
 have hN:Ba=274877906944:=rfl
 refine Av Tryz.func168 Q8 Q8 (w:=let zi:Int→C:= .int .i64;let z1:List C:=[.own 1,zi r.field.number,zi r.field.kind,.bool r.field.rep,.bool r.field.packed,zi r.field.msg,.bool false,zi r.utf.want,zi r.utf.low,zi r.utf.high,.bool r.ended];let z2:List Blk:=[.cells (Ve 1 (Gj r e)),.lst .int (Gj r e).stack];let z4:S:= .v (vI (C9 (Lo r) e));let z5:=decide (r.field.kind=6);let z6:List Blk:=[.cells (Ve 1 r),.lst .int r.stack];let z7:=Ft r.utf e.text;let z8:=Lf (.v (vI 0)) z4 [.cells z1,.lst .int r.stack] z2;let z9:List Blk:=[.cells (Ve 1 r),.lst .int r.stack,.cells (Hy z7)];let z10:=C1 r.utf e.text;let z3:S:= .tup [.agg (Hy z7),vI z10];(.br (.seg [.tree (fr (.two 6 (fr (.one 10 (.one 11 (.first 12 (.done)))) 7 3) 10 (.one 6 (fr (.one 11 (.first 12 (.done))) 7 3))) 0 6) 13 [],.call [] z3 [],.at 0,.keep [0,5,6,7],.sel [0,1,3],.call [] z3 [],.at 0,.keep [0,5,6,7],.sel [0,1,3]] (.br (.br (.leaf () [0,1]) (.seg [.br true] (.leaf () [0,1]))) (.seg [.br false] (.leaf () [0,1])))) (.br (.br (.br (.leaf () [0,1]) (.leaf () [0,1])) (.leaf () [0,1])) (.leaf () [0,1])),Bc (decide (e.kind=4)) ((Fp 228 [.agg (Hy r.utf),vT e.text] [] z3 [])∧(Fp 228 [.agg (Hy r.utf),vT e.text] [] z3 [])∧((z9:List Blk)=z9)∧(([(0,.v (vP 0)),(5,.v (vB z5)),(6,.v (vP 2)),(7,.v (vI z10))]:List (Nat×S))=[(0,.v (vP 0)),(5,.v (vB z5)),(6,.v (vP 2)),(7,.v (vI z10))])∧Bc z5 (Bc (decide (0≤C1 r.utf e.text)) (Lf (.v (vI 5)) z4 z6 z2) ((z5=true)∧Lf (.v (vI 0)) z4 [.cells [.own 1,zi r.field.number,zi r.field.kind,.bool r.field.rep,.bool r.field.packed,zi r.field.msg,.bool r.open_,zi z7.want,zi z7.low,zi z7.high,.bool r.ended],.lst .int r.stack] z2)) ((z5=false)∧Lf (.v (vI 0)) z4 z6 z2)) (Bc (decide (e.kind=5)) (Bc z5 (Bc (decide (0<r.utf.want)) (Lf (.v (vI 5)) z4 z6 z2) z8) z8) (Lf (.v (vI 2)) z4 z6 z2)))) Q8 ?_
 refine dsp (fun h1 p1=>?_) fun h1 p1=>?_
 refine⟨(X6 r.utf _ Q5),(X6 r.utf _ Q5),rfl,rfl,dsp (fun h2 p2=>?_) fun h2 p2=>?_⟩
 refine dsp (fun h3 p3=>?_) fun h3 p3=>?_
 refine zE (Gj r e) r (fun hm1=>⟨(sI ?_),Q17⟩) ?_
 rotate_left 2
 refine zE (Gj r e) (⟨r.stack,r.field,r.open_,(Ft r.utf e.text),r.ended⟩:Fs) (fun hm1=>⟨h2,(sI ?_),Q17⟩) ?_
 rotate_left 2
 refine zE (Gj r e) r (fun hm1=>⟨h2,(sI ?_),Q17⟩) ?_
 rotate_left 2
 refine dsp (fun h2 p2=>?_) fun h2 p2=>?_
 refine dsp (fun h3 p3=>?_) fun h3 p3=>?_
 refine dsp (fun h4 p4=>?_) fun h4 p4=>?_
 have hu:r.utf≠utf0:=fun e=>by rw[e] at p4;exact absurd p4 (by decide)
 refine zE (Gj r e) r (fun hm1=>⟨(sI ?_),Q17⟩) ?_
 rotate_left 2
 have hw:=K5 hp2
 have hu:r.utf=utf0:=K4 hp2 (by omega)
 refine zE (Gj r e) (⟨r.stack,r.field,false,r.utf,r.ended⟩:Fs) (fun hm1=>⟨(sI ?_),Q17⟩) ?_
 rotate_left 2
 refine zE (Gj r e) (⟨r.stack,r.field,false,r.utf,r.ended⟩:Fs) (fun hm1=>⟨(sI ?_),Q17⟩) ?_
 rotate_left 2
 refine zE (Gj r e) r (fun hm1=>⟨(sI ?_),Q17⟩) ?_
 rotate_left 2
 all_goals first|(simp_all[Gj,Bn,C9,Lo];done)|(grind[Gj,Bn,C9,Lo])
theorem Aff (p:Pln) (r:Fs) (e:Ev) (hp1:1≤List.length (r).stack) (hp2:List.length (r).stack≤1000) (hp3:Cp (p).shapes=true) (hp4:List.length (e).text≤Ba) (hp5:(0:Int)≤(e).bits∧(e).bits≤18446744073709551615) (hp6:Cf (e).kind=true):Fun Tryz.prog 169 [.agg (Cd p),vP 0,.agg (cEv e)] [.cells (Ve 1 r),.lst .int r.stack] (.v (vI (E6 p (Lo r) e))) [.cells (Ve 2 (He p r e)),.dead,.lst .int (He p r e).stack]:=by
 have hN:Ba=274877906944:=rfl
 have hs6:=K2 hp3
 have hk:=hp6
 simp only[Cf,Bool.or_eq_true,decide_eq_true_eq] at hk
 refine Av Tryz.func169 Q8 Q8 (w:=let zi:Int→C:= .int .i64;let z6:List Blk:=[.cells (Ve 2 (He p r e)),.dead,.lst .int (He p r e).stack];let z7:List Blk:=[.cells (Ve 2 r),.dead,.lst .int r.stack];let z8:S:= .v (vI (E6 p (Lo r) e));let z9:=(r.stack.length:Int);let z10:=Lf (.v (vI 2)) z8 z7 z6;let z11:S:= .v (vI 0);(.intro (Sx (r.stack[Int.toNat (z9-1)]?)) fun x1=>let z1:=(fieldAt p.shapes x1 e.field).getD fld0;let z2:S:= .tup [.agg (Dd z1),vB (fieldAt p.shapes x1 e.field).isSome];.seg [.tree (fr (.two 16 (fr (.one 20 (.one 21 (.first 22 (.done)))) 17 3) 20 (.one 16 (fr (.one 21 (.first 22 (.done))) 17 3))) 0 16) 23 [],.as 22 (.v (vI (z9-1))),.el .int x1,.call [] z2 [],.at 0,.keep [1,3,5,7,8],.sel [0,1,2,3,4],.call [] z2 [],.at 0,.keep [1,3,5,7,8],.sel [0,1,2,3,4]] (.br (.seg [.at 0,.cut 0 0] (.leaf () [0,1,5])) (.br (.br (.seg [.call [] (.v (vB (Bs z1.kind))) []] (.br (.seg [.at 0,.cut 0 0] (.leaf () [0,1,5])) (.seg [.call [] (.v (vB (Cb z1.kind e.bits))) []] (.br (.seg [.at 0,.cut 0 0] (.leaf () [0,1,5])) (.seg [.at 0,.cut 0 0] (.leaf () [0,1,5])))))) (.br (.seg [.at 0,.cut 0 0] (.leaf () [0,1,5])) (.br (.seg [.at 0,.cut 0 0] (.leaf () [0,1,5])) (.seg [.ord (os 8 []) []] (.br (.seg [.at 0,.cut 0 0] (.leaf () [0,1,5])) (.seg [.ord (os 12 [7,8,11]) [1],.ty .int,.ty .int] (.leaf () [0,1,6]))))))) (.br (.seg [.call [] (.v (vB (Bs z1.kind))) []] (.br (.seg [.at 0,.cut 0 0] (.leaf () [0,1,5])) (.seg [.call [] (.v (vB (Cb z1.kind e.bits))) []] (.br (.seg [.at 0,.cut 0 0] (.leaf () [0,1,5])) (.seg [.at 0,.cut 0 0] (.leaf () [0,1,5])))))) (.br (.br (.seg [.at 0,.cut 0 0] (.leaf () [0,1,5])) (.seg [.at 0,.cut 0 0] (.leaf () [0,1,5]))) (.br (.seg [.at 0,.cut 0 0] (.leaf () [0,1,5])) (.seg [.ord (os 8 []) []] (.br (.seg [.at 0,.cut 0 0] (.leaf () [0,1,5])) (.seg [.ord (os 12 [7,8,11]) [1],.ty .int,.ty .int] (.leaf () [0,1,6]))))))))),El (r.stack[Int.toNat (z9-1)]?) fun x1=>(let z4:=fieldAt p.shapes x1 e.field;let z3:=z4.getD fld0;let z5:=r.stack[Int.toNat (z9-1)]? =some x1;(wI (z9-1))∧(wI (z9-1))∧(z9-1<z9)∧((0:Int)≤z9-1)∧(z9-1<z9)∧((0:Int)≤z9-1)∧z5∧z5∧(Fp 129 [.agg [.seq .shp p.shapes],vI x1,vI e.field] [] (.tup [.agg (Dd z3),vB z4.isSome]) [])∧(Fp 129 [.agg [.seq .shp p.shapes],vI x1,vI e.field] [] (.tup [.agg (Dd z3),vB z4.isSome]) [])∧(([.cells (Ve 1 r),.lst .int r.stack,.cells (Cd p),.cells (cEv e),.cells (Dd z3)]:List Blk)=[.cells (Ve 1 r),.lst .int r.stack,.cells (Cd p),.cells (cEv e),.cells (Dd z3)])∧(([(1,.v (vP 0)),(3,.v (vP 2)),(5,.v (vP 3)),(7,.v (vP 4)),(8,.v (vB z4.isSome))]:List (Nat×S))=[(1,.v (vP 0)),(3,.v (vP 2)),(5,.v (vP 3)),(7,.v (vP 4)),(8,.v (vB z4.isSome))])∧Bc (!z4.isSome) (Lf (.v (vI 3)) z8 z7 z6) (Bc (decide (z3.kind=6)) (Bc (decide (e.kind=2)) ((Fp 207 [vI z3.kind] [] (.v (vB (Bs z3.kind))) [])∧Bc (!(Bs z3.kind)) z10 ((Fp 229 [vI z3.kind,.c (.int .u64 e.bits)] [] (.v (vB (Cb z3.kind e.bits))) [])∧Bc (!(Cb z3.kind e.bits)) (Lf (.v (vI 4)) z8 z7 z6) (Lf z11 z8 z7 z6))) (Bc (decide (e.kind=3)) (Lf z11 z8 [.cells [.own 2,zi z3.number,zi z3.kind,.bool z3.rep,.bool z3.packed,zi z3.msg,.bool true,zi 0,zi 0,zi 0,.bool r.ended],.dead,.lst .int r.stack] z6) (Bc (!decide (z3.kind=8)) z10 (Bc (decide (p.deep≤z9)) (Lf (.v (vI 6)) z8 z7 z6) ((r.stack.length+List.length [z3.msg]≤Ba)∧Lf z11 z8 [.cells (Ve 2 r),.dead,.lst .int (r.stack++[z3.msg])] z6))))) (Bc (decide (e.kind=2)) ((Fp 207 [vI z3.kind] [] (.v (vB (Bs z3.kind))) [])∧Bc (!(Bs z3.kind)) z10 ((Fp 229 [vI z3.kind,.c (.int .u64 e.bits)] [] (.v (vB (Cb z3.kind e.bits))) [])∧Bc (!(Cb z3.kind e.bits)) (Lf (.v (vI 4)) z8 z7 z6) (Lf z11 z8 z7 z6))) (Bc (decide (e.kind=3)) (Bc (!(decide (z3.kind=7))) z10 (Lf z11 z8 [.cells [.own 2,zi z3.number,zi z3.kind,.bool z3.rep,.bool z3.packed,zi z3.msg,.bool true,zi 0,zi 0,zi 0,.bool r.ended],.dead,.lst .int r.stack] z6)) (Bc (!decide (z3.kind=8)) z10 (Bc (decide (p.deep≤z9)) (Lf (.v (vI 6)) z8 z7 z6) ((r.stack.length+List.length [z3.msg]≤Ba)∧Lf z11 z8 [.cells (Ve 2 r),.dead,.lst .int (r.stack++[z3.msg])] z6))))))))) Q8 ?_
 refine⟨(A8 (l:=r.stack) (i:=Int.toNat ((r.stack.length:Int)-1)) Q5),fun x1 hx1=>?_⟩
 have hlast:Kq r.stack=x1:=by unfold Kq;exact N0 (by rw[←hx1];congr 1;omega)
 have hown:Mb p (Lo r) e=(fieldAt p.shapes x1 e.field):=by unfold Mb;rw[show Kq (Lo r).stack=x1 from hlast]
 refine⟨(Ac Q5 Q5),(Ac Q5 Q5),Q5,Q5,Q5,Q5,hx1,hx1,(Rf p.shapes _ _ Q5 (Cy hp3)),(Rf p.shapes _ _ Q5 (Cy hp3)),rfl,rfl,fun h1=>have q1:=Ar h1;?_,fun h1=>have q1:=Ao h1;?_⟩
 have ho:(fieldAt p.shapes x1 e.field)=none:=by simpa using q1
 have hg:(fieldAt p.shapes x1 e.field).getD fld0=fld0:=by rw[ho];rfl
 have hvc:=Hb (hown.trans ho)
 have hvs:=Qz (hown.trans ho)
 refine zE (He p r e) r (fun hm1=>⟨(sI ?_),Q17⟩) ?_
 rotate_left 2
 obtain ⟨o,ho⟩:=Option.isSome_iff_exists.1 q1
 have hg:(fieldAt p.shapes x1 e.field).getD fld0=o:=by rw[ho];rfl
 have hvc:=J3 (hown.trans ho)
 have hvs:=Hc (hown.trans ho)
 refine dsp (fun h2 p2=>?_) fun h2 p2=>?_
 refine dsp (fun h3 p3=>?_) fun h3 p3=>?_
 refine⟨(Gk _),fun h4=>have q4:=Ar h4;have p4:=Bw q4;?_,fun h4=>have q4:=Ao h4;have p4:=Bp q4;?_⟩
 refine zE (He p r e) r (fun hm1=>⟨(sI ?_),Q17⟩) ?_
 rotate_left 2
 refine⟨(Ac4 _ _ Q5),fun h5=>have q5:=Ar h5;?_,fun h5=>have q5:=Ao h5;?_⟩
 refine zE (He p r e) r (fun hm1=>⟨(sI ?_),Q17⟩) ?_
 rotate_left 2
 refine zE (He p r e) r (fun hm1=>⟨(sI ?_),Q17⟩) ?_
 rotate_left 2
 refine dsp (fun h4 p4=>?_) fun h4 p4=>?_
 refine zE (He p r e) (⟨r.stack,((fieldAt p.shapes x1 e.field).getD fld0),true,utf0,r.ended⟩:Fs) (fun hm1=>⟨(sI ?_),Q17⟩) ?_
 rotate_left 2
 refine⟨fun h5=>have q5:=Ar h5;have p5:=of_decide_eq_false q5;?_,fun h5=>have q5:=Ao h5;have p5:=of_decide_eq_true q5;?_⟩
 refine zE (He p r e) r (fun hm1=>⟨(sI ?_),Q17⟩) ?_
 rotate_left 2
 refine dsp (fun h6 p6=>?_) fun h6 p6=>?_
 refine zE (He p r e) r (fun hm1=>⟨(sI ?_),Q17⟩) ?_
 rotate_left 2
 refine zE (He p r e) (⟨r.stack++[((fieldAt p.shapes x1 e.field).getD fld0).msg],r.field,r.open_,r.utf,r.ended⟩:Fs) (fun hm1=>⟨Q9,(sI ?_),Q17⟩) ?_
 rotate_left 2
 refine dsp (fun h3 p3=>?_) fun h3 p3=>?_
 refine⟨(Gk _),fun h4=>have q4:=Ar h4;have p4:=Bw q4;?_,fun h4=>have q4:=Ao h4;have p4:=Bp q4;?_⟩
 refine zE (He p r e) r (fun hm1=>⟨(sI ?_),Q17⟩) ?_
 rotate_left 2
 refine⟨(Ac4 _ _ Q5),fun h5=>have q5:=Ar h5;?_,fun h5=>have q5:=Ao h5;?_⟩
 refine zE (He p r e) r (fun hm1=>⟨(sI ?_),Q17⟩) ?_
 rotate_left 2
 refine zE (He p r e) r (fun hm1=>⟨(sI ?_),Q17⟩) ?_
 rotate_left 2
 refine dsp (fun h4 p4=>?_) fun h4 p4=>?_
 refine⟨fun h5=>have q5:=Ar h5;have p5:=of_decide_eq_false q5;?_,fun h5=>have q5:=Ao h5;have p5:=of_decide_eq_true q5;?_⟩
 refine zE (He p r e) r (fun hm1=>⟨(sI ?_),Q17⟩) ?_
 rotate_left 2
 refine zE (He p r e) (⟨r.stack,((fieldAt p.shapes x1 e.field).getD fld0),true,utf0,r.ended⟩:Fs) (fun hm1=>⟨(sI ?_),Q17⟩) ?_
 rotate_left 2
 refine⟨fun h5=>have q5:=Ar h5;have p5:=of_decide_eq_false q5;?_,fun h5=>have q5:=Ao h5;have p5:=of_decide_eq_true q5;?_⟩
 refine zE (He p r e) r (fun hm1=>⟨(sI ?_),Q17⟩) ?_
 rotate_left 2
 refine dsp (fun h6 p6=>?_) fun h6 p6=>?_
 refine zE (He p r e) r (fun hm1=>⟨(sI ?_),Q17⟩) ?_
 rotate_left 2
 refine zE (He p r e) (⟨r.stack++[((fieldAt p.shapes x1 e.field).getD fld0).msg],r.field,r.open_,r.utf,r.ended⟩:Fs) (fun hm1=>⟨Q9,(sI ?_),Q17⟩) ?_
 rotate_left 2
 all_goals first|(rw[He,hvs,hvc];simp_all[isBytes,utf0,Lo];done)|(rw[hvc];simp_all[isBytes,utf0,Lo];done)|(grind (splits:=25) [isBytes,fld0,Lo,He])
theorem Art (p:Pln) (r:Fs) (e:Ev) (hp1:1≤List.length (r).stack) (hp2:List.length (r).stack≤1000) (hp3:Cp (p).shapes=true) (hp4:List.length (e).text≤Ba) (hp5:(0:Int)≤(e).bits∧(e).bits≤18446744073709551615) (hp6:Fh (r).utf=true):Fun Tryz.prog 106 [.agg (Cd p),vP 0,.agg (cEv e)] [.cells (Ve 1 r),.lst .int r.stack] (.v (vI (C2 p (Lo r) e))) [.cells (Ve 2 (Fr p r e)),.dead,.lst .int (Fr p r e).stack]:=by
 have hN:Ba=274877906944:=rfl
 refine Av Tryz.func106 Q8 Q8 (w:=let z1:List Blk:=[.cells (Ve 2 (Fr p r e)),.dead,.lst .int (Fr p r e).stack];let z2:List Blk:=[.cells (Ve 2 (He p r e)),.dead,.lst .int (He p r e).stack];let z4:S:= .v (vI (E6 p (Lo r) e));let z5:=(r.stack.length:Int);let z6:S:= .v (vI (C2 p (Lo r) e));let z3:=Lf (.v (vI 2)) z6 [.cells (Ve 2 r),.dead,.lst .int r.stack] z1;let z7:List Blk:=[.cells (Ve 1 r),.lst .int r.stack];let z8:S:= .v (vI (C9 (Lo r) e));let z9:List Blk:=[.cells (Ve 1 (Gj r e)),.lst .int (Gj r e).stack];(.br (.seg [.at 0,.cut 0 0] (.leaf () [0,1,4])) (.br (.seg [.call [0,1] z8 z9,.at 0,.cut 0 0] (.leaf () [0,1,4])) (.br (.seg [.br true,.call [0,1] z4 z2] (.leaf () [0,1,4])) (.br (.seg [.br true,.call [0,1] z4 z2] (.leaf () [0,1,4])) (.br (.seg [.call [0,1] z4 z2] (.leaf () [0,1,4])) (.br (.br (.seg [.as 44 (.v (vI (z5-1))),.at 0,.cut 0 0] (.leaf () [0,1,4])) (.seg [.at 0,.cut 0 0] (.leaf () [0,1,4]))) (.br (.br (.seg [.at 0,.cut 0 0] (.leaf () [0,1,4])) (.seg [.at 0,.cut 0 0] (.leaf () [0,1,4]))) (.seg [.at 0,.cut 0 0] (.leaf () [0,1,4])))))))),Bc r.ended z3 (Bc r.open_ ((Fp 168 [vP 0,.agg (cEv e)] z7 z8 z9)∧Lf z8 z6 [.cells (Ve 2 (Gj r e)),.dead,.lst .int (Gj r e).stack] z1) (Bc (decide (e.kind=2)) (((decide (e.kind=2))=true)∧(Fp 169 [.agg (Cd p),vP 0,.agg (cEv e)] z7 z4 z2)∧Lf z4 z6 z2 z1) (Bc (decide (e.kind=3)) (((decide (e.kind=3))=true)∧(Fp 169 [.agg (Cd p),vP 0,.agg (cEv e)] z7 z4 z2)∧Lf z4 z6 z2 z1) (Bc (decide (e.kind=6)) ((Fp 169 [.agg (Cd p),vP 0,.agg (cEv e)] z7 z4 z2)∧Lf z4 z6 z2 z1) (Bc (decide (e.kind=7)) (Bc (decide (1<z5)) ((wI (z5-1))∧(z5-1≤z5)∧((0:Int)≤z5-1)∧Lf (.v (vI 0)) z6 [.cells (Ve 2 r),.dead,.lst .int (List.take ((Int.toNat (z5-1))-0) r.stack)] z1) z3) (Bc (decide (e.kind=8)) (Bc (decide (z5=1)) (Lf (.v (vI 0)) z6 [.cells [.own 2,.int .i64 r.field.number,.int .i64 r.field.kind,.bool r.field.rep,.bool r.field.packed,.int .i64 r.field.msg,.bool r.open_,.int .i64 r.utf.want,.int .i64 r.utf.low,.int .i64 r.utf.high,.bool true],.dead,.lst .int r.stack] z1) z3) z3)))))))) Q8 ?_
 refine⟨fun h1=>?_,fun h1=>?_⟩
 refine zE (Fr p r e) r (fun hm1=>⟨(sI ?_),Q17⟩) ?_
 rotate_left 2
 refine⟨fun h2=>?_,fun h2=>?_⟩
 refine zE (Fr p r e) (Gj r e) (fun hm1=>⟨(Ak9 r e Q5 Q5),(sI ?_),Q17⟩) ?_
 rotate_left 2
 refine dsp (fun h3 p3=>?_) fun h3 p3=>?_
 refine zE (Fr p r e) (He p r e) (fun hm1=>⟨h3,(Aff p r e Q5 Q5 Q5 Q5 Q5 (by simp_all[Cf])),(sI ?_),Q17⟩) ?_
 rotate_left 2
 refine dsp (fun h4 p4=>?_) fun h4 p4=>?_
 refine zE (Fr p r e) (He p r e) (fun hm1=>⟨h4,(Aff p r e Q5 Q5 Q5 Q5 Q5 (by simp_all[Cf])),(sI ?_),Q17⟩) ?_
 rotate_left 2
 refine dsp (fun h5 p5=>?_) fun h5 p5=>?_
 refine zE (Fr p r e) (He p r e) (fun hm1=>⟨(Aff p r e Q5 Q5 Q5 Q5 Q5 (by simp_all[Cf])),(sI ?_),Q17⟩) ?_
 rotate_left 2
 refine dsp (fun h6 p6=>?_) fun h6 p6=>?_
 refine dsp (fun h7 p7=>?_) fun h7 p7=>?_
 refine zE (Fr p r e) (⟨List.take ((Int.toNat ((r.stack.length:Int)-1))-0) r.stack,r.field,r.open_,r.utf,r.ended⟩:Fs) (fun hm1=>⟨(Ac Q5 Q5),Q5,Q5,(sI ?_),Q17⟩) ?_
 rotate_left 2
 refine zE (Fr p r e) r (fun hm1=>⟨(sI ?_),Q17⟩) ?_
 rotate_left 2
 refine dsp (fun h7 p7=>?_) fun h7 p7=>?_
 refine dsp (fun h8 p8=>?_) fun h8 p8=>?_
 refine zE (Fr p r e) (⟨r.stack,r.field,r.open_,r.utf,true⟩:Fs) (fun hm1=>⟨(sI ?_),Q17⟩) ?_
 rotate_left 2
 refine zE (Fr p r e) r (fun hm1=>⟨(sI ?_),Q17⟩) ?_
 rotate_left 2
 refine zE (Fr p r e) r (fun hm1=>⟨(sI ?_),Q17⟩) ?_
 rotate_left 2
 all_goals first|(simp_all[Fr,C2,Lo,Cf];done)|(grind[Fr,C2,Lo,Cf])
structure frameCode_i_V0 where
 f:Fmr
 v:Nat
def frameCode_i_F0 (p:Pln) (l:List Ev):Fam:=⟨frameCode_i_V0,fun q1=>[(1,.v (.c (.seq .ev l))),(6,.v (vP 0)),(32,.v (.c (.seq .ev (List.drop 1 l)))),(33,.v (vI ((List.length (List.drop 1 l):Nat):Int))),(34,.v (vI (q1.v:Int)))],fun q1=>[.cells (Fu 1 q1.f),.lst .int q1.f.st.stack],fun q1=>q1.v+1≤l.length∧(q1.f).plan=p∧1≤List.length (q1.f).st.stack∧List.length (q1.f).st.stack≤8∧Ln p (q1.f).st (List.drop q1.v (List.drop 1 l)) ((q1.v:Int)+1)=Bk p l,fun q1=>l.length-q1.v⟩
theorem frameCode_i (p:Pln) (l:List Ev) (hp1:l.length≤Ba) (hp2: ∀e∈l,EvB e):Fun Tryz.prog 29 [.agg (Cd p),.c (.seq .ev l)] [] (.tup [vI (Bk p l).1,vI (Bk p l).2]) []:=by
 have hN:Ba=274877906944:=rfl
 refine Av Tryz.func29 Q8 Q8 (w:=let zi:Int→C:= .int .i64;let z6:S:= .tup [vI (Bk p l).1,vI (Bk p l).2];let z7:=List.drop 1 l;let z8:=Lf (.tup [vI 1,vI 0]) z6 [] [];let z9:=(z7.length:Int);let z10:=(l.length:Int);let z11:=frameCode_i_F0 p l;(.seg [.call [] (.v (vB (B3 p))) []] (.br (.leaf () []) (.br (.leaf () []) (.intro (Sx (l[0]?)) fun x1=> .seg [.el .ev x1] (.br (.leaf () []) (.seg [.ty .int,.at 0,.keep [1,6,32,33,34],.sel [2,1]] (.loop z11 fun q1=>let z4:S:= .v (vI ((q1.v:Int)+1));.br (.intro (Sx (z7[q1.v]?)) fun x2=>let z1:=B5 (q1.f).plan (q1.f).st x2;.seg [.el .ev x2,.call [0,1] (.v (vI (C2 (q1.f).plan (q1.f).st x2))) [.cells [.seq .shp (q1.f).plan.shapes,zi (q1.f).plan.root,zi (q1.f).plan.deep,zi (q1.f).plan.most,.own 2,.bool z1.inText,.bool z1.isText,zi z1.utf.want,zi z1.utf.low,zi z1.utf.high,.bool z1.ended],.dead,.lst .int z1.stack]] (.br (.seg [.as 46 z4] (.leaf () [])) (.seg [.as 47 z4,.at 0,.keep [1,6,32,33,34],.sel [0,3]] (.next)))) (.br (.leaf () []) (.leaf () [])))))))),(Fp 57 [.agg (Cd p)] [] (.v (vB (B3 p))) [])∧Bc (!(B3 p)) z8 (Bc (decide (z10=0)) z8 (El (l[0]?) fun x1=>((l[0]? =some x1)∧((0:Int)≤0)∧Bc (!decide (x1.kind=1)) z8 ((1≤z10)∧((0:Int)≤1)∧z11.Has [(1,.v (.c (.seq .ev l))),(6,.v (vP 0)),(32,.v (.c (.seq .ev z7))),(33,.v (vI z9)),(34,.v (vI 0))] [.cells [.seq .shp p.shapes,zi p.root,zi p.deep,zi p.most,.own 1,.bool false,.bool false,zi 0,zi 0,zi 0,.bool false],.lst .int [p.root]]∧∀q1,z11.inv q1→(let z5:=(q1.v:Int);Bc (decide (z5<z9)) (El (z7[q1.v]?) fun x2=>(let z2:=B5 (q1.f).plan (q1.f).st x2;let z3:=C2 (q1.f).plan (q1.f).st x2;(z7[q1.v]? =some x2)∧((0:Int)≤z5)∧(Fp 76 [vP 0,.agg (cEv x2)] [.cells (Fu 1 q1.f),.lst .int q1.f.st.stack] (.v (vI z3)) [.cells [.seq .shp (q1.f).plan.shapes,zi (q1.f).plan.root,zi (q1.f).plan.deep,zi (q1.f).plan.most,.own 2,.bool z2.inText,.bool z2.isText,zi z2.utf.want,zi z2.utf.low,zi z2.utf.high,.bool z2.ended],.dead,.lst .int z2.stack])∧Bc (!decide (C2 (q1.f).plan (q1.f).st x2=0)) ((wI (z5+1))∧Lf (.tup [vI z3,vI (z5+1)]) z6 [] []) ((wI (z5+1))∧z11.Nxt q1 [(1,.v (.c (.seq .ev l))),(6,.v (vP 0)),(32,.v (.c (.seq .ev z7))),(33,.v (vI z9)),(34,.v (vI (z5+1)))] [.cells [.seq .shp (q1.f).plan.shapes,zi (q1.f).plan.root,zi (q1.f).plan.deep,zi (q1.f).plan.most,.own 1,.bool z2.inText,.bool z2.isText,zi z2.utf.want,zi z2.utf.low,zi z2.utf.high,.bool z2.ended],.lst .int z2.stack]))) (Bc (!q1.f.st.ended) (Lf (.tup [vI 7,vI z10]) z6 [] []) (Lf (.tup [vI 0,vI 0]) z6 [] []))))))))) Q8 ?_
 refine⟨(Wy p),fun h1=>have q1:=Ar h1;?_,fun h1=>have q1:=Ao h1;have p1:=C6 q1;?_⟩
 refine⟨(congrArg S.tup (Af (congrArg V.c (congrArg (C.int .i64) ?_)) (Af (congrArg V.c (congrArg (C.int .i64) ?_)) rfl))),rfl⟩
 rotate_left 2
 have hpl:B3 p=true:=Ao h1
 have hpo:=C6 hpl
 refine dsp (fun h2 p2=>?_) fun h2 p2=>?_
 refine⟨(congrArg S.tup (Af (congrArg V.c (congrArg (C.int .i64) ?_)) (Af (congrArg V.c (congrArg (C.int .i64) ?_)) rfl))),rfl⟩
 rotate_left 2
 refine⟨(A8 (l:=l) (i:=0) Q5),fun x1 hx1=>?_⟩
 refine⟨hx1,Q26,fun h3=>have q3:=Ar h3;have p3:=of_decide_eq_false q3;?_,fun h3=>have q3:=Ao h3;have p3:=of_decide_eq_true q3;?_⟩
 refine⟨(congrArg S.tup (Af (congrArg V.c (congrArg (C.int .i64) ?_)) (Af (congrArg V.c (congrArg (C.int .i64) ?_)) rfl))),rfl⟩
 rotate_left 2
 refine⟨Q5,Q26,Bv (j:=(⟨(⟨p,(⟨[p.root],false,false,utf0,false⟩:Fa)⟩:Fmr),0⟩:frameCode_i_V0)) Q12 Q12 (by dsimp only[frameCode_i_F0];exact⟨by omega,rfl,by simp,by simp,(M3 hx1 hpl Q5).symm⟩),fun (q1:frameCode_i_V0) hq_q1=>?_⟩
 have hi_q1:q1.v+1≤l.length∧(q1.f).plan=p∧1≤List.length (q1.f).st.stack∧List.length (q1.f).st.stack≤8∧Ln p (q1.f).st (List.drop q1.v (List.drop 1 l)) ((q1.v:Int)+1)=Bk p l:=hq_q1
 obtain ⟨v1,v2,v3,v4,v5⟩:=hi_q1
 refine dsp (fun h4 p4=>?_) fun h4 p4=>?_
 skip
 rw[List.length_drop] at p4
 refine⟨(A8 (l:=List.drop 1 l) (i:=q1.v) (by simp only[List.length_drop];omega)),fun x2 hx2=>?_⟩
 have he:=hp2 x2 (List.mem_of_mem_drop (List.mem_of_getElem? hx2))
 have hst:=Ra (p:=p) x2 v3 v4 (by omega)
 have hs:Cp q1.f.plan.shapes=true:=by rw[v2];exact hpo.2.1
 rw[C5 hx2,Ga] at v5
 refine⟨hx2,Q5,(next_i q1.f x2 Q5 Q5 (hs) (he.1) (he.2)),fun h5=>have q5:=Ar h5;have p5:=of_decide_eq_false q5;?_,fun h5=>have q5:=Ao h5;have p5:=of_decide_eq_true q5;?_⟩
 rw[v2] at p5
 rw[if_pos (by simpa using p5)] at v5
 refine⟨(Ac Q5 Q5),(congrArg S.tup (Af (congrArg V.c (congrArg (C.int .i64) ?_)) (Af (congrArg V.c (congrArg (C.int .i64) ?_)) rfl))),rfl⟩
 rotate_left 2
 rw[v2] at p5
 rw[if_neg (by simpa using p5)] at v5
 exact⟨(Ac Q5 Q5),Ay (j:=(⟨(⟨(q1.f).plan,(B5 (q1.f).plan (q1.f).st x2)⟩:Fmr),q1.v+1⟩:frameCode_i_V0)) Q12 Q12 (by dsimp only[frameCode_i_F0];exact⟨by simp only[List.length_drop] at *;omega,v2,by rw[v2];exact hst.1,by rw[v2];exact hst.2,by rw[v2,←v5,show (((q1.v+1:Nat)):Int)+1=(q1.v:Int)+1+1 by omega]⟩) (by dsimp only[frameCode_i_F0];omega)⟩
 rw[E2 p4,Hj] at v5
 rw[List.length_drop] at p4
 refine⟨fun h5=>have q5:=Ar h5;?_,fun h5=>have q5:=Ao h5;?_⟩
 refine⟨(congrArg S.tup (Af (congrArg V.c (congrArg (C.int .i64) ?_)) (Af (congrArg V.c (congrArg (C.int .i64) ?_)) rfl))),rfl⟩
 rotate_left 2
 refine⟨(congrArg S.tup (Af (congrArg V.c (congrArg (C.int .i64) ?_)) (Af (congrArg V.c (congrArg (C.int .i64) ?_)) rfl))),rfl⟩
 rotate_left 2
 all_goals first|(rw[←v5];done)|(rw[←v5,v2];done)|(rw[←v5];simp_all;done)|(rw[M4 (by simpa using h1)];done)|(rw[N2 hx1 (by omega)];done)|(rw[show l=[] from List.eq_nil_of_length_eq_zero (by omega)];rfl)|(simp_all[List.length_drop];omega)|(grind)
structure frameCode_s_V0 where
 r:Fs
 i:Nat
def Jw (p:Pln) (l:List Ev):Fam:=⟨frameCode_s_V0,fun q1=>[(1,.v (.c (.seq .ev l))),(2,.v (vP 0)),(6,.v (vP 1)),(7,.v (vI (q1.i:Int)))],fun q1=>[.cells (Cd p),.cells (Ve 2 q1.r),.lst .int q1.r.stack],fun q1=>1≤q1.i∧q1.i≤l.length∧1≤List.length (q1.r).stack∧List.length (q1.r).stack≤8∧Ln p (Lo q1.r) (List.drop q1.i l) (q1.i:Int)=Bk p l∧Fh (q1.r).utf=true,fun q1=>l.length-q1.i⟩
theorem Tv (p:Pln) (l:List Ev) (hp1:l.length≤Ba) (hp2: ∀e∈l,EvB e):Fun Tryz.prog 52 [.agg (Cd p),.c (.seq .ev l)] [] (.tup [vI (Bk p l).1,vI (Bk p l).2]) []:=by
 have hN:Ba=274877906944:=rfl
 refine Av Tryz.func52 Q8 Q8 (w:=let z3:S:= .tup [vI (Bk p l).1,vI (Bk p l).2];let z4:=Lf (.tup [vI 1,vI 0]) z3 [] [];let z5:=(l.length:Int);let z6:=Jw p l;(.seg [.call [] (.v (vB (B3 p))) []] (.br (.leaf () []) (.br (.leaf () []) (.intro (Sx (l[0]?)) fun x1=> .seg [.el .ev x1] (.br (.leaf () []) (.seg [.ty .int,.at 0,.keep [1,2,6,7],.sel [0,2,1]] (.loop z6 fun q1=> .br (.intro (Sx (l[q1.i]?)) fun x2=> .seg [.tree (fr (.one 6 (.first 7 (.done))) 0 6) 6 [],.el .ev x2,.call [1,2] (.v (vI (C2 p (Lo q1.r) x2))) [.cells (Ve 2 (Fr p q1.r x2)),.dead,.lst .int (Fr p q1.r x2).stack]] (.br (.leaf () []) (.seg [.as 34 (.v (vI ((q1.i:Int)+1))),.at 0,.keep [1,2,6,7],.sel [0,1,3]] (.next)))) (.br (.leaf () []) (.leaf () [])))))))),(Fp 42 [.agg (Cd p)] [] (.v (vB (B3 p))) [])∧Bc (!(B3 p)) z4 (Bc (decide (z5=0)) z4 (El (l[0]?) fun x1=>((l[0]? =some x1)∧((0:Int)≤0)∧Bc (!decide (x1.kind=1)) z4 (z6.Has [(1,.v (.c (.seq .ev l))),(2,.v (vP 0)),(6,.v (vP 1)),(7,.v (vI 1))] [.cells (Cd p),.cells [.own 2,.int .i64 0,.int .i64 0,.bool false,.bool false,.int .i64 0,.bool false,.int .i64 0,.int .i64 0,.int .i64 0,.bool false],.lst .int [p.root]]∧∀q1,z6.inv q1→(let z2:=(q1.i:Int);Bc (decide (z2<z5)) (El (l[q1.i]?) fun x2=>(let z1:=Fr p q1.r x2;(l[q1.i]? =some x2)∧((0:Int)≤z2)∧(l[q1.i]? =some x2)∧((0:Int)≤z2)∧(Fp 106 [.agg (Cd p),vP 0,.agg (cEv x2)] [.cells (Ve 1 q1.r),.lst .int q1.r.stack] (.v (vI (C2 p (Lo q1.r) x2))) [.cells (Ve 2 z1),.dead,.lst .int z1.stack])∧Bc (!decide (C2 p (Lo q1.r) x2=0)) (Lf (.tup [vI (C2 p (Lo q1.r) x2),vI z2]) z3 [] []) ((wI (z2+1))∧z6.Nxt q1 [(1,.v (.c (.seq .ev l))),(2,.v (vP 0)),(6,.v (vP 1)),(7,.v (vI (z2+1)))] [.cells (Cd p),.cells (Ve 2 z1),.lst .int z1.stack]))) (Bc (!q1.r.ended) (Lf (.tup [vI 7,vI z5]) z3 [] []) (Lf (.tup [vI 0,vI 0]) z3 [] []))))))))) Q8 ?_
 refine⟨(Wz p),fun h1=>have q1:=Ar h1;?_,fun h1=>have q1:=Ao h1;have p1:=C6 q1;?_⟩
 refine⟨(congrArg S.tup (Af (congrArg V.c (congrArg (C.int .i64) ?_)) (Af (congrArg V.c (congrArg (C.int .i64) ?_)) rfl))),rfl⟩
 rotate_left 2
 have hpl:B3 p=true:=Ao h1
 have hpo:=C6 hpl
 refine dsp (fun h2 p2=>?_) fun h2 p2=>?_
 refine⟨(congrArg S.tup (Af (congrArg V.c (congrArg (C.int .i64) ?_)) (Af (congrArg V.c (congrArg (C.int .i64) ?_)) rfl))),rfl⟩
 rotate_left 2
 refine⟨(A8 (l:=l) (i:=0) Q5),fun x1 hx1=>?_⟩
 refine⟨hx1,Q26,fun h3=>have q3:=Ar h3;have p3:=of_decide_eq_false q3;?_,fun h3=>have q3:=Ao h3;have p3:=of_decide_eq_true q3;?_⟩
 refine⟨(congrArg S.tup (Af (congrArg V.c (congrArg (C.int .i64) ?_)) (Af (congrArg V.c (congrArg (C.int .i64) ?_)) rfl))),rfl⟩
 rotate_left 2
 refine⟨Bv (j:=(⟨(⟨[p.root],(⟨0,0,false,false,0⟩:Fld),false,utf0,false⟩:Fs),1⟩:frameCode_s_V0)) Q12 Q12 (by dsimp only[Jw];exact⟨by omega,by omega,by simp,by simp,(M3 hx1 hpl Q5).symm,by show Fh utf0=true;decide⟩),fun (q1:frameCode_s_V0) hq_q1=>?_⟩
 have hi_q1:1≤q1.i∧q1.i≤l.length∧1≤List.length (q1.r).stack∧List.length (q1.r).stack≤8∧Ln p (Lo q1.r) (List.drop q1.i l) (q1.i:Int)=Bk p l∧Fh (q1.r).utf=true:=hq_q1
 obtain ⟨v1,v2,v3,v4,v5,v7⟩:=hi_q1
 refine dsp (fun h4 p4=>?_) fun h4 p4=>?_
 refine⟨(A8 (l:=l) (i:=q1.i) Q5),fun x2 hx2=>?_⟩
 have he:=hp2 x2 (List.mem_of_getElem? hx2)
 have hst:=Ra (p:=p) (a:=Lo q1.r) x2 v3 v4 (by omega)
 have hs:Cp p.shapes=true:=hpo.2.1
 rw[C5 hx2,Ga] at v5
 refine⟨hx2,Q5,hx2,Q5,(Art p q1.r x2 Q5 Q5 (hs) (he.1) (he.2) (v7)),fun h5=>have q5:=Ar h5;have p5:=of_decide_eq_false q5;?_,fun h5=>have q5:=Ao h5;have p5:=of_decide_eq_true q5;?_⟩
 rw[if_pos (by simpa using p5)] at v5
 refine⟨(congrArg S.tup (Af (congrArg V.c (congrArg (C.int .i64) ?_)) (Af (congrArg V.c (congrArg (C.int .i64) ?_)) rfl))),rfl⟩
 rotate_left 2
 rw[if_neg (by simpa using p5)] at v5
 exact⟨(Ac Q5 Q5),Ay (j:=(⟨(Fr p q1.r x2),q1.i+1⟩:frameCode_s_V0)) Q12 rfl (by dsimp only[Jw];exact⟨by omega,by omega,by rw[Wj];exact hst.1,by rw[Wj];exact hst.2,by rw[X4,←v5,show (((q1.i+1:Nat)):Int)=(q1.i:Int)+1 by omega],by rw[Ahx];exact Ahw v7⟩) (by dsimp only[Jw];omega)⟩
 rw[E2 p4,Hj] at v5
 refine⟨fun h5=>have q5:=Ar h5;?_,fun h5=>have q5:=Ao h5;?_⟩
 refine⟨(congrArg S.tup (Af (congrArg V.c (congrArg (C.int .i64) ?_)) (Af (congrArg V.c (congrArg (C.int .i64) ?_)) rfl))),rfl⟩
 rotate_left 2
 refine⟨(congrArg S.tup (Af (congrArg V.c (congrArg (C.int .i64) ?_)) (Af (congrArg V.c (congrArg (C.int .i64) ?_)) rfl))),rfl⟩
 rotate_left 2
 all_goals first|(rw[←v5];done)|(rw[←v5];simp_all[Lo];done)|(rw[M4 (by simpa using h1)];done)|(rw[N2 hx1 (by omega)];done)|(rw[show l=[] from List.eq_nil_of_length_eq_zero (by omega)];rfl)|(simp_all[List.length_drop,Lo];omega)|(grind[Lo])
theorem Aoo {sh:Int} {z:Sz} (h:MB sh z):(Kw sh z).sizes.length=z.list.length:=by
 obtain ⟨b,u,t,hl,hb,hu⟩:=h.bd
 have h1:(sT z.plan sh (tl z)).length=upL (-1) 1 (tl z):=by rw[hl,(V3 hu _ (Nat.le_refl _) hb).2,upT hb hu,S7 _ (Nat.le_refl _) hb]
 have h2:=Agv h.bd
 rw[Yv] at h2
 have h3:=h.len;have h4:=h.at_
 unfold Kw
 simp only[List.length_append,List.length_take,List.length_replicate,h1];omega
structure Sr where
 sizes:List Int
 v:Nat
def Ss (p:Pln) (l:List Ev):Fam:=⟨Sr,fun q1=>[(2,.v (vP 0)),(8,.v (vP 1)),(23,.v (vI (l.length:Int))),(24,.v (vI (q1.v:Int)))],fun q1=>[.cells (Cd p),.cells [.seq .shp p.shapes,.int .i64 p.root,.int .i64 p.deep,.int .i64 p.most,.seq .ev l,.int .i64 1,.own 2],.lst .int q1.sizes],fun q1=>q1.v≤l.length∧q1.sizes=List.replicate q1.v (-1),fun q1=>l.length-q1.v⟩
theorem Ama (p:Pln) (l:List Ev) (hp1:EvsB l):Fun Tryz.prog 103 [.agg (Cd p),.c (.seq .ev l)] [] (.tup [vT (B8 p l),vO 0]) [.lst .int (Cn p l)]:=by
 have hN:Ba=274877906944:=rfl
 have hvl:=hp1.1
 have h64:Aq=9223372036854775807:=rfl
 refine Av Tryz.func103 Q8 Q8 (w:=let zi:Int→C:= .int .i64;let z4:List C:=[.seq .shp p.shapes,zi p.root,zi p.deep,zi p.most,.seq .ev l,zi 1,.own 2];let z5:=(l.length:Int);let z6:=Bk p l;let z7:=Ss p l;(.seg [.call [] (.tup [vI z6.1,vI z6.2]) []] (.br (.seg [.at 0,.mkS 5 .int] (.leaf () [1])) (.seg [.at 0,.mk 1 6 .int,.keep [2,8,23,24],.sel [0,1,2]] (.loop z7 fun q1=>let z1:=(⟨p,l,1,q1.sizes⟩:Sz);.br (.seg [.ty .int,.ty .int,.as 35 (.v (vI ((q1.v:Int)+1))),.at 0,.keep [2,8,23,24],.sel [0,1,4]] (.next)) (.seg [.call [1,2] (.v (vT (mT (z1).plan p.root (tl z1)))) [.cells (S9 1 (Kw p.root z1)),.lst .int (Kw p.root z1).sizes]] (.intro (Sx ((Kw p.root z1).sizes[0]?)) fun x1=> .seg [.el .int x1,.ord (os 7 []) []] (.leaf () [2])))))),(Fp 29 [.agg (Cd p),.c (.seq .ev l)] [] (.tup [vI z6.1,vI z6.2]) [])∧Bc (!decide (z6.1=0)) (Lf (.tup [vT [],vO 0]) (.tup [vT (B8 p l),vO 0]) [.lst .int ([]:List Int)] [.lst .int (Cn p l)]) (z7.Has [(2,.v (vP 0)),(8,.v (vP 1)),(23,.v (vI z5)),(24,.v (vI 0))] [.cells (Cd p),.cells z4,.lst .int ([]:List Int)]∧∀q1,z7.inv q1→(let z2:=(⟨p,l,1,q1.sizes⟩:Sz);let z3:=(q1.v:Int);Bc (decide (z3<z5)) ((q1.sizes.length+List.length [(-1)]≤Ba)∧(wI (z3+1))∧z7.Nxt q1 [(2,.v (vP 0)),(8,.v (vP 1)),(23,.v (vI z5)),(24,.v (vI (z3+1)))] [.cells (Cd p),.cells z4,.lst .int (q1.sizes++[(-1)])]) ((Fp 161 [vP 0,vI p.root] [.cells [.seq .shp p.shapes,zi p.root,zi p.deep,zi p.most,.seq .ev l,zi 1,.own 1],.lst .int q1.sizes] (.v (vT (mT (z2).plan p.root (tl z2)))) [.cells (S9 1 (Kw p.root z2)),.lst .int (Kw p.root z2).sizes])∧El ((Kw p.root z2).sizes[0]?) fun x1=>((0<((List.length (Kw p.root z2).sizes:Nat):Int))∧((0:Int)≤0)∧((Kw p.root z2).sizes[0]? =some x1)∧Lf (.tup [vT (mT (z2).plan p.root (tl z2)),vO 0]) (.tup [vT (B8 p l),vO 0]) [.lst .int (List.set (Kw p.root z2).sizes 0 ((List.length (mT (z2).plan p.root (tl z2)):Nat):Int))] [.lst .int (Cn p l)])))))) Q8 ?_
 refine⟨(frameCode_i p _ Q5 (hp1.2.2)),fun h1=>have q1:=Ar h1;have p1:=of_decide_eq_false q1;?_,fun h1=>have q1:=Ao h1;have p1:=of_decide_eq_true q1;?_⟩
 refine⟨(congrArg S.tup (Af (congrArg V.c (congrArg C.str ?_)) rfl)),(Af (congrArg (Blk.lst .int) ?_) rfl)⟩
 rotate_left 2
 have hfc:=p1
 refine⟨Bv (j:=(⟨([]:List Int),0⟩:Sr)) Q12 rfl (by dsimp only[Ss];exact⟨by omega,rfl⟩),fun (q1:Sr) hq_q1=>?_⟩
 have hi_q1:q1.v≤l.length∧q1.sizes=List.replicate q1.v (-1):=hq_q1
 obtain ⟨v1,v2⟩:=hi_q1
 have vl:=congrArg List.length v2
 rw[List.length_replicate] at vl
 refine dsp (fun h2 p2=>?_) fun h2 p2=>?_
 exact⟨Q9,(Ac Q5 Q5),Ay (j:=(⟨q1.sizes++[(-1)],q1.v+1⟩:Sr)) Q12 rfl (by dsimp only[Ss];exact⟨by omega,by rw[v2,List.replicate_succ']⟩) (by dsimp only[Ss];omega)⟩
 have hz:(⟨p,l,1,q1.sizes⟩:Sz)=sz0 p l:=by unfold sz0;rw[v2,show q1.v=l.length by omega]
 have hmb:=Ab3 (p:=p) (l:=l) hfc hp1
 have hzm:MB p.root (⟨p,l,1,q1.sizes⟩:Sz):=by rw[hz];exact hmb.1
 have hzl:List.length (Kw p.root (⟨p,l,1,q1.sizes⟩:Sz)).sizes=l.length:=by rw[hz];exact Aoo hmb.1
 have hzt:=So hzm.bd (hzm.ev.drop _)
 refine⟨(Aun (⟨p,l,1,q1.sizes⟩:Sz) _ (hzm)),(A8 (l:=(Kw p.root (⟨p,l,1,q1.sizes⟩:Sz)).sizes) (i:=0) Q5),fun x1 hx1=>?_⟩
 refine⟨Q5,Q26,hx1,(congrArg S.tup (Af (congrArg V.c (congrArg C.str ?_)) rfl)),(Af (congrArg (Blk.lst .int) ?_) rfl)⟩
 rotate_left 2
 all_goals first|(simp_all[B8,Cn];done)|(grind[B8,Cn])
theorem Agz (p:Pln) (l:List Ev) (hp1:EvsB l):Fun Tryz.prog 54 [.agg (Cd p),.c (.seq .ev l)] [] (.v (vT (B8 p l))) []:=by
 have hN:Ba=274877906944:=rfl
 refine Av Tryz.func54 Q8 Q8 (w:=(.seg [.call [] (.tup [vT (B8 p l),vO 0]) [.lst .int (Cn p l)]] (.leaf () []),(Fp 103 [.agg (Cd p),.c (.seq .ev l)] [] (.tup [vT (B8 p l),vO 0]) [.lst .int (Cn p l)])∧Lf (.v (vT (B8 p l))) (.v (vT (B8 p l))) [] [])) Q8 ?_
 exact⟨(Ama p _ Q5),rfl,rfl⟩
theorem Y3 (p:Pln) (l:List Ev) (hp1:EvsB l):Fun Tryz.prog 53 [.agg (Cd p),.c (.seq .ev l)] [] (.v (vI ((List.length (B8 p l):Nat):Int))) []:=by
 have hN:Ba=274877906944:=rfl
 refine Av Tryz.func53 Q8 Q8 (w:=let z1:S:= .v (vI ((List.length (B8 p l):Nat):Int));(.seg [.call [] (.v (vT (B8 p l))) []] (.leaf () []),(Fp 54 [.agg (Cd p),.c (.seq .ev l)] [] (.v (vT (B8 p l))) [])∧Lf z1 z1 [] [])) Q8 ?_
 exact⟨(Agz p _ Q5),rfl,rfl⟩
theorem Aop (p:Pln) (l:List Ev) (hp1:EvsB l):Fun Tryz.prog 162 [.agg (Cd p),.c (.seq .ev l)] [] (.v (vT (B8 p l))) []:=by
 have hN:Ba=274877906944:=rfl
 have hvl:=hp1.1
 refine Av Tryz.func162 Q8 Q8 (w:=let z1:=(l.length:Int);let z3:=Bk p l;let z4:=List.drop 1 (List.take (Int.toNat (z1-1)) l);let z2:S:= .v (vT (mT p p.root z4));(.seg [.call [] (.tup [vI z3.1,vI z3.2]) []] (.br (.leaf () []) (.seg [.ord (os 10 [8]) [],.as 21 (.v (vI (z1-1))),.call [] z2 []] (.leaf () []))),(Fp 52 [.agg (Cd p),.c (.seq .ev l)] [] (.tup [vI z3.1,vI z3.2]) [])∧Bc (!decide (z3.1=0)) (Lf (.v (vT [])) (.v (vT (B8 p l))) [] []) ((wI (z1-1))∧(wI (z1-1))∧(z1-1≤z1)∧((1:Int)≤z1-1)∧((0:Int)≤1)∧(z1-1≤z1)∧((1:Int)≤z1-1)∧((0:Int)≤1)∧(Fp 167 [.agg (Cd p),vI p.root,.c (.seq .ev z4)] [] z2 [])∧Lf z2 (.v (vT (B8 p l))) [] []))) Q8 ?_
 refine⟨(Tv p _ Q5 (hp1.2.2)),fun h1=>have q1:=Ar h1;have p1:=of_decide_eq_false q1;?_,fun h1=>have q1:=Ao h1;have p1:=of_decide_eq_true q1;?_⟩
 refine⟨(congrArg S.v (congrArg V.c (congrArg C.str ?_))),rfl⟩
 rotate_left
 have hc:=Aa2 (p:=p) (l:=l) (by omega) hp1
 refine⟨(Ac Q5 Q5),(Ac Q5 Q5),Q5,Q5,Q26,Q5,Q5,Q26,(Ap8 p _ _ (hc.1) ((hp1.take _).drop _) (hc.2.2.2)),(congrArg S.v (congrArg V.c (congrArg C.str ?_))),rfl⟩
 rotate_left
 all_goals first|(exact hc.2.1.symm)|(simp_all[B8];done)|(grind[B8])
theorem Afg (p:Pln) (l:List Ev) (hp1:EvsB l):Fun Tryz.prog 104 [.agg (Cd p),.c (.seq .ev l)] [] (.v (vI ((List.length (B8 p l):Nat):Int))) []:=by
 have hN:Ba=274877906944:=rfl
 refine Av Tryz.func104 Q8 Q8 (w:=let z1:S:= .v (vI ((List.length (B8 p l):Nat):Int));(.seg [.call [] (.v (vT (B8 p l))) []] (.leaf () []),(Fp 162 [.agg (Cd p),.c (.seq .ev l)] [] (.v (vT (B8 p l))) [])∧Lf z1 z1 [] [])) Q8 ?_
 exact⟨(Aop p _ Q5),rfl,rfl⟩
structure ZInv (p:Pln) (sh:Int) (l:List Ev) (out:List Int) (i:Int) (o:List Int):Prop where
 lo:0≤i
 hi:i≤(l.length:Int)
 b0:Bd p sh l
 bd:Bd p sh (l.drop i.toNat)
 eq:o++sT p sh (l.drop i.toNat)=out++sT p sh l
theorem ZInv.refl {p:Pln} {sh:Int} {l:List Ev} {out:List Int} (h:Bd p sh l):ZInv p sh l out 0 out:=⟨Int.le_refl _,by omega,h,h,rfl⟩
theorem ZInv.len {p:Pln} {sh:Int} {l:List Ev} {out o:List Int} {i:Int} (h:ZInv p sh l out i o):(o.length:Int)=(out.length:Int)+i:=by
 have h1:=congrArg List.length h.eq
 rw[List.length_append,List.length_append,S7 _ (Nat.le_refl _) h.b0,S7 _ (Nat.le_refl _) h.bd,List.length_drop] at h1
 have:=h.lo;have:=h.hi;omega
theorem ZInv.end_ {p:Pln} {sh:Int} {l:List Ev} {out o:List Int} {i:Int} (h:ZInv p sh l out i o) (hi: ¬i<(l.length:Int)):o=out++sT p sh l:=by
 have h1:=h.eq
 rw[List.drop_eq_nil_of_le (by omega),sT,List.append_nil] at h1;exact h1
theorem ZInv.step {p:Pln} {sh:Int} {l:List Ev} {out o b:List Int} {i j:Int} {r:List Ev} (h:ZInv p sh l out i o) (hj:i≤j) (hl:j≤(l.length:Int)) (hd:l.drop j.toNat=r) (hb:Bd p sh r) (hm:sT p sh (l.drop i.toNat)=b++sT p sh r):ZInv p sh l out j (o++b):=
 ⟨by have:=h.lo;omega,hl,h.b0,by rw[hd];exact hb,by rw[hd,List.append_assoc,←hm];exact h.eq⟩
theorem ZInv.num {p:Pln} {sh:Int} {l:List Ev} {out o:List Int} {i:Int} {x:Ev} (h:ZInv p sh l out i o) (hx:l[i.toNat]? =some x) (hk:x.kind=2):
  ∃f,fieldAt p.shapes sh x.field=some f∧1≤Bt f (l.drop i.toNat)∧i+(Bt f (l.drop i.toNat):Int)≤(l.length:Int)∧
   ZInv p sh l out (i+(Bt f (l.drop i.toNat):Int)) (o++(if f.packed=true then ((C4 f ((l.drop i.toNat).take (Bt f (l.drop i.toNat)))).length:Int) else-1)::List.replicate (Bt f (l.drop i.toNat)-1) (-1)):=by
 have e:=C5 hx
 have hb:=h.bd
 have hlo:=h.lo
 rw[e] at hb
 obtain ⟨_,f,hf⟩:=Adp hb hk
 have hn:=Gv f (l.drop i.toNat)
 have hil:=(List.getElem?_eq_some_iff.1 hx).1
 have hm:=Kv f (l:=l.drop i.toNat) (by rw[List.length_drop];omega)
 rw[List.length_drop] at hm
 refine⟨f,hf,hn,by omega,h.step Q5 Q5 Q69 (Vx hb hk) (by rw[e,Aay hk,E0 hf];simp only[List.cons_append])⟩
theorem ZInv.text {p:Pln} {sh:Int} {l:List Ev} {out o:List Int} {i s:Int} {x:Ev} (h:ZInv p sh l out i o) (hx:l[i.toNat]? =some x) (hk:x.kind=3) (hs:s=i+(upL 0 0 (l.drop i.toNat):Int)):
  i+1≤s∧s+1≤(l.length:Int)∧ZInv p sh l out (s+1) (o++((Dt ((l.take s.toNat).drop (Int.toNat (i+1)))).length:Int)::List.replicate (Int.toNat (s-i)) (-1)):=by
 have e:=C5 hx
 have hb:=h.bd
 have hlo:=h.lo
 have hil:=(List.getElem?_eq_some_iff.1 hx).1
 rw[e] at hb
 generalize hr:l.drop (i.toNat+1)=r at *
 have hlr:=congrArg List.length hr
 rw[List.length_drop] at hlr
 cases hb with
 |num h2=>omega
 |down h2=>omega
 | @text _ e2 w ps l2 f hk2 hf hp hw hl2=>
  have hu:upL 0 0 (l.drop i.toNat)=ps.length+1:=by rw[e,Sn (by omega) (.inr hk)];exact congrArg (· +1) (Ab2 hp hw)
  rw[hu] at hs
  simp only[List.length_append,List.length_cons] at hlr
  refine⟨by omega,by omega,?_⟩
  have et:(l.take s.toNat).drop (Int.toNat (i+1))=ps:=by
   rw[Pz,show Int.toNat (i+1)=i.toNat+1 by omega,hr,show s.toNat-(i.toNat+1)=ps.length by omega,List.take_left]
  rw[et,show Int.toNat (s-i)=ps.length+1 by omega]
  exact h.step (r:=l2) Q5 Q5 (by rw[show Int.toNat (s+1)=i.toNat+1+(ps.length+1) by omega,←List.drop_drop,hr,Jp]) hl2 (by rw[e,Vz hk hp hw];simp only[List.cons_append])
theorem ZInv.down {p:Pln} {sh:Int} {l:List Ev} {out o:List Int} {i s:Int} {x:Ev} (h:ZInv p sh l out i o) (hx:l[i.toNat]? =some x) (h2:x.kind≠2) (h3:x.kind≠3) (hs:s=i+(upL 0 0 (l.drop i.toNat):Int)):
  ∃f,fieldAt p.shapes sh x.field=some f∧i+1≤s∧s+1≤(l.length:Int)∧Bd p f.msg ((l.take s.toNat).drop (Int.toNat (i+1)))∧(((l.take s.toNat).drop (Int.toNat (i+1))).length:Int)+i+2≤(l.length:Int)∧
   ZInv p sh l out (s+1) (o++((mT p f.msg ((l.take s.toNat).drop (Int.toNat (i+1)))).length:Int)::(sT p f.msg ((l.take s.toNat).drop (Int.toNat (i+1)))++[-1])):=by
 have e:=C5 hx
 have hb:=h.bd
 have hlo:=h.lo
 have hil:=(List.getElem?_eq_some_iff.1 hx).1
 rw[e] at hb
 generalize hr:l.drop (i.toNat+1)=r at *
 have hlr:=congrArg List.length hr
 rw[List.length_drop] at hlr
 cases hb with
 |num h=>omega
 |text h=>omega
 | @down _ e2 w b l2 f hk hf hb1 hw hl2=>
  have hu:upL 0 0 (l.drop i.toNat)=b.length+1:=by rw[e,Sn (by omega) (.inl hk)];exact congrArg (· +1) (Aoe hb1 hw)
  rw[hu] at hs
  simp only[List.length_append,List.length_cons] at hlr
  have et:(l.take s.toNat).drop (Int.toNat (i+1))=b:=by
   rw[Pz,show Int.toNat (i+1)=i.toNat+1 by omega,hr,show s.toNat-(i.toNat+1)=b.length by omega,List.take_left]
  rw[et]
  refine⟨f,hf,by omega,by omega,hb1,by omega,?_⟩
  exact h.step (r:=l2) Q5 Q5 (by rw[show Int.toNat (s+1)=i.toNat+1+(b.length+1) by omega,←List.drop_drop,hr,Jp]) hl2 (by rw[e,V2 hk hb1 hw,E0 hf];simp only[List.cons_append,List.append_assoc,List.nil_append])
theorem Ag0 {k:Nat} :List.replicate (k+1) (-1:Int)=List.replicate k (-1)++[-1]:=List.replicate_succ'
theorem Ag1 {o:List Int} {k:Int} (h:1≤k):o++List.replicate (Int.toNat k-1) (-1:Int)++[-1]=o++List.replicate (Int.toNat (k+1)-1) (-1):=by
 rw[show Int.toNat (k+1)-1=(Int.toNat k-1)+1 by omega,Ag0,List.append_assoc]
theorem Atn {o:List Int} {k i:Int} (h:i+1≤k):o++List.replicate (Int.toNat (k-(i+1))) (-1:Int)++[-1]=o++List.replicate (Int.toNat (k+1-(i+1))) (-1):=by
 rw[show Int.toNat (k+1-(i+1))=Int.toNat (k-(i+1))+1 by omega,Ag0,List.append_assoc]
def Ato (K:Nat):Prop:= ∀(p:Pln) (shape:Int) (l:List Ev) (out:List Int) (hp1:Bd p shape l) (hp2:EvsB l) (hp3:B3 p=true) (hp4:List.length out+List.length l≤100000000) (hp5:List.length l<K),Fun Tryz.prog 105 [.agg (Cd p),vI shape,.c (.seq .ev l),vO 0] [.lst .int out] (.v (vO 1)) [.dead,.lst .int (out++sT p shape l)]
structure Ht where
 out:List Int
 i:Int
def Hu (p:Pln) (shape:Int) (l:List Ev) (out:List Int):Fam:=⟨Ht,fun q1=>[(1,.v (vI shape)),(2,.v (.c (.seq .ev l))),(3,.v (vO 1)),(4,.v (vP 2)),(9,.v (vI q1.i))],fun q1=>[.dead,.lst .int q1.out,.cells (Cd p)],fun q1=>ZInv p shape l out q1.i q1.out,fun q1=>List.length l-Int.toNat q1.i⟩
structure L9 where
 out:List Int
 k:Int
def Hv (p:Pln) (shape:Int) (l:List Ev) (q1:Ht) (x1:Ev):Fam:=⟨L9,fun q2=>[(1,.v (vI shape)),(2,.v (.c (.seq .ev l))),(3,.v (vO 1)),(4,.v (vP 2)),(9,.v (vI q1.i)),(14,.v (vI ((Bt ((fieldAt p.shapes shape x1.field).getD fld0) (List.drop (Int.toNat q1.i) l):Nat):Int))),(16,.v (vI q2.k))],fun q2=>[.dead,.lst .int q2.out,.cells (Cd p)],fun q2=>1≤q2.k∧q2.k≤((Bt ((fieldAt p.shapes shape x1.field).getD fld0) (List.drop (Int.toNat q1.i) l):Nat):Int)∧q2.out=(q1.out++[(if ((fieldAt p.shapes shape x1.field).getD fld0).packed=true then ((List.length (C4 ((fieldAt p.shapes shape x1.field).getD fld0) (List.take (Bt ((fieldAt p.shapes shape x1.field).getD fld0) (List.drop (Int.toNat q1.i) l)) (List.drop (Int.toNat q1.i) l))):Nat):Int) else-1)])++List.replicate (Int.toNat q2.k-1) (-1),fun q2=>Int.toNat (((Bt ((fieldAt p.shapes shape x1.field).getD fld0) (List.drop (Int.toNat q1.i) l):Nat):Int)-q2.k)⟩
structure Uz where
 out:List Int
 k:Int
def Ry (p:Pln) (shape:Int) (l:List Ev) (q1:Ht):Fam:=⟨Uz,fun q2=>[(1,.v (vI shape)),(2,.v (.c (.seq .ev l))),(3,.v (vO 1)),(4,.v (vP 2)),(13,.v (vI (q1.i+((upL 0 0 (List.drop (Int.toNat q1.i) l):Nat):Int)))),(17,.v (vI q2.k))],fun q2=>[.dead,.lst .int q2.out,.cells (Cd p)],fun q2=>q1.i+1≤q2.k∧q2.k≤(q1.i+((upL 0 0 (List.drop (Int.toNat q1.i) l):Nat):Int))+1∧q2.out=(q1.out++[((List.length (Dt (List.drop (Int.toNat (q1.i+1)) (List.take (Int.toNat (q1.i+((upL 0 0 (List.drop (Int.toNat q1.i) l):Nat):Int))) l))):Nat):Int)])++List.replicate (Int.toNat (q2.k-(q1.i+1))) (-1),fun q2=>Int.toNat ((q1.i+((upL 0 0 (List.drop (Int.toNat q1.i) l):Nat):Int))+1-q2.k)⟩
theorem Atp (K:Nat) (hS:Ato K) (p:Pln) (shape:Int) (l:List Ev) (out:List Int) (hp1:Bd p shape l) (hp2:EvsB l) (hp3:B3 p=true) (hp4:List.length out+List.length l≤100000000) (hp5:List.length l≤K):Fun Tryz.prog 105 [.agg (Cd p),vI shape,.c (.seq .ev l),vO 0] [.lst .int out] (.v (vO 1)) [.dead,.lst .int (out++sT p shape l)]:=by
 have hN:Ba=274877906944:=rfl
 have hvl:=hp2.1
 have hpt:=C6 hp3
 refine Av Tryz.func105 Q8 Q8 (w:=let z24:=Hu p shape l out;let z25:=((List.length l:Nat):Int);let z26:=vI shape;(.seg [.at 0,.cutS 3,.keep [1,2,3,4,9],.sel [0,2,1]] (.loop z24 fun q1=>let z10:=((upL 0 0 (List.drop (Int.toNat q1.i) l):Nat):Int);let z9:=List.drop (Int.toNat (q1.i+1)) (List.take (Int.toNat (q1.i+z10)) l);let z11:S:= .v (vI (q1.i+1));.br (.intro (Sx (l[Int.toNat q1.i]?)) fun x1=>let z3:=fieldAt p.shapes shape x1.field;let z2:=z3.getD fld0;let z1:=((Bt z2 (List.drop (Int.toNat q1.i) l):Nat):Int);.seg [.el .ev x1,.call [] (.tup [.agg (Dd z2),vB z3.isSome]) [],.call [] (.v (vI (q1.i+z10))) []] (.br (.seg [.call [] (.v (vI z1)) []] (.br (.seg [.ord (os 10 [7]) [],.as 81 (.v (vI (q1.i+z1))),.call [] (.v (vT (C4 z2 (List.drop (Int.toNat q1.i) (List.take (Int.toNat (q1.i+z1)) l))))) [],.ty .int,.ty .int,.at 0,.keep [1,2,3,4,9,14,16],.sel [0,6,2]] (.loop (Hv p shape l q1 x1) fun q2=> .br (.seg [.ty .int,.ty .int,.as 93 (.v (vI (q2.k+1))),.at 0,.keep [1,2,3,4,9,14,16],.sel [0,4,2]] (.next)) (.seg [.as 99 (.v (vI (q1.i+z1))),.at 0,.keep [1,2,3,4,9],.sel [0,1,2]] (.next)))) (.seg [.ty .int,.ty .int,.at 0,.keep [1,2,3,4,9,14,16],.sel [0,6,2]] (.loop (Hv p shape l q1 x1) fun q2=> .br (.seg [.ty .int,.ty .int,.as 93 (.v (vI (q2.k+1))),.at 0,.keep [1,2,3,4,9,14,16],.sel [0,4,2]] (.next)) (.seg [.as 99 (.v (vI (q1.i+z1))),.at 0,.keep [1,2,3,4,9],.sel [0,1,2]] (.next)))))) (.br (.seg [.as 105 z11,.call [] (.v (vT (Dt z9))) [],.ty .int,.ty .int,.as 113 z11,.at 0,.keep [1,2,3,4,13,17],.sel [0,6,2]] (.loop (Ry p shape l q1) fun q2=> .br (.seg [.ty .int,.ty .int,.as 118 (.v (vI (q2.k+1))),.at 0,.keep [1,2,3,4,13,17],.sel [0,4,2]] (.next)) (.seg [.as 123 (.v (vI (q1.i+z10+1))),.at 0,.keep [1,2,3,4,9],.sel [0,1,2]] (.next)))) (.seg [.tree (fr (.one 9 (.first 10 (.one 11 (.one 12 (.first 13 (.done)))))) 0 9) 12 [],.as 46 z11,.call [] (.v (vT (mT p z2.msg z9))) [],.ty .int,.ty .int,.tree (fr (.one 9 (.first 10 (.done))) 0 9) 9 [],.as 58 z11,.call [6] (.v (vO 1)) [.dead,.lst .int ((q1.out++[((List.length (mT p z2.msg z9):Nat):Int)])++sT p z2.msg z9)],.ty .int,.ty .int,.as 67 (.v (vI (q1.i+z10+1))),.at 0,.keep [1,2,3,4,9],.sel [0,9,2]] (.next))))) (.leaf () [0,1])),z24.Has [(1,.v z26),(2,.v (.c (.seq .ev l))),(3,.v (vO 1)),(4,.v (vP 2)),(9,.v (vI 0))] [.dead,.lst .int out,.cells (Cd p)]∧∀q1,z24.inv q1→(let z17:=(0:Int)≤q1.i+1;let z18:=Int.toNat q1.i;let z12:=((upL 0 0 (List.drop z18 l):Nat):Int);let z14:=q1.i+z12≤z25;let z15:=q1.i+1≤q1.i+z12;let z19:=wI (q1.i+1);let z20:=Ry p shape l q1;let z21:=q1.i+z12;let z13:=List.drop (Int.toNat (q1.i+1)) (List.take (Int.toNat z21) l);let z22:=vI (q1.i+z12+1);let z16:=(.v (vI (IntKind.i64.wrap (z21+1))):S)= .v z22;let z23:=(0:Int)≤q1.i;Bc (decide (q1.i<z25)) (El (l[Int.toNat q1.i]?) fun x1=>(let z7:=Hv p shape l q1 x1;let z8:=fieldAt p.shapes shape x1.field;let z6:=z8.getD fld0;let z4:=((Bt z6 (List.drop z18 l):Nat):Int);let z5:=mT p z6.msg z13;(l[Int.toNat q1.i]? =some x1)∧z23∧(Fp 129 [.agg [.seq .shp p.shapes],vI shape,vI x1.field] [] (.tup [.agg (Dd z6),vB z8.isSome]) [])∧(Fp 163 [.c (.seq .ev l),vI q1.i] [] (.v (vI z21)) [])∧Bc (decide (x1.kind=2)) ((Fp 164 [.agg (Dd z6),.c (.seq .ev l),vI q1.i] [] (.v (vI z4)) [])∧Bc (z6.packed) ((wI (q1.i+z4))∧(wI (q1.i+z4))∧(q1.i+z4≤z25)∧(q1.i≤q1.i+z4)∧z23∧(q1.i+z4≤z25)∧(q1.i≤q1.i+z4)∧z23∧(Fp 165 [.agg (Dd z6),.c (.seq .ev (List.drop z18 (List.take (Int.toNat (q1.i+z4)) l)))] [] (.v (vT (C4 z6 (List.drop z18 (List.take (Int.toNat (q1.i+z4)) l))))) [])∧(List.length q1.out+List.length [((List.length (C4 z6 (List.drop z18 (List.take (Int.toNat (q1.i+z4)) l))):Nat):Int)]≤Ba)∧z7.Has [(1,.v z26),(2,.v (.c (.seq .ev l))),(3,.v (vO 1)),(4,.v (vP 2)),(9,.v (vI q1.i)),(14,.v (vI z4)),(16,.v (vI 1))] [.dead,.lst .int (q1.out++[((List.length (C4 z6 (List.drop z18 (List.take (Int.toNat (q1.i+z4)) l))):Nat):Int)]),.cells (Cd p)]∧∀q2,z7.inv q2→(Bc (decide (q2.k<z4)) ((List.length q2.out+List.length [(-1)]≤Ba)∧(wI (q2.k+1))∧z7.Nxt q2 [(1,.v z26),(2,.v (.c (.seq .ev l))),(3,.v (vO 1)),(4,.v (vP 2)),(9,.v (vI q1.i)),(14,.v (vI z4)),(16,.v (vI (q2.k+1)))] [.dead,.lst .int (q2.out++[(-1)]),.cells (Cd p)]) ((wI (q1.i+z4))∧z24.Nxt q1 [(1,.v z26),(2,.v (.c (.seq .ev l))),(3,.v (vO 1)),(4,.v (vP 2)),(9,.v (vI (q1.i+z4)))] [.dead,.lst .int q2.out,.cells (Cd p)]))) ((List.length q1.out+List.length [(-1)]≤Ba)∧z7.Has [(1,.v z26),(2,.v (.c (.seq .ev l))),(3,.v (vO 1)),(4,.v (vP 2)),(9,.v (vI q1.i)),(14,.v (vI z4)),(16,.v (vI 1))] [.dead,.lst .int (q1.out++[(-1)]),.cells (Cd p)]∧∀q2,z7.inv q2→(Bc (decide (q2.k<z4)) ((List.length q2.out+List.length [(-1)]≤Ba)∧(wI (q2.k+1))∧z7.Nxt q2 [(1,.v z26),(2,.v (.c (.seq .ev l))),(3,.v (vO 1)),(4,.v (vP 2)),(9,.v (vI q1.i)),(14,.v (vI z4)),(16,.v (vI (q2.k+1)))] [.dead,.lst .int (q2.out++[(-1)]),.cells (Cd p)]) ((wI (q1.i+z4))∧z24.Nxt q1 [(1,.v z26),(2,.v (.c (.seq .ev l))),(3,.v (vO 1)),(4,.v (vP 2)),(9,.v (vI (q1.i+z4)))] [.dead,.lst .int q2.out,.cells (Cd p)])))) (Bc (decide (x1.kind=3)) (z19∧z14∧z15∧z17∧(Fp 166 [.c (.seq .ev z13)] [] (.v (vT (Dt z13))) [])∧(List.length q1.out+List.length [((List.length (Dt z13):Nat):Int)]≤Ba)∧z19∧z20.Has [(1,.v z26),(2,.v (.c (.seq .ev l))),(3,.v (vO 1)),(4,.v (vP 2)),(13,.v (vI z21)),(17,.v (vI (q1.i+1)))] [.dead,.lst .int (q1.out++[((List.length (Dt z13):Nat):Int)]),.cells (Cd p)]∧∀q2,z20.inv q2→(Bc (decide (q2.k≤q1.i+z12)) ((List.length q2.out+List.length [(-1)]≤Ba)∧(wI (q2.k+1))∧z20.Nxt q2 [(1,.v z26),(2,.v (.c (.seq .ev l))),(3,.v (vO 1)),(4,.v (vP 2)),(13,.v (vI z21)),(17,.v (vI (q2.k+1)))] [.dead,.lst .int (q2.out++[(-1)]),.cells (Cd p)]) (z16∧z24.Nxt q1 [(1,.v z26),(2,.v (.c (.seq .ev l))),(3,.v (vO 1)),(4,.v (vP 2)),(9,.v z22)] [.dead,.lst .int q2.out,.cells (Cd p)]))) (z19∧z19∧z14∧z15∧z17∧z14∧z15∧z17∧(Fp 167 [.agg (Cd p),vI z6.msg,.c (.seq .ev z13)] [] (.v (vT z5)) [])∧(List.length q1.out+List.length [((List.length z5:Nat):Int)]≤Ba)∧z19∧z19∧z14∧z15∧z17∧z14∧z15∧z17∧(Fp 105 [.agg (Cd p),vI z6.msg,.c (.seq .ev z13),vO 0] [.lst .int (q1.out++[((List.length z5:Nat):Int)])] (.v (vO 1)) [.dead,.lst .int ((q1.out++[((List.length z5:Nat):Int)])++sT p z6.msg z13)])∧(List.length ((q1.out++[((List.length z5:Nat):Int)])++sT p z6.msg z13)+List.length [(-1)]≤Ba)∧z16∧z24.Nxt q1 [(1,.v z26),(2,.v (.c (.seq .ev l))),(3,.v (vO 1)),(4,.v (vP 2)),(9,.v z22)] [.dead,.lst .int (((q1.out++[((List.length z5:Nat):Int)])++sT p z6.msg z13)++[(-1)]),.cells (Cd p)])))) (Lf (.v (vO 1)) (.v (vO 1)) [.dead,.lst .int q1.out] [.dead,.lst .int (out++sT p shape l)])))) Q8 ?_
 refine⟨Bv (j:=(⟨out,0⟩:Ht)) rfl rfl (by dsimp only[Hu];exact ZInv.refl hp1),fun (q1:Ht) hq_q1=>?_⟩
 have hi_q1:ZInv p shape l out q1.i q1.out:=hq_q1
 have hlo:=hi_q1.lo
 have hhi:=hi_q1.hi
 have hzl:=hi_q1.len
 refine dsp (fun h1 p1=>?_) fun h1 p1=>?_
 refine⟨(A8 (l:=l) (i:=Int.toNat q1.i) Q13),fun x1 hx1=>?_⟩
 refine⟨hx1,Q5,(Rf p.shapes _ _ Q13 (Cy hpt.2.1)),(Auo _ _ Q13 Q13),dsp (fun h2 p2=>?_) fun h2 p2=>?_⟩
 obtain ⟨f,hf,g1,g2,g3⟩:=hi_q1.num hx1 p2
 have hff:((fieldAt p.shapes shape x1.field).getD fld0)=f:=by rw[hf];rfl
 subst hff
 have hev:EvsB (List.drop (Int.toNat q1.i) l):=hp2.drop _
 have hnv:=Yu (f:=((fieldAt p.shapes shape x1.field).getD fld0)) (l:=(List.drop (Int.toNat q1.i) l)) (by rw[List.length_drop];omega) hev.1 hev.2.2
 have hcut:List.drop (Int.toNat q1.i) (List.take (Int.toNat (q1.i+((Bt ((fieldAt p.shapes shape x1.field).getD fld0) (List.drop (Int.toNat q1.i) l):Nat):Int))) l)=List.take (Bt ((fieldAt p.shapes shape x1.field).getD fld0) (List.drop (Int.toNat q1.i) l)) (List.drop (Int.toNat q1.i) l):=by rw[Pz];congr 1;omega
 have hev2:=((hp2.take (Int.toNat (q1.i+((Bt ((fieldAt p.shapes shape x1.field).getD fld0) (List.drop (Int.toNat q1.i) l):Nat):Int)))).drop (Int.toNat q1.i))
 have hnw:=hnv.2
 rw[←hcut] at hnw
 have hgl:=g3.len
 simp only[List.length_append,List.length_cons,List.length_replicate] at hgl
 refine⟨(Agy ((fieldAt p.shapes shape x1.field).getD fld0) _ _ Q13 Q13),fun h3=>?_,fun h3=>?_⟩
 have hpk:((fieldAt p.shapes shape x1.field).getD fld0).packed=true:=h3
 refine⟨(Ac Q5 Q5),(Ac Q5 Q5),Q13,Q5,Q5,Q13,Q5,Q5,(Y2 ((fieldAt p.shapes shape x1.field).getD fld0) _ Q13 (hev2.2.2) Q13),Q13,Bv (j:=(⟨q1.out++[((List.length (C4 ((fieldAt p.shapes shape x1.field).getD fld0) (List.drop (Int.toNat q1.i) (List.take (Int.toNat (q1.i+((Bt ((fieldAt p.shapes shape x1.field).getD fld0) (List.drop (Int.toNat q1.i) l):Nat):Int))) l))):Nat):Int)],1⟩:L9)) rfl rfl (by dsimp only[Hv];exact⟨by omega,by omega,by simp[hpk,hcut]⟩),fun (q2:L9) hq_q2=>?_⟩
 have hi_q2:1≤q2.k∧q2.k≤((Bt ((fieldAt p.shapes shape x1.field).getD fld0) (List.drop (Int.toNat q1.i) l):Nat):Int)∧q2.out=(q1.out++[(if ((fieldAt p.shapes shape x1.field).getD fld0).packed=true then ((List.length (C4 ((fieldAt p.shapes shape x1.field).getD fld0) (List.take (Bt ((fieldAt p.shapes shape x1.field).getD fld0) (List.drop (Int.toNat q1.i) l)) (List.drop (Int.toNat q1.i) l))):Nat):Int) else-1)])++List.replicate (Int.toNat q2.k-1) (-1):=hq_q2
 obtain ⟨w1,w2,w3⟩:=hi_q2
 have hwl:=congrArg List.length w3
 simp only[List.length_append,List.length_cons,List.length_nil,List.length_replicate] at hwl
 refine dsp (fun h4 p4=>?_) fun h4 p4=>?_
 exact⟨Q13,(Ac Q5 Q5),Ay (j:=(⟨q2.out++[(-1)],q2.k+1⟩:L9)) rfl rfl (by dsimp only[Hv];exact⟨by omega,by omega,by rw[w3];exact Ag1 w1⟩) (by dsimp only[Hv];omega)⟩
 exact⟨(Ac Q5 Q5),Ay (j:=(⟨q2.out,_⟩:Ht)) rfl rfl Q80 (by dsimp only[Hu];omega)⟩
 have hpk:((fieldAt p.shapes shape x1.field).getD fld0).packed=false:=h3
 refine⟨Q13,Bv (j:=(⟨q1.out++[(-1)],1⟩:L9)) rfl rfl (by dsimp only[Hv];exact⟨by omega,by omega,by simp[hpk,hcut]⟩),fun (q2:L9) hq_q2=>?_⟩
 have hi_q2:1≤q2.k∧q2.k≤((Bt ((fieldAt p.shapes shape x1.field).getD fld0) (List.drop (Int.toNat q1.i) l):Nat):Int)∧q2.out=(q1.out++[(if ((fieldAt p.shapes shape x1.field).getD fld0).packed=true then ((List.length (C4 ((fieldAt p.shapes shape x1.field).getD fld0) (List.take (Bt ((fieldAt p.shapes shape x1.field).getD fld0) (List.drop (Int.toNat q1.i) l)) (List.drop (Int.toNat q1.i) l))):Nat):Int) else-1)])++List.replicate (Int.toNat q2.k-1) (-1):=hq_q2
 obtain ⟨w1,w2,w3⟩:=hi_q2
 have hwl:=congrArg List.length w3
 simp only[List.length_append,List.length_cons,List.length_nil,List.length_replicate] at hwl
 refine dsp (fun h4 p4=>?_) fun h4 p4=>?_
 exact⟨Q13,(Ac Q5 Q5),Ay (j:=(⟨q2.out++[(-1)],q2.k+1⟩:L9)) rfl rfl (by dsimp only[Hv];exact⟨by omega,by omega,by rw[w3];exact Ag1 w1⟩) (by dsimp only[Hv];omega)⟩
 exact⟨(Ac Q5 Q5),Ay (j:=(⟨q2.out,_⟩:Ht)) rfl rfl Q80 (by dsimp only[Hu];omega)⟩
 refine dsp (fun h3 p3=>?_) fun h3 p3=>?_
 obtain ⟨g1,g2,g3⟩:=hi_q1.text hx1 p3 rfl
 have hev2:=((hp2.take (Int.toNat (q1.i+((upL 0 0 (List.drop (Int.toNat q1.i) l):Nat):Int)))).drop (Int.toNat (q1.i+1)))
 have htl:=Rq (List.drop (Int.toNat (q1.i+1)) (List.take (Int.toNat (q1.i+((upL 0 0 (List.drop (Int.toNat q1.i) l):Nat):Int))) l))
 have htn:=hev2.2.1
 refine⟨(Ac Q5 Q5),Q13,Q5,Q5,(Adt _ Q13 Q13),Q13,(Ac Q5 Q5),Bv (j:=(⟨q1.out++[((List.length (Dt (List.drop (Int.toNat (q1.i+1)) (List.take (Int.toNat (q1.i+((upL 0 0 (List.drop (Int.toNat q1.i) l):Nat):Int))) l))):Nat):Int)],q1.i+1⟩:Uz)) rfl rfl (by dsimp only[Ry];exact⟨by omega,by omega,by simp⟩),fun (q2:Uz) hq_q2=>?_⟩
 have hi_q2:q1.i+1≤q2.k∧q2.k≤(q1.i+((upL 0 0 (List.drop (Int.toNat q1.i) l):Nat):Int))+1∧q2.out=(q1.out++[((List.length (Dt (List.drop (Int.toNat (q1.i+1)) (List.take (Int.toNat (q1.i+((upL 0 0 (List.drop (Int.toNat q1.i) l):Nat):Int))) l))):Nat):Int)])++List.replicate (Int.toNat (q2.k-(q1.i+1))) (-1):=hq_q2
 obtain ⟨w1,w2,w3⟩:=hi_q2
 have hwl:=congrArg List.length w3
 simp only[List.length_append,List.length_cons,List.length_nil,List.length_replicate] at hwl
 refine dsp (fun h4 p4=>?_) fun h4 p4=>?_
 exact⟨Q13,(Ac Q5 Q5),Ay (j:=(⟨q2.out++[(-1)],q2.k+1⟩:Uz)) rfl rfl (by dsimp only[Ry];exact⟨by omega,by omega,by rw[w3];exact Atn w1⟩) (by dsimp only[Ry];omega)⟩
 exact⟨(Ac Q5 Q5),Ay (j:=(⟨q2.out,_⟩:Ht)) rfl rfl (by dsimp only[Hu];rw[w3,show q2.k-(q1.i+1)=(q1.i+((upL 0 0 (List.drop (Int.toNat q1.i) l):Nat):Int))-q1.i by omega,List.append_assoc];exact g3) (by dsimp only[Hu];omega)⟩
 obtain ⟨f,hf,g1,g2,g3,g4,g5⟩:=hi_q1.down hx1 p2 p3 rfl
 have hff:((fieldAt p.shapes shape x1.field).getD fld0)=f:=by rw[hf];rfl
 subst hff
 have hev2:=((hp2.take (Int.toNat (q1.i+((upL 0 0 (List.drop (Int.toNat q1.i) l):Nat):Int)))).drop (Int.toNat (q1.i+1)))
 have hml:=Ak1 (p:=p) (sh:=((fieldAt p.shapes shape x1.field).getD fld0).msg) _ (Nat.le_refl _) g3 hev2
 have h21:=hev2.1
 have h22:=hev2.2.1
 have hsl:=S7 (p:=p) (sh:=((fieldAt p.shapes shape x1.field).getD fld0).msg) _ (Nat.le_refl _) g3
 exact⟨(Ac Q5 Q5),(Ac Q5 Q5),Q13,Q5,Q5,Q13,Q5,Q5,(Ap8 p _ _ (g3) (hev2) (hp3)),Q13,(Ac Q5 Q5),(Ac Q5 Q5),Q13,Q5,Q5,Q13,Q5,Q5,(hS p _ _ _ (g3) (hev2) (hp3) Q13 Q13),Q13,(Ac Q5 Q5),Ay (j:=(⟨((q1.out++[((List.length (mT p ((fieldAt p.shapes shape x1.field).getD fld0).msg (List.drop (Int.toNat (q1.i+1)) (List.take (Int.toNat (q1.i+((upL 0 0 (List.drop (Int.toNat q1.i) l):Nat):Int))) l))):Nat):Int)])++sT p ((fieldAt p.shapes shape x1.field).getD fld0).msg (List.drop (Int.toNat (q1.i+1)) (List.take (Int.toNat (q1.i+((upL 0 0 (List.drop (Int.toNat q1.i) l):Nat):Int))) l)))++[(-1)],_⟩:Ht)) rfl rfl (by dsimp only[Hu];simpa only[List.append_assoc,List.cons_append,List.nil_append] using g5) (by dsimp only[Hu];omega)⟩
 have hst:=hi_q1.end_ p1
 exact⟨rfl,(Af rfl (Af (congrArg (Blk.lst .int) (by first|(exact hst))) rfl))⟩
theorem Adw: ∀K,Ato K
 |0=>fun p shape l out hp1 hp2 hp3 hp4 hp5=>absurd hp5 (Nat.not_lt_zero _)
 |K+1=>fun p shape l out hp1 hp2 hp3 hp4 hp5=>Atp K (Adw K) p shape l out hp1 hp2 hp3 hp4 (Nat.le_of_lt_succ hp5)
theorem Atq (p:Pln) (shape:Int) (l:List Ev) (out:List Int) (hp1:Bd p shape l) (hp2:EvsB l) (hp3:B3 p=true) (hp4:List.length out+List.length l≤100000000):Fun Tryz.prog 105 [.agg (Cd p),vI shape,.c (.seq .ev l),vO 0] [.lst .int out] (.v (vO 1)) [.dead,.lst .int (out++sT p shape l)]:=Adw _ p shape l out hp1 hp2 hp3 hp4 (Nat.lt_succ_self _)
theorem St {p:Pln} {l:List Ev} (h:(Bk p l).1=0):Cn p l=((B8 p l).length:Int)::(sT p p.root (List.drop 1 (List.take (Int.toNat ((l.length:Int)-1)) l))++[-1]):=by
 obtain ⟨hp,e,b,u,hl,hb,hu⟩:=Xe h
 have hb1:B8 p l=mT p p.root (l.drop 1):=by unfold B8;rw[if_pos h]
 have ht:tl (sz0 p l)=b++[u]:=by show l.drop 1=_;rw[hl];rfl
 have hc:List.drop 1 (List.take (Int.toNat ((l.length:Int)-1)) l)=b:=by
  rw[Rr,hl];simp
 have hs:(Kw p.root (sz0 p l)).sizes= -1::(sT p p.root b++[-1]):=by
  have h1:sT p p.root (b++[u])=sT p p.root b:=(V3 (.inr hu) _ (Nat.le_refl _) hb).2
  have h2:upL (-1) 1 (b++[u])=b.length:=upT hb (.inr hu)
  have h3:(sz0 p l).sizes=List.replicate (b.length+2) (-1):=by simp[sz0,hl]
  have h4:(sz0 p l).at_=1:=rfl
  have h5:(sz0 p l).plan=p:=rfl
  unfold Kw
  simp only[ht,h3,h4,h5,h1,h2]
  rw[List.take_replicate,List.length_replicate,show min (Int.toNat 1) (b.length+2)=1 by simp,show b.length+2-(Int.toNat 1+b.length)=1 by simp;omega]
  rfl
 unfold Cn
 rw[if_pos h,hs,hb1,hc]
 rfl
theorem Afh {p:Pln} {l:List Ev} (hv:l.length≤1048576):(Cn p l).length≤1048576:=by
 by_cases h:(Bk p l).1=0
 ·obtain ⟨hp,e,b,u,hl,hb,hu⟩:=Xe h
  have hc:List.drop 1 (List.take (Int.toNat ((l.length:Int)-1)) l)=b:=by
   rw[Rr,hl];simp
  rw[St h,hc,List.length_cons,List.length_append,S7 _ (Nat.le_refl _) hb]
  rw[hl] at hv
  simp at hv ⊢
  omega
 ·unfold Cn;rw[if_neg h];simp
theorem Amb (p:Pln) (l:List Ev) (hp1:EvsB l):Fun Tryz.prog 50 [.agg (Cd p),.c (.seq .ev l)] [] (.v (vO 0)) [.lst .int (Cn p l)]:=by
 have hN:Ba=274877906944:=rfl
 refine Av Tryz.func50 Q8 Q8 (w:=let z1:List Blk:=[.lst .int (Cn p l)];(.seg [.call [] (.tup [vT (B8 p l),vO 0]) z1] (.leaf () [1]),(Fp 103 [.agg (Cd p),.c (.seq .ev l)] [] (.tup [vT (B8 p l),vO 0]) z1)∧Lf (.v (vO 0)) (.v (vO 0)) z1 z1)) Q8 ?_
 exact⟨(Ama p _ Q5),rfl,rfl⟩
theorem Amc (p:Pln) (l:List Ev) (hp1:EvsB l):Fun Tryz.prog 51 [.agg (Cd p),.c (.seq .ev l)] [] (.v (vO 0)) [.lst .int (Cn p l)]:=by
 have hN:Ba=274877906944:=rfl
 have hvl:=hp1.1
 refine Av Tryz.func51 Q8 Q8 (w:=let z1:=((List.length l:Nat):Int);let z2:=((List.length (B8 p l):Nat):Int);let z3:=List.drop 1 (List.take (Int.toNat (z1-1)) l);let z4:=Bk p l;let z5:List Blk:=[.dead,.lst .int ([z2]++sT p p.root z3)];(.seg [.call [] (.tup [vI z4.1,vI z4.2]) []] (.br (.seg [.ty .int] (.leaf () [1])) (.seg [.call [] (.v (vI z2)) [],.ty .int,.tree (fr (.one 9 (.first 10 (.done))) 0 9) 9 [],.as 27 (.v (vI (z1-1))),.call [1] (.v (vO 1)) z5,.ty .int,.ty .int] (.leaf () [4]))),(Fp 52 [.agg (Cd p),.c (.seq .ev l)] [] (.tup [vI z4.1,vI z4.2]) [])∧Bc (!decide (z4.1=0)) (Lf (.v (vO 0)) (.v (vO 0)) [.lst .int ([]:List Int)] [.lst .int (Cn p l)]) ((Fp 104 [.agg (Cd p),.c (.seq .ev l)] [] (.v (vI z2)) [])∧(wI (z1-1))∧(wI (z1-1))∧(z1-1≤z1)∧((1:Int)≤z1-1)∧((0:Int)≤1)∧(z1-1≤z1)∧((1:Int)≤z1-1)∧((0:Int)≤1)∧(Fp 105 [.agg (Cd p),vI p.root,.c (.seq .ev z3),vO 0] [.lst .int [z2]] (.v (vO 1)) z5)∧(List.length ([z2]++sT p p.root z3)+List.length [(-1)]≤Ba)∧Lf (.v (vO 0)) (.v (vO 0)) [.lst .int (([z2]++sT p p.root z3)++[(-1)])] [.lst .int (Cn p l)]))) Q8 ?_
 refine⟨(Tv p _ Q44 (hp1.2.2)),fun h1=>have q1:=Ar h1;have p1:=of_decide_eq_false q1;?_,fun h1=>have q1:=Ao h1;have p1:=of_decide_eq_true q1;?_⟩
 refine⟨rfl,(Af (congrArg (Blk.lst .int) ?_) rfl)⟩
 rotate_left
 have hz:=St (p:=p) (l:=l) (by omega)
 have hc:=Aa2 (p:=p) (l:=l) (by omega) hp1
 have hcl:=S7 (p:=p) (sh:=p.root) _ (Nat.le_refl _) hc.1
 have hcd:List.length (List.drop 1 (List.take (Int.toNat (((List.length l:Nat):Int)-1)) l))≤1048576:=by simp only[List.length_drop,List.length_take];omega
 refine⟨(Afg p _ (hp1)),(Ac Q5 Q5),(Ac Q5 Q5),Q44,Q44,Q26,Q44,Q44,Q26,(Atq p _ _ _ (hc.1) ((hp1.take _).drop _) (hc.2.2.2) Q44),Q44,rfl,(Af (congrArg (Blk.lst .int) ?_) rfl)⟩
 rotate_left
 all_goals first|((rw[hz];simp;done))|(simp_all[Cn];done)|(grind[Cn])
/-! ### Numbers that are written are read -/
theorem Ab5 {v:Nat} (h:v<256):(UInt8.ofNat v).toNat=v:=by rw[UInt8.toNat_ofNat'];omega
theorem Ag2 {x y:List UInt8} {b:UInt8} {i:Int} (h:i=(x.length:Int)):(x++(b::y)).getD i.toNat 0=b:=by
 subst h
 rw[Int.toNat_natCast,List.getD_eq_getElem?_getD,List.getElem?_append_right (Nat.le_refl _),Nat.sub_self];rfl
theorem Aup (s:List UInt8) (a e:Int) (f:Nat) (k u:Int):vwA s a e (f+1) k u=if e≤a+k then (0,e,9)
  else if (s.length:Int)≤a+k then (0,(s.length:Int),10)
  else if k=9∧1<((s.getD (a+k).toNat 0).toNat:Int) then (0,a+k,1)
  else if ((s.getD (a+k).toNat 0).toNat:Int)<128 then (u+((s.getD (a+k).toNat 0).toNat:Int) % 128*2 ^ (7*k).toNat,a+k+1,0)
  else vwA s a e f (k+1) (u+((s.getD (a+k).toNat 0).toNat:Int) % 128*2 ^ (7*k).toNat):=rfl
theorem Aru {s:List UInt8} {a e:Int} : ∀(f k v:Nat) (acc:Int) (x y:List UInt8),f+k=9→v*2 ^ (7*k)<2 ^ 64→s=x++(Fo v++y)→(x.length:Int)=a+k→a+(k:Int)+((Fo v).length:Int)≤e→vwA s a e (f+1) k acc=(acc+(v:Int)*2 ^ (7*k),a+k+((Fo v).length:Int),0):=by
 intro f
 induction f with
 |zero=>?_
 |succ f ih=>?_
 all_goals
  intro k v acc x y hk hv hs hx he
  have hp:=N1 v
  have hsl:(s.length:Int)=(x.length:Int)+((Fo v).length:Int)+(y.length:Int):=by rw[hs,List.length_append,List.length_append];omega
  rw[Aup,if_neg (by omega),if_neg (by omega),show (7*(k:Int)).toNat=7*k by omega]
  by_cases h1:v<128
  ·have hpv:Fo v=[UInt8.ofNat v]:=F8 h1
   have hb:s.getD (a+(k:Int)).toNat 0=UInt8.ofNat v:=by rw[hs,hpv];exact Ag2 (by omega)
   rw[hb,Ab5 (by omega),hpv]
   have h9: ¬((k:Int)=9∧1<(v:Int)):=by
    rintro ⟨h9,h2⟩
    obtain rfl:k=9:=by omega
    have:(2:Nat) ^ 64=2*2 ^ (7*9):=by decide
    have:2*2 ^ (7*9)≤v*2 ^ (7*9):=Nat.mul_le_mul_right _ (by omega)
    omega
   rw[if_neg h9,if_pos (by omega),show ((v:Nat):Int) % 128=(v:Int) by omega]
   rfl
  have hpv:Fo v=UInt8.ofNat (v % 128+128)::Fo (v / 128):=H8 h1
  have hb:s.getD (a+(k:Int)).toNat 0=UInt8.ofNat (v % 128+128):=by rw[hs,hpv];exact Ag2 (by omega)
  rw[hb,Ab5 (by omega)]
 ·exfalso
  obtain rfl:k=9:=by omega
  have:(2:Nat) ^ 64=2*2 ^ (7*9):=by decide
  have:128*2 ^ (7*9)≤v*2 ^ (7*9):=Nat.mul_le_mul_right _ (by omega)
  omega
 ·rw[if_neg (by omega),if_neg (by omega)]
  have e1:v=128*(v / 128)+v % 128:=by omega
  have e2:2 ^ (7*(k+1))=2 ^ (7*k)*128:=by rw[show 7*(k+1)=7*k+7 by omega,Nat.pow_add]
  have hlt:v / 128*2 ^ (7*(k+1))<2 ^ 64:=by
   rw[e2]
   have h3:v / 128*(2 ^ (7*k)*128)=v / 128*128*2 ^ (7*k):=by rw[Nat.mul_comm (2 ^ (7*k)) 128,Nat.mul_assoc]
   rw[h3]
   exact Nat.lt_of_le_of_lt (Nat.mul_le_mul_right _ Q5) hv
  have I:=ih (k+1) (v / 128) (acc+((v % 128+128:Nat):Int) % 128*2 ^ (7*k)) (x++[UInt8.ofNat (v % 128+128)]) y (by omega) hlt (by rw[hs,hpv];simp) (by rw[List.length_append,List.length_singleton];omega) (by rw[hpv,List.length_cons] at he;omega)
  rw[show ((k+1:Nat):Int)=(k:Int)+1 by omega] at I
  rw[I,hpv,List.length_cons]
  refine Prod.ext ?_ (Prod.ext ?_ rfl)
  ·dsimp only
   have e3:((2:Int) ^ (7*(k+1)))=128*2 ^ (7*k):=by rw[show 7*(k+1)=7+7*k by omega,Int.pow_add];rfl
   rw[e3,show ((v % 128+128:Nat):Int) % 128=((v % 128:Nat):Int) by omega,Int.add_assoc,←Int.mul_assoc,←Int.add_mul]
   congr 2
   omega
  ·dsimp only;omega
theorem Ab6 {s x y:List UInt8} {u e:Int} (h0:0≤u) (h:u≤18446744073709551615) (hs:s=x++(A9 u++y)) (he:(x.length:Int)+((A9 u).length:Int)≤e):Ah s (x.length:Int) e=(u,(x.length:Int)+((A9 u).length:Int),0):=by
 have hw:Aw (x.length:Int) 0 (s.length:Int)=true:=by
  simp only[Aw,Bool.and_eq_true,decide_eq_true_eq];rw[hs,List.length_append];omega
 unfold Ah
 rw[if_pos hw]
 have:=Aru (s:=s) (a:=(x.length:Int)) (e:=e) 9 0 u.toNat 0 x y (by omega) (by rw[show (7*0)=0 from rfl,Nat.pow_zero];omega) hs (by omega) (by unfold A9 at he;omega)
 rw[show ((0:Nat):Int)=0 from rfl] at this
 rw[this]
 refine Prod.ext ?_ (Prod.ext ?_ rfl)
 ·dsimp only
  rw[show (7*0)=0 from rfl,Int.pow_zero];omega
 ·dsimp only;unfold A9;omega
theorem Y4: ∀(n u:Nat),(D4 n u).length=n
 |0,_=>rfl
 |n+1,u=>by rw[D4,List.length_cons,Y4 n]
theorem Y5: ∀(n u:Nat),u<256 ^ n→En (D4 n u)=u
 |0,u,h=>by simp at h;subst h;rfl
 |n+1,u,h=>by
  rw[D4,En,Ab5 (by omega),Y5 n (u / 256) (by rw[Nat.pow_succ] at h;exact Nat.div_lt_of_lt_mul (by rw[Nat.mul_comm];exact h))]
  omega
theorem Ag3 {x t y:List UInt8} :((x++(t++y)).drop x.length).take t.length=t:=by
 rw[List.drop_left,List.take_left]
theorem Aoq (w:Int):Az w=0∨Az w=4∨Az w=8:=by unfold Az;split<;>(try split)<;>omega
theorem Amd {r:Mr} {f:Fld} {u e:Int} {x y:List UInt8} (hs:r.s=x++(Eo f u++y)) (ha:r.at_=(x.length:Int)) (hn:Bs f.kind=true) (hb:Cb f.kind u=true) (h0:0≤u) (h:u≤18446744073709551615) (he:(x.length:Int)+((Eo f u).length:Int)≤e):Dj r (A3 f.kind) e=true∧Di r (A3 f.kind) e=u∧Cj r (A3 f.kind) e=Gh r ((x.length:Int)+((Eo f u).length:Int))∧1≤(Eo f u).length:=by
 have hk:=Bp hn
 unfold Dj Di Cj Eo at *
 by_cases hw:0<Az (A3 f.kind)
 ·simp only[if_pos hw] at *
  have hcs:=Aoq (A3 f.kind)
  have h4:Az (A3 f.kind)=4→f.kind=4:=by
   intro h
   rcases (show f.kind=1∨f.kind=2∨f.kind=3∨f.kind=4∨f.kind=5 by omega) with hh|hh|hh|hh|hh<;>rw[hh] at h ⊢ <;>revert h<;>decide
  have hwk:De (Az (A3 f.kind))=true:=by rcases hcs with h|h|h<;>rw[h] at hw ⊢ <;>first|(exfalso;omega)|decide
  have hu4:Az (A3 f.kind)=4→u≤4294967295:=by
   intro h;have h5:=h4 h
   unfold Cb at hb
   rw[h5] at hb
   simpa using hb
  have hp:Fy u (Az (A3 f.kind))=D4 (Az (A3 f.kind)).toNat u.toNat:=by
   unfold Fy
   rw[if_neg]
   rw[hwk]
   simp only[Bool.not_true,Bool.false_or,Bool.and_eq_true,decide_eq_true_eq]
   rintro ⟨h5,h6⟩
   have:=hu4 h5
   omega
  have hl:(Fy u (Az (A3 f.kind))).length=(Az (A3 f.kind)).toNat:=by rw[hp,Y4]
  have hsl:(r.s.length:Int)=(x.length:Int)+Az (A3 f.kind)+(y.length:Int):=by rw[hs,List.length_append,List.length_append,hl];omega
  have hfx:C3 r.s r.at_ (Az (A3 f.kind))=true:=by
   simp only[C3,hwk,Bool.true_and,Aw,Bool.and_eq_true,decide_eq_true_eq];omega
  have hok:Dx r (Az (A3 f.kind)) e=true:=by unfold Dx;rw[hfx,decide_eq_true (by omega)];rfl
  refine⟨hok,?_,?_,by omega⟩
  ·unfold Ey Gg
   rw[if_pos hok,if_pos hfx,ha,Int.toNat_natCast,←hl,hs,Ag3,hp,Y5]
   ·omega
   ·rcases hcs with h7|h7|h7
    ·omega
    ·have:=hu4 h7
     rw[h7]
     show u.toNat<256 ^ 4
     have:256 ^ 4=4294967296:=by decide
     omega
    ·rw[h7]
     show u.toNat<256 ^ 8
     have:256 ^ 8=18446744073709551616:=by decide
     omega
  ·unfold D3;rw[if_neg (by omega),if_pos hfx,hl]
   congr 1;omega
 ·simp only[if_neg hw] at *
  have hv:=Ab6 h0 h hs he
  rw[←ha] at hv
  have hok:Bf r e=true:=by unfold Bf;rw[hv];rfl
  refine⟨hok,by unfold Am;rw[if_pos hok,hv],?_,F9 u⟩
  rw[Pc hok,hv,ha]
theorem Arv {n w:Int} (h1:1≤n) (h2:n≤536870911) (h3:0≤w) (h4:w≤7):Kp (Bo n w)=true∧B9 (Bo n w)=n∧B1 (Bo n w)=w:=by
 have ht:Bo n w=8*n+w:=by
  unfold Bo
  rw[if_pos (by simp only[Aw,Bool.and_eq_true,decide_eq_true_eq];omega)]
 have hok:Kp (Bo n w)=true:=by
  rw[ht];simp only[Kp,Aw,Bool.and_eq_true,decide_eq_true_eq];omega
 refine⟨hok,?_,?_⟩
 ·unfold B9;rw[if_pos hok,ht];omega
 ·unfold B1;rw[if_pos hok,ht];omega
/-! ### Frames without an error -/
def UG (u:Utf) (s:List UInt8) (v:Utf):Prop:= ∀i,Db u s i=(v,none)
theorem UG.nil (u:Utf):UG u [] u:=fun _=>rfl
theorem UG.app: ∀ {s t:List UInt8} {u v w:Utf},UG u s v→UG v t w→UG u (s++t) w
 |[],t,u,v,w,h,g=>by
  have h0:=h 0
  have:u=v:=congrArg Prod.fst h0
  rw[this];exact g
 |b::r,t,u,v,w,h,g=>by
  intro i
  rw[List.cons_append]
  unfold Db
  cases hb:utfByte u (b.toNat:Int) with
  |none=>
   have:=h 0
   unfold Db at this
   rw[hb] at this
   cases congrArg Prod.snd this
  |some x=>
   dsimp only
   have hr:UG x r v:=fun j=>by
    have e: ∀(s:List UInt8) (u:Utf) (i j:Nat),(Db u s i).1=(Db u s j).1∧((Db u s i).2=none→(Db u s j).2=none):=by
     intro s
     induction s with
     |nil=>exact fun u i j=>⟨rfl,fun h=>h⟩
     |cons c q ih=>
      intro u i j
      unfold Db
      cases utfByte u (c.toNat:Int) with
      |none=>exact⟨rfl,fun h=>by cases h⟩
      |some y=>exact ih y (i+1) (j+1)
    have h1:=h 0
    unfold Db at h1
    rw[hb] at h1
    dsimp only at h1
    have h2:=e r x 1 j
    rw[h1] at h2
    exact Prod.ext h2.1.symm (h2.2 rfl)
   exact UG.app hr g (i+1)
theorem UG.of {u:Utf} {s:List UInt8} (h:C1 u s<0):UG u s (Ft u s):=by
 intro i
 have e: ∀(s:List UInt8) (u:Utf) (i j:Nat),(Db u s i).1=(Db u s j).1∧((Db u s i).2=none→(Db u s j).2=none):=by
  intro s
  induction s with
  |nil=>exact fun u i j=>⟨rfl,fun h=>h⟩
  |cons c q ih=>
   intro u i j
   unfold Db
   cases utfByte u (c.toNat:Int) with
   |none=>exact⟨rfl,fun h=>by cases h⟩
   |some y=>exact ih y (i+1) (j+1)
 have h0:(Db u s 0).2=none:=by
  unfold C1 at h
  cases hu:(Db u s 0).2 with
  |none=>rfl
  |some j=>rw[hu] at h;exact absurd h (by show¬(j:Int)<0;omega)
 have h2:=e s u 0 i
 exact Prod.ext h2.1.symm (h2.2 h0)
inductive BdV (p:Pln):Int→Nat→List Ev→Prop
 |nil (sh:Int) (D:Nat):BdV p sh D []
 |num {sh:Int} {D:Nat} {e:Ev} {l:List Ev} {f:Fld} :e.kind=2→fieldAt p.shapes sh e.field=some f→Bs f.kind=true→Cb f.kind e.bits=true→BdV p sh D l→BdV p sh D (e::l)
 |text {sh:Int} {D:Nat} {e s:Ev} {ps l:List Ev} {f:Fld} :e.kind=3→fieldAt p.shapes sh e.field=some f→isBytes f.kind=true→(∀x∈ps,x.kind=4)→(f.kind=6→UG utf0 (Dt ps) utf0)→s.kind=5→BdV p sh D l→BdV p sh D (e::(ps++s::l))
 |down {sh:Int} {D:Nat} {e u:Ev} {b l:List Ev} {f:Fld} :e.kind=6→fieldAt p.shapes sh e.field=some f→f.kind=8→BdV p f.msg D b→u.kind=7→BdV p sh (D+1) l→BdV p sh (D+1) (e::(b++u::l))
theorem BdV.bd {p:Pln} {sh:Int} {D:Nat} {l:List Ev} (h:BdV p sh D l):Bd p sh l:=by
 induction h with
 |nil=>exact .nil _
 |num h1 h2 _ _ _ ih=>exact .num h1 h2 ih
 |text h1 h2 _ h4 _ h6 _ ih=>exact .text h1 h2 h4 h6 ih
 |down h1 h2 _ _ h5 _ i1 i2=>exact .down h1 h2 i1 h5 i2
theorem Y6 {p:Pln} : ∀ {r:List Ev} {a:Fa} {i:Int},a.inText=true→a.ended=false→(Ln p a r i).1=0→∃ps s r2 a2 i2,r=ps++s::r2∧(∀x∈ps,x.kind=4)∧s.kind=5∧(Ln p a2 r2 i2).1=0∧a2.stack=a.stack∧a2.inText=false∧a2.ended=false∧(a.isText=true→UG a.utf (Dt ps) utf0)
 |[],a,i,ht,he,h=>by rw[Hj,if_neg (by simp[he])] at h;exact absurd h (by simp)
 |e::r,a,i,ht,he,h=>by
  rw[Ga] at h
  split at h
  ·rename_i hc;exact absurd h hc
  ·rename_i hc
   have hc:C2 p a e=0:=by simpa using hc
   have hp:C9 a e=0:=by unfold C2 at hc;rwa [if_neg (by simp[he]),if_pos ht] at hc
   have hs:B5 p a e=Bn a e:=by unfold B5;rw[if_neg (by simp[he]),if_pos ht]
   rw[hs] at h
   have h45:e.kind=4∨e.kind=5:=by
    unfold C9 at hp
    split at hp
    ·exact .inl (by assumption)
    ·split at hp
     ·exact .inr (by assumption)
     ·exact absurd hp (by decide)
   rcases h45 with h4|h5
   ·have hst:(Bn a e).inText=true∧(Bn a e).ended=false∧(Bn a e).stack=a.stack∧(Bn a e).isText=a.isText∧(a.isText=true→(Bn a e).utf=Ft a.utf e.text∧UG a.utf e.text (Ft a.utf e.text)):=by
     unfold Bn;rw[if_neg (by simp[hp]),if_pos h4]
     unfold C9 at hp
     rw[if_pos h4] at hp
     split
     ·rename_i hit
      refine⟨ht,he,rfl,rfl,fun _=>⟨rfl,UG.of ?_⟩⟩
      split at hp
      ·exact absurd hp (by decide)
      ·rename_i hn
       exact Int.not_le.1 fun h0=>hn ⟨hit,h0⟩
     ·rename_i hit
      exact⟨ht,he,rfl,rfl,fun h0=>absurd h0 hit⟩
    obtain ⟨ps,s,r2,a2,i2,h1,h2,h3,h4',h5,h6,h7,h8⟩:=Y6 hst.1 hst.2.1 h
    exact⟨e::ps,s,r2,a2,i2,by rw[h1];rfl,fun x hx=>by
     rcases List.mem_cons.1 hx with rfl|hx
     ·exact h4
     ·exact h2 x hx,h3,h4',by rw[h5,hst.2.2.1],h6,h7,fun hit=>by
     have hu:=hst.2.2.2.2 hit
     have h9:=h8 (by rw[hst.2.2.2.1];exact hit)
     rw[hu.1] at h9
     rw[Aa1]
     exact hu.2.app h9⟩
   ·refine⟨[],e,r,_,_,rfl,(fun x hx=>by cases hx),h5,h,?_⟩
    unfold Bn;rw[if_neg (by simp[hp]),if_neg (by omega)]
    refine⟨rfl,rfl,he,fun hit=>?_⟩
    unfold C9 at hp
    rw[if_neg (by omega),if_pos h5] at hp
    split at hp
    ·exact absurd hp (by decide)
    ·rename_i hn
     have:a.utf=utf0:=Decidable.byContradiction fun h0=>hn ⟨hit,h0⟩
     rw[this];exact UG.nil _
theorem Ame {p:Pln} : ∀(k:Nat) {r:List Ev} {a:Fa} {i:Int} {st:List Int} {sh:Int} {D:Nat},r.length≤k→a.inText=false→a.ended=false→a.stack=st++[sh]→(st.length:Int)+1+(D:Int)=p.deep→(Ln p a r i).1=0→
  ∃b u r2,r=b++u::r2∧BdV p sh D b∧((st=[]∧u.kind=8∧r2=[])∨(st≠[]∧u.kind=7∧∃a2 i2,(Ln p a2 r2 i2).1=0∧a2.stack=st∧a2.inText=false∧a2.ended=false)):=by
 intro k
 induction k with
 |zero=>
  intro r a i st sh D hl ht he hs hd h
  have:r=[]:=List.eq_nil_of_length_eq_zero (by omega)
  subst this
  rw[Hj,if_neg (by simp[he])] at h;exact absurd h (by simp)
 |succ k ih=>
  intro r a i st sh D hl ht he hs hd h
  cases r with
  |nil=>rw[Hj,if_neg (by simp[he])] at h;exact absurd h (by simp)
  |cons e r=>
   simp only[List.length_cons] at hl
   rw[Ga] at h
   split at h
   ·rename_i hc;exact absurd h hc
   rename_i hc
   have hc:C2 p a e=0:=by simpa using hc
   unfold C2 at hc
   rw[if_neg (by simp[he]),if_neg (by simp[ht])] at hc
   have hst:B5 p a e=if Cf e.kind=true then Bj p a e else if e.kind=7∧1<a.stack.length then ⟨a.stack.take (a.stack.length-1),a.inText,a.isText,a.utf,a.ended⟩ else if e.kind=8∧a.stack.length=1 then ⟨a.stack,a.inText,a.isText,a.utf,true⟩ else a:=by
    unfold B5;rw[if_neg (by simp[he]),if_neg (by simp[ht])]
   rw[hst] at h
   split at hc
   ·rename_i hf
    rw[if_pos hf] at h
    obtain ⟨f,ho⟩: ∃f,Mb p a e=some f:=by
     cases ho:Mb p a e with
     |none=>rw[Hb ho] at hc;exact absurd hc (by decide)
     |some f=>exact⟨f,rfl⟩
    have hfa:fieldAt p.shapes sh e.field=some f:=by have:=ho;unfold Mb at this;rwa [hs,lastD_snoc] at this
    rw[Hc ho,if_neg (by simp[hc])] at h
    have hk:e.kind=2∨e.kind=3∨e.kind=6:=by
     simp only[Cf,Bool.or_eq_true,decide_eq_true_eq] at hf;omega
    rw[J3 ho] at hc
    split at hc
    ·exact absurd hc (by decide)
    rename_i hc1
    split at hc
    ·exact absurd hc (by decide)
    rename_i hc2
    split at hc
    ·exact absurd hc (by decide)
    rename_i hc3
    rcases hk with hk|hk|hk
    ·rw[if_neg (by omega),if_neg (by omega)] at h
     obtain ⟨b,u,r2,h1,h2,h3⟩:=ih (by omega) ht he hs hd h
     have hn:Bs f.kind=true:=by
      cases hh:Bs f.kind with
      |true=>rfl
      |false=>exact absurd (.inl ⟨hk,hh⟩) hc1
     have hb:Cb f.kind e.bits=true:=by
      cases hh:Cb f.kind e.bits with
      |true=>rfl
      |false=>exact absurd ⟨hk,hh⟩ hc2
     exact⟨e::b,u,r2,by rw[h1];rfl,.num hk hfa hn hb h2,h3⟩
    ·rw[if_pos hk] at h
     obtain ⟨ps,s,r2,a2,i2,h1,h2,h3,h4,h5,h6,h7,h8⟩:=Y6 (a:=⟨a.stack,true,decide (f.kind=6),utf0,a.ended⟩) rfl he h
     obtain ⟨b,u,r3,g1,g2,g3⟩:=ih (by have:=congrArg List.length h1;simp only[List.length_append,List.length_cons] at this;omega) h6 h7 (by rw[h5];exact hs) hd h4
     have hib:isBytes f.kind=true:=by
      cases hh:isBytes f.kind with
      |true=>rfl
      |false=>exact absurd (.inr (.inl ⟨hk,hh⟩)) hc1
     exact⟨e::(ps++s::b),u,r3,by rw[h1,g1];simp,.text hk hfa hib h2 (fun h6=>h8 (decide_eq_true h6)) h3 g2,g3⟩
    ·rw[if_neg (by omega),if_pos hk] at h
     have h8:f.kind=8:=Decidable.byContradiction fun hh=>hc1 (.inr (.inr ⟨hk,hh⟩))
     have hsl:(a.stack.length:Int)=(st.length:Int)+1:=by rw[hs,List.length_append,List.length_singleton];rfl
     have hdp: ¬p.deep≤(a.stack.length:Int):=fun hh=>hc3 ⟨hk,hh⟩
     obtain ⟨D',rfl⟩: ∃D',D=D'+1:=⟨D-1,by omega⟩
     obtain ⟨b,u,r2,h1,h2,h3⟩:=ih (a:=⟨a.stack++[f.msg],a.inText,a.isText,a.utf,a.ended⟩) (st:=a.stack) (sh:=f.msg) (D:=D') (by omega) ht he rfl (by omega) h
     rcases h3 with h3|⟨_,h3,a2,i2,h4,h5,h6,h7⟩
     ·rw[hs] at h3;simp at h3
     ·obtain ⟨c,v,r3,g1,g2,g3⟩:=ih (by have:=congrArg List.length h1;simp only[List.length_append,List.length_cons] at this;omega) h6 h7 (by rw[h5];exact hs) hd h4
      exact⟨e::(b++u::c),v,r3,by rw[h1,g1];simp,.down hk hfa h8 h2 h3 g2,g3⟩
   ·rename_i hf
    rw[if_neg hf] at h
    split at hc
    ·rename_i h7
     rw[if_pos h7] at h
     exact⟨[],e,r,rfl,.nil _ _,.inr ⟨fun h0=>by have:=h7.2;rw[hs,h0] at this;simp at this,h7.1,_,_,h,by rw[hs];simp,ht,he⟩⟩
    ·rename_i h7
     rw[if_neg h7] at h
     split at hc
     ·rename_i h8
      rw[if_pos h8] at h
      have hst:st=[]:=by have:=h8.2;rw[hs] at this;simpa using this
      cases r with
      |nil=>exact⟨[],e,[],rfl,.nil _ _,.inl ⟨hst,h8.1,rfl⟩⟩
      |cons x r=>rw[Ga,if_pos (by unfold C2;rw[if_pos rfl];decide)] at h;unfold C2 at h;rw[if_pos rfl] at h;exact absurd h (by simp)
     ·exact absurd hc (by decide)
theorem Amf {p:Pln} {l:List Ev} (h:(Bk p l).1=0):B3 p=true∧∃e b u,l=e::(b++[u])∧BdV p p.root (p.deep-1).toNat b∧u.kind=8∧e.kind=1:=by
 cases l with
 |nil=>exact absurd h (by simp[Bk])
 |cons e r=>
  unfold Bk at h
  simp only at h
  split at h
  ·rename_i hp
   have hpt:=C6 hp.1
   obtain ⟨b,u,r2,h1,h2,h3⟩:=Ame r.length (st:=[]) (sh:=p.root) (D:=(p.deep-1).toNat) (Nat.le_refl _) rfl rfl rfl (by simp only[List.length_nil];omega) h
   rcases h3 with ⟨_,h3,h4⟩|⟨h0,_⟩
   ·subst h4;exact⟨hp.1,e,b,u,by rw[h1],h2,h3,hp.2⟩
   ·exact absurd rfl h0
  ·exact absurd h (by simp)
/-! ### Marks: frames, texts and messages with their lengths -/
def Ag4 (k:Int):Bool:=decide (k=1)||decide (k=3)||decide (k=6)
def mk:List Ev→List (Int×Int)
 |[]=>[]
 |e::r=>if Ag4 e.kind then (e.kind,e.len)::mk r else mk r
def mkS:List Ev→List Int→List (Int×Int)
 |e::r,n::ns=>if Ag4 e.kind then (e.kind,n)::mkS r ns else mkS r ns
 |_,_=>[]
theorem Wp: ∀a b:List Ev,mk (a++b)=mk a++mk b
 |[],b=>rfl
 |e::r,b=>by rw[List.cons_append,mk,mk,Wp r b];split<;>rfl
theorem Afi: ∀(a b:List Ev) (m n:List Int),m.length=a.length→mkS (a++b) (m++n)=mkS a m++mkS b n
 |[],b,m,n,h=>by rw[List.eq_nil_of_length_eq_zero h];rfl
 |e::r,b,[],n,h=>by simp at h
 |e::r,b,x::m,n,h=>by
  have:=Afi r b m n (by simpa using h)
  rw[List.cons_append,List.cons_append,mkS,mkS,this];split<;>rfl
theorem Ab7: ∀(q l:List Ev) (ns:List Int),(∀x∈q,Ag4 x.kind=false)→mkS (q++l) (List.replicate q.length (-1)++ns)=mkS l ns
 |[],l,ns,_=>rfl
 |e::r,l,ns,h=>by
  rw[List.length_cons,List.replicate_succ,List.cons_append,List.cons_append,mkS,if_neg (by rw[h e (List.mem_cons_self ..)];decide)]
  exact Ab7 r l ns fun x hx=>h x (List.mem_cons_of_mem _ hx)
theorem Amg: ∀q:List Ev,(∀x∈q,Ag4 x.kind=false)→mk q=[]
 |[],_=>rfl
 |e::r,h=>by rw[mk,if_neg (by rw[h e (List.mem_cons_self ..)];decide)];exact Amg r fun x hx=>h x (List.mem_cons_of_mem _ hx)
/-! ### Reading on -/
def Zw (r:Mr) (a:Int) (t:List Ev):Mr:=⟨r.plan,r.s,a,r.out++t,r.fail⟩
theorem U0 {step:Mr→Mr} (hs:Jc step) {e:Int} {r:Mr} (hl:r.at_≤(r.s.length:Int)) (hg:r.at_<e) (hk:r.fail.kind=0):Cw (E3 e) step (Kj r) r=Cw (E3 e) step (Kj (step r)) (step r):=((LInv.refl (step:=step) (e:=e) hl).go hs hg hk).1.run.symm
theorem Y7 {step:Mr→Mr} {e:Int} {r:Mr} (h:e≤r.at_) (k:Nat):Cw (E3 e) step k r=r:=Cq (by simp[E3];omega)
theorem Ab8 {r:Mr} {a:Int} (h:r.at_=a):Zw r a []=r:=by subst h;unfold Zw;rw[List.append_nil]
theorem Amh {f:Fld} (hf:0<f.number) (hn:Bs f.kind=true): ∀(l:List Ev) {r:Mr} {x y:List UInt8} {e:Int},(∀v∈l,Cb f.kind v.bits=true∧0≤v.bits∧v.bits≤18446744073709551615)→r.s=x++(C4 f l++y)→r.at_=(x.length:Int)→r.fail.kind=0→e=(x.length:Int)+((C4 f l).length:Int)→G4 r f e=Zw r e (l.map fun v=>Ed f v.bits)
 |[],r,x,y,e,_,_,ha,_,he=>by
  have:r.at_=e:=by rw[he,ha];simp[C4]
  unfold G4
  rw[Y7 (by omega)]
  exact(Ab8 this).symm
 |v::l,r,x,y,e,h,hs,ha,hk,he=>by
  obtain ⟨h1,h2,h3⟩:=h v (List.mem_cons_self ..)
  rw[Aa0] at hs he
  rw[List.length_append] at he
  have hs1:r.s=x++(Eo f v.bits++(C4 f l++y)):=by rw[hs,List.append_assoc]
  obtain ⟨g1,g2,g3,g4⟩:=Amd (r:=r) (e:=e) hs1 ha hn h1 h2 h3 (by omega)
  have hl:r.at_≤(r.s.length:Int):=by rw[hs,List.length_append,ha];omega
  have hst:Bq r f (A3 f.kind) e=Aj (Gh r ((x.length:Int)+((Eo f v.bits).length:Int))) (Ed f v.bits):=by
   unfold Bq;rw[if_pos ⟨g1,hf⟩,g3,g2]
  unfold G4
  rw[U0 (J7 f (A3 f.kind) e) hl (by omega) hk]
  show Cw _ _ (Kj (Bq r f (A3 f.kind) e)) (Bq r f (A3 f.kind) e)=_
  rw[hst]
  have I:=Amh hf hn l (r:=Aj (Gh r ((x.length:Int)+((Eo f v.bits).length:Int))) (Ed f v.bits)) (x:=x++Eo f v.bits) (y:=y) (e:=e) (fun w hw=>h w (List.mem_cons_of_mem _ hw)) (by show r.s=_;rw[hs];simp) (by show (x.length:Int)+_=_;rw[List.length_append];omega) hk (by rw[List.length_append];omega)
  unfold G4 at I
  rw[I]
  unfold Zw Aj Gh
  simp
theorem Arw {f:Fld} {t:List UInt8} (hib:isBytes f.kind=true) (hu:f.kind=6→UG utf0 t utf0) {r:Mr} {x y:List UInt8} (hs:r.s=x++(t++y)) (ha:r.at_=(x.length:Int)): ∃q,Be r f (t.length:Int)=Zw r ((x.length:Int)+(t.length:Int)) q∧mk q=[(3,(t.length:Int))]:=by
 have hth:As r (t.length:Int)=t:=by unfold As;rw[ha,Int.toNat_natCast,Int.toNat_natCast,hs];exact Ag3
 have hbad:E7 r f (t.length:Int)= -1:=by
  unfold E7;split
  ·rename_i h6;rw[hth];unfold C1;rw[hu h6 0]
  ·rfl
 have hst:Vi r f (t.length:Int)=utf0:=by
  unfold Vi;split
  ·rename_i h6;rw[hth];unfold Ft;rw[hu h6 0]
  ·rfl
 have hgd:Dy r f (t.length:Int)=t:=by unfold Dy;rw[hbad,if_neg (by decide),hth]
 unfold Be
 rw[hbad,if_neg (by decide),hth,if_neg (by omega),hst,if_neg (by decide)]
 unfold Ce
 rw[hgd]
 by_cases h0:t=[]
 ·rw[if_pos h0]
  refine⟨[A6 f (t.length:Int),shutEv],?_,rfl⟩
  unfold Zw Aj Gh;simp[ha]
 ·rw[if_neg h0]
  refine⟨[A6 f (t.length:Int),D5 t,shutEv],?_,rfl⟩
  unfold Zw Aj Gh;simp[ha]
theorem Xg {sub:Mr→Fld→Int→Int→Mr} {sh e n w:Int} {f:Fld} {r:Mr} {x y:List UInt8} (hs:r.s=x++(Er n w++y)) (ha:r.at_=(x.length:Int)) (he:(x.length:Int)+((Er n w).length:Int)≤e) (h1:1≤n) (h2:n≤536870911) (hw:Ha w=true) (hw0:0≤w∧w≤7) (hf:fieldAt r.plan.shapes sh n=some f) (hal:D0 f w=true):
  Ch sub sh e r=if w=2 then A7 sub (Gh r ((x.length:Int)+((Er n w).length:Int))) f true e else Bq (Gh r ((x.length:Int)+((Er n w).length:Int))) f w e:=by
 obtain ⟨t1,t2,t3⟩:=Arv h1 h2 hw0.1 hw0.2
 have htb:=Au n w
 have hv:=Ab6 (u:=Bo n w) (e:=e) htb.1 (by omega) hs he
 rw[←ha] at hv
 have hok:Bf r e=true:=by unfold Bf;rw[hv];rfl
 have hu:Am r e=Bo n w:=by unfold Am;rw[if_pos hok,hv]
 have hva:Ad r e=Gh r ((x.length:Int)+((Er n w).length:Int)):=by rw[Pc hok,hv,ha];rfl
 unfold Ch
 rw[hok,hu,t1,t2,t3,hw,hf,hva]
 rw[if_neg (by decide),if_neg (by decide),if_neg (by decide),if_neg (by rw[show ((some f).getD fld0)=f from rfl,hal];simp)]
 rfl
theorem Y8 {sub:Mr→Fld→Int→Int→Mr} {e:Int} {f:Fld} {r:Mr} {x t y:List UInt8} (hs:r.s=x++(A1 t++y)) (ha:r.at_=(x.length:Int)) (he:(x.length:Int)+((A1 t).length:Int)≤e) (ht:t.length≤1000000000):
  A7 sub r f true e=if f.kind=8 then sub (Gh r ((x++A9 (t.length:Int)).length:Int)) f (t.length:Int) r.at_ else if Bs f.kind=true then G4 (Gh r ((x++A9 (t.length:Int)).length:Int)) f (((x++A9 (t.length:Int)).length:Int)+(t.length:Int)) else Be (Gh r ((x++A9 (t.length:Int)).length:Int)) f (t.length:Int):=by
 have hfl:((A1 t).length:Int)=((A9 (t.length:Int)).length:Int)+(t.length:Int):=by unfold A1;rw[List.length_append];omega
 have hs1:r.s=x++(A9 (t.length:Int)++(t++y)):=by rw[hs];unfold A1;rw[List.append_assoc]
 have hv:=Ab6 (u:=(t.length:Int)) (e:=e) (by omega) (by omega) hs1 (by omega)
 rw[←ha] at hv
 have hok:Bf r e=true:=by unfold Bf;rw[hv];rfl
 have hu:Am r e=(t.length:Int):=by unfold Am;rw[if_pos hok,hv]
 have hxl:((x++A9 (t.length:Int)).length:Int)=(x.length:Int)+((A9 (t.length:Int)).length:Int):=by rw[List.length_append];omega
 have hva:Ad r e=Gh r ((x++A9 (t.length:Int)).length:Int):=by rw[Pc hok,hv,hxl,ha]
 unfold A7
 rw[hok,hu,hva,if_neg (by decide),if_neg (by show¬e-((x++A9 (t.length:Int)).length:Int)<_;omega),if_neg (by decide)]
 rfl
theorem Ami {p:Pln} {sh:Int} {D:Nat} {f:Fld} (hf:fieldAt p.shapes sh f.number=some f): ∀ {l:List Ev},BdV p sh D l→BdV p sh D (l.drop (Km f l))∧∀v∈l.take (Km f l),v.kind=2∧Cb f.kind v.bits=true
 |[],h=>⟨h,fun v hv=>by cases hv⟩
 |e::l,h=>by
  unfold Km
  split
  ·rename_i hr
   simp only[Vw,Bool.and_eq_true,decide_eq_true_eq] at hr
   cases h with
   |num hk hfa hn hb hl=>
    rw[hr.2,hf] at hfa
    cases hfa
    obtain ⟨h1,h2⟩:=Ami hf hl
    refine⟨by rw[List.drop_succ_cons];exact h1,fun v hv=>?_⟩
    rw[List.take_succ_cons] at hv
    rcases List.mem_cons.1 hv with rfl|hv
    ·exact⟨hr.1,hb⟩
    ·exact h2 v hv
   |text h3=>omega
   |down h6=>omega
  ·exact⟨by rw[List.drop_zero];exact h,fun v hv=>by rw[List.take_zero] at hv;cases hv⟩
theorem Aor {k:Int} (h:Bs k=true):Ha (A3 k)=true∧A3 k≠2∧0≤A3 k∧A3 k≤7:=by
 have hk:=Bp h
 rcases (show k=1∨k=2∨k=3∨k=4∨k=5 by omega) with rfl|rfl|rfl|rfl|rfl<;>decide
theorem Arx {p:Pln} (hp:B3 p=true): ∀(k:Nat) {sh:Int} {D:Nat} {b:List Ev} {r:Mr} {x y:List UInt8} {e:Int},b.length≤k→BdV p sh D b→EvsB b→r.plan.shapes=p.shapes→r.s=x++(mT p sh b++y)→r.at_=(x.length:Int)→r.fail.kind=0→(mT p sh b).length≤1000000000→e=(x.length:Int)+((mT p sh b).length:Int)→∃t,Dk D sh e r=Zw r e t∧mk t=mkS b (sT p sh b):=by
 have hps:=(C6 hp).2.1
 intro k
 induction k with
 |zero=>
  intro sh D b r x y e hl hb hv hpl hs ha hk0 hsz he
  have:b=[]:=List.eq_nil_of_length_eq_zero (by omega)
  subst this
  have hat:r.at_=e:=by rw[he,ha];simp[mT]
  refine⟨[],?_,by simp[mk,mkS]⟩
  rw[Df,Y7 (by omega)]
  exact(Ab8 hat).symm
 |succ k ih=>
  intro sh D b r x y e hl hb hv hpl hs ha hk0 hsz he
  cases hb with
  |nil=>
   have hat:r.at_=e:=by rw[he,ha];simp[mT]
   refine⟨[],?_,by simp[mk,mkS]⟩
   rw[Df,Y7 (by omega)]
   exact(Ab8 hat).symm
  | @num _ _ e0 l f hk hfa hn hbf hbl=>
   have hfo:=E0 hfa
   have hfn:=Py hfa
   have hfk:=Qv (K3 hps hfa).1
   have hw:=Aor hn
   have hrl:r.at_≤(r.s.length:Int):=by rw[hs,List.length_append,ha];omega
   rw[Aax hk,hfo] at hs he hsz
   rw[Aay hk,hfo]
   simp only[List.length_cons] at hl
   have hnl:=Kv f (l:=e0::l) (by simp)
   have hnp:=Gv f (e0::l)
   rw[List.length_cons] at hnl
   have hfas:fieldAt p.shapes sh f.number=some f:=by rw[hfn];exact hfa
   -- what is read of the run, and what is left
   have hrun:=Ami hfas hbl
   have hnN:Bt f (e0::l)-1=if f.packed then Km f l else 0:=by unfold Bt;rw[List.drop_one,List.tail_cons];omega
   have hrest:BdV p sh D (l.drop (Bt f (e0::l)-1)):=by
    rw[hnN];split
    ·exact hrun.1
    ·rw[List.drop_zero];exact hbl
   have htk: ∀v∈(e0::l).take (Bt f (e0::l)),v.kind=2∧Cb f.kind v.bits=true∧0≤v.bits∧v.bits≤18446744073709551615:=by
    intro v hvm
    have hEv:=hv.2.2 v (List.mem_of_mem_take hvm)
    have:(e0::l).take (Bt f (e0::l))=e0::l.take (Bt f (e0::l)-1):=by
     conv=>lhs;rw[show Bt f (e0::l)=(Bt f (e0::l)-1)+1 by omega]
     rw[List.take_succ_cons]
    rw[this] at hvm
    rcases List.mem_cons.1 hvm with rfl|hvm
    ·exact⟨hk,hbf,hEv.2⟩
    ·rw[hnN] at hvm
     split at hvm
     ·exact⟨(hrun.2 v hvm).1,(hrun.2 v hvm).2,hEv.2⟩
     ·rw[List.take_zero] at hvm;cases hvm
   have hvr:EvsB (l.drop (Bt f (e0::l)-1)):=(hv.cons).drop _
   generalize hN:Bt f (e0::l)=N at *
   -- one step
   have hstep:Ch (Ei D) sh e r=Zw r (((x++Gi f (e0::l)).length:Nat):Int) (((e0::l).take N).map fun v=>Ed f v.bits)∧1≤(Gi f (e0::l)).length:=by
    unfold Gi at hs he ⊢
    rw[hN] at hs he ⊢
    cases hpk:f.packed with
    |true=>
     simp only[hpk,if_true] at hs he ⊢
     have hsz2:(C4 f ((e0::l).take N)).length≤1000000000:=by
      unfold Gi at hsz
      simp only[hpk,if_true,hN,List.length_append] at hsz
      unfold A1 at hsz
      rw[List.length_append] at hsz
      omega
     have hal:D0 f 2=true:=by
      have hok:=(K3 hps hfa).1
      simp only[H7,Bool.and_eq_true,Bool.not_eq_true',Bool.and_eq_false_iff,Bool.or_eq_false_iff,hpk,Bool.true_eq_false,false_or] at hok
      have hrep:f.rep=true:=by have:=hok.1.2.1;cases hr:f.rep with
       |true=>rfl
       |false=>rw[hr] at this;exact absurd this (by decide)
      simp[D0,Ww,hrep,hn]
     have hs1:r.s=x++(Er f.number 2++(A1 (C4 f ((e0::l).take N))++(mT p sh (l.drop (N-1))++y))):=by rw[hs];simp only[List.append_assoc]
     have hfr:(A1 (C4 f ((e0::l).take N))).length=(A9 ((C4 f ((e0::l).take N)).length:Int)).length+(C4 f ((e0::l).take N)).length:=by unfold A1;rw[List.length_append]
     simp only[List.length_append] at he
     rw[Xg hs1 ha (by omega) hfk.1 hfk.2.1 (by decide) (by decide) (by rw[hpl];exact hfas) hal,if_pos rfl]
     have hs2:(Gh r ((x.length:Int)+((Er f.number 2).length:Int))).s=(x++Er f.number 2)++(A1 (C4 f ((e0::l).take N))++(mT p sh (l.drop (N-1))++y)):=by show r.s=_;rw[hs1];simp only[List.append_assoc]
     have hk8:f.kind≠8:=by have:=Bp hn;omega
     rw[Y8 hs2 (by show (x.length:Int)+_=_;rw[List.length_append];omega) (by rw[List.length_append];omega) hsz2,if_neg hk8,if_pos hn]
     have hs3:r.s=((x++Er f.number 2)++A9 ((C4 f ((e0::l).take N)).length:Int))++(C4 f ((e0::l).take N)++(mT p sh (l.drop (N-1))++y)):=by rw[hs1];unfold A1;simp only[List.append_assoc]
     have R:=Amh (f:=f) (by omega) hn ((e0::l).take N) (r:=Gh (Gh r ((x.length:Int)+((Er f.number 2).length:Int))) ((((x++Er f.number 2)++A9 ((C4 f ((e0::l).take N)).length:Int)).length:Nat):Int)) (e:=((((x++Er f.number 2)++A9 ((C4 f ((e0::l).take N)).length:Int)).length:Nat):Int)+((C4 f ((e0::l).take N)).length:Int)) (fun v hvm=>(htk v hvm).2) hs3 rfl hk0 rfl
     rw[R]
     have hle:((((x++Er f.number 2)++A9 ((C4 f ((e0::l).take N)).length:Int)).length:Nat):Int)+((C4 f ((e0::l).take N)).length:Int)=(((x++(Er f.number 2++A1 (C4 f ((e0::l).take N)))).length:Nat):Int):=by simp only[List.length_append,hfr];omega
     rw[hle]
     refine⟨rfl,?_⟩
     rw[List.length_append];have:=F9 (Bo f.number 2);unfold Er;omega
    |false=>
     simp only[hpk,Bool.false_eq_true,if_false] at hs he ⊢
     have hN1:N=1:=by rw[hpk] at hnN;simp at hnN;omega
     subst hN1
     rw[show (e0::l).take 1=[e0] from rfl] at hs he ⊢
     rw[show C4 f [e0]=Eo f e0.bits by unfold C4;simp] at hs he ⊢
     have hs1:r.s=x++(Er f.number (A3 f.kind)++(Eo f e0.bits++(mT p sh (l.drop (1-1))++y))):=by rw[hs];simp only[List.append_assoc]
     simp only[List.length_append] at he
     have hal:D0 f (A3 f.kind)=true:=by simp[D0]
     rw[Xg hs1 ha (by omega) hfk.1 hfk.2.1 hw.1 hw.2.2 (by rw[hpl];exact hfas) hal,if_neg hw.2.1]
     have hs2:(Gh r ((x.length:Int)+((Er f.number (A3 f.kind)).length:Int))).s=(x++Er f.number (A3 f.kind))++(Eo f e0.bits++(mT p sh (l.drop (1-1))++y)):=by show r.s=_;rw[hs1];simp only[List.append_assoc]
     have hE:=(hv.2.2 e0 (List.mem_cons_self ..)).2
     obtain ⟨g1,g2,g3,g4⟩:=Amd (e:=e) hs2 (by show (x.length:Int)+_=_;rw[List.length_append];omega) hn hbf hE.1 hE.2 (by rw[List.length_append];omega)
     unfold Bq
     rw[if_pos ⟨g1,by omega⟩,g3,g2]
     refine⟨?_,by rw[List.length_append];omega⟩
     unfold Zw Aj Gh
     simp only[List.length_append,List.map_cons,List.map_nil]
     congr 1
     omega
   have he2:e=(x.length:Int)+((Gi f (e0::l)).length:Int)+((mT p sh (l.drop (N-1))).length:Int):=by rw[he,List.length_append];omega
   rw[List.length_append] at hsz
   obtain ⟨t,I1,I2⟩:=ih (sh:=sh) (D:=D) (b:=l.drop (N-1)) (r:=Zw r (((x++Gi f (e0::l)).length:Nat):Int) (((e0::l).take N).map fun v=>Ed f v.bits)) (x:=x++Gi f (e0::l)) (y:=y) (e:=e) (by rw[List.length_drop];omega) hrest hvr hpl (by show r.s=_;rw[hs];simp only[List.append_assoc]) rfl hk0 (by omega) (by rw[List.length_append];omega)
   refine⟨(((e0::l).take N).map fun v=>Ed f v.bits)++t,?_,?_⟩
   ·rw[Df,U0 (Fi D sh e) hrl (by rw[ha];omega) hk0,hstep.1,←Df,I1]
    unfold Zw;simp
   ·rw[Wp,Amg _ (fun v hvm=>by
     obtain ⟨w,-,rfl⟩:=List.mem_map.1 hvm
     rfl),List.nil_append,I2]
    have hsplit:e0::l=e0::(l.take (N-1)++l.drop (N-1)):=by rw[List.take_append_drop]
    have hln:(l.take (N-1)).length=N-1:=by rw[List.length_take];omega
    conv=>rhs;arg 1;rw[hsplit]
    rw[mkS,if_neg (by rw[hk];decide)]
    have:=Ab7 (l.take (N-1)) (l.drop (N-1)) (sT p sh (l.drop (N-1))) (fun v hvm=>by
     have h2:=htk v (by
      rw[show N=(N-1)+1 by omega,List.take_succ_cons];exact List.mem_cons_of_mem _ hvm)
     rw[h2.1];decide)
    rw[hln] at this
    exact this.symm
  | @text _ _ e0 s0 ps l f hk hfa hib hp4 hug h5 hbl=>
   have hfo:=E0 hfa
   have hfn:=Py hfa
   have hfk:=Qv (K3 hps hfa).1
   have hrl:r.at_≤(r.s.length:Int):=by rw[hs,List.length_append,ha];omega
   rw[Vy hk hp4 h5,hfo] at hs he hsz
   rw[Vz hk hp4 h5]
   simp only[List.length_cons,List.length_append] at hl
   have hfas:fieldAt p.shapes sh f.number=some f:=by rw[hfn];exact hfa
   have hk67:f.kind=6∨f.kind=7:=by simpa [isBytes] using hib
   have hal:D0 f 2=true:=by
    unfold D0
    rcases hk67 with h|h<;>rw[h]<;>rfl
   have hvl:EvsB l:=by
    have h1:=hv.cons
    have h2:=h1.right
    exact h2.cons
   simp only[List.length_append] at he hsz
   have hfr:(A1 (Dt ps)).length=(A9 ((Dt ps).length:Int)).length+(Dt ps).length:=by unfold A1;rw[List.length_append]
   have htl:=F9 (Bo f.number 2)
   have hlt:r.at_<e:=by
    have htp:1≤(Er f.number 2).length:=htl
    rw[ha];omega
   have hs1:r.s=x++(Er f.number 2++(A1 (Dt ps)++(mT p sh l++y))):=by rw[hs];simp only[List.append_assoc]
   have hT:=Xg (sub:=Ei D) (sh:=sh) (e:=e) hs1 ha (by omega) hfk.1 hfk.2.1 (by decide) (by decide) (by rw[hpl];exact hfas) hal
   rw[if_pos rfl] at hT
   have hs2:(Gh r ((x.length:Int)+((Er f.number 2).length:Int))).s=(x++Er f.number 2)++(A1 (Dt ps)++(mT p sh l++y)):=by show r.s=_;rw[hs1];simp only[List.append_assoc]
   have hnn: ¬Bs f.kind=true:=by rcases hk67 with h|h<;>rw[h]<;>decide
   rw[Y8 hs2 (by show (x.length:Int)+_=_;rw[List.length_append];omega) (by rw[List.length_append];omega) (by omega),if_neg (by omega),if_neg hnn] at hT
   have hs3:(Gh (Gh r ((x.length:Int)+((Er f.number 2).length:Int))) (((x++Er f.number 2++A9 ((Dt ps).length:Int)).length:Nat):Int)).s=(x++Er f.number 2++A9 ((Dt ps).length:Int))++(Dt ps++(mT p sh l++y)):=by show r.s=_;rw[hs1];unfold A1;simp only[List.append_assoc]
   obtain ⟨q,Q1,Q2⟩:=Arw (f:=f) hib hug hs3 rfl
   rw[Q1] at hT
   have hle:(((x++Er f.number 2++A9 ((Dt ps).length:Int)).length:Nat):Int)+((Dt ps).length:Int)=(((x++(Er f.number 2++A1 (Dt ps))).length:Nat):Int):=by simp only[List.length_append,hfr];omega
   rw[hle] at hT
   have hT:Ch (Ei D) sh e r=Zw r (((x++(Er f.number 2++A1 (Dt ps))).length:Nat):Int) q:=hT
   obtain ⟨t,I1,I2⟩:=ih (sh:=sh) (D:=D) (b:=l) (r:=Zw r (((x++(Er f.number 2++A1 (Dt ps))).length:Nat):Int) q) (x:=x++(Er f.number 2++A1 (Dt ps))) (y:=y) (e:=e) (by omega) hbl hvl hpl (by show r.s=_;rw[hs];simp only[List.append_assoc]) rfl hk0 (by omega) (by simp only[List.length_append];omega)
   refine⟨q++t,?_,?_⟩
   ·rw[Df,U0 (Fi D sh e) hrl hlt hk0,hT,←Df,I1]
    unfold Zw;simp
   ·rw[Wp,Q2,I2,mkS,if_pos (by rw[hk];decide),hk]
    have:=Ab7 (ps++[s0]) l (sT p sh l) (fun v hvm=>by
     rcases List.mem_append.1 hvm with h|h
     ·rw[hp4 v h];decide
     ·rw[List.mem_singleton.1 h,h5];decide)
    rw[List.length_append,List.length_singleton] at this
    rw[show ps++s0::l=ps++[s0]++l by simp,this]
    rfl
  | @down _ D' e0 u b0 l f hk hfa h8 hb0 h7 hbl=>
   have hfo:=E0 hfa
   have hfn:=Py hfa
   have hfk:=Qv (K3 hps hfa).1
   have hrl:r.at_≤(r.s.length:Int):=by rw[hs,List.length_append,ha];omega
   rw[V0 hk hb0.bd h7,hfo] at hs he hsz
   rw[V2 hk hb0.bd h7,hfo]
   simp only[List.length_cons,List.length_append] at hl
   have hfas:fieldAt p.shapes sh f.number=some f:=by rw[hfn];exact hfa
   have hal:D0 f 2=true:=by unfold D0;rw[h8];rfl
   have hv1:=hv.cons
   have hvb:EvsB b0:=hv1.left
   have hvl:EvsB l:=(hv1.right).cons
   simp only[List.length_append] at he hsz
   have hfr:(A1 (mT p f.msg b0)).length=(A9 ((mT p f.msg b0).length:Int)).length+(mT p f.msg b0).length:=by unfold A1;rw[List.length_append]
   have htl:=F9 (Bo f.number 2)
   have hlt:r.at_<e:=by
    have htp:1≤(Er f.number 2).length:=htl
    rw[ha];omega
   have hs1:r.s=x++(Er f.number 2++(A1 (mT p f.msg b0)++(mT p sh l++y))):=by rw[hs];simp only[List.append_assoc]
   have hT:=Xg (sub:=Ei (D'+1)) (sh:=sh) (e:=e) hs1 ha (by omega) hfk.1 hfk.2.1 (by decide) (by decide) (by rw[hpl];exact hfas) hal
   rw[if_pos rfl] at hT
   have hs2:(Gh r ((x.length:Int)+((Er f.number 2).length:Int))).s=(x++Er f.number 2)++(A1 (mT p f.msg b0)++(mT p sh l++y)):=by show r.s=_;rw[hs1];simp only[List.append_assoc]
   rw[Y8 hs2 (by show (x.length:Int)+_=_;rw[List.length_append];omega) (by rw[List.length_append];omega) (by omega),if_pos h8] at hT
   -- the message Aw
   obtain ⟨t1,J1,J2⟩:=ih (sh:=f.msg) (D:=D') (b:=b0) (r:=Aj (Gh (Gh r ((x.length:Int)+((Er f.number 2).length:Int))) (((x++Er f.number 2++A9 ((mT p f.msg b0).length:Int)).length:Nat):Int)) (Dc f ((mT p f.msg b0).length:Int))) (x:=x++Er f.number 2++A9 ((mT p f.msg b0).length:Int)) (y:=mT p sh l++y) (e:=(((x++Er f.number 2++A9 ((mT p f.msg b0).length:Int)).length:Nat):Int)+((mT p f.msg b0).length:Int)) (by omega) hb0 hvb hpl (by show r.s=_;rw[hs1];unfold A1;simp only[List.append_assoc]) rfl hk0 (by omega) rfl
   have hle:(((x++Er f.number 2++A9 ((mT p f.msg b0).length:Int)).length:Nat):Int)+((mT p f.msg b0).length:Int)=(((x++(Er f.number 2++A1 (mT p f.msg b0))).length:Nat):Int):=by simp only[List.length_append,hfr];omega
   have hsub:Ch (Ei (D'+1)) sh e r=Zw r (((x++(Er f.number 2++A1 (mT p f.msg b0))).length:Nat):Int) (Dc f ((mT p f.msg b0).length:Int)::(t1++[X7])):=by
    rw[hT]
    simp only[Ei]
    rw[show (Gh (Gh r ((x.length:Int)+((Er f.number 2).length:Int))) (((x++Er f.number 2++A9 ((mT p f.msg b0).length:Int)).length:Nat):Int)).at_=(((x++Er f.number 2++A9 ((mT p f.msg b0).length:Int)).length:Nat):Int) from rfl,J1]
    split
    ·rw[hle]
     unfold Zw Aj Gh;simp
    ·rename_i h;exact absurd hk0 h
   obtain ⟨t,I1,I2⟩:=ih (sh:=sh) (D:=D'+1) (b:=l) (r:=Zw r (((x++(Er f.number 2++A1 (mT p f.msg b0))).length:Nat):Int) (Dc f ((mT p f.msg b0).length:Int)::(t1++[X7]))) (x:=x++(Er f.number 2++A1 (mT p f.msg b0))) (y:=y) (e:=e) (by omega) hbl hvl hpl (by show r.s=_;rw[hs];simp only[List.append_assoc]) rfl hk0 (by omega) (by simp only[List.length_append];omega)
   refine⟨(Dc f ((mT p f.msg b0).length:Int)::(t1++[X7]))++t,?_,?_⟩
   ·rw[Df,U0 (Fi (D'+1) sh e) hrl hlt hk0,hsub,←Df,I1]
    unfold Zw;simp
   ·rw[Wp,I2]
    have hm:mk (Dc f ((mT p f.msg b0).length:Int)::(t1++[X7]))=(6,((mT p f.msg b0).length:Int))::mk t1:=by
     rw[mk,if_pos (by show Ag4 6=true;decide),Wp,show mk [X7]=[] from rfl,List.append_nil];rfl
    rw[hm,J2,mkS,if_pos (by rw[hk];decide),hk]
    have hsl:=S7 (p:=p) _ (Nat.le_refl _) hb0.bd
    rw[Afi b0 (u::l) (sT p f.msg b0) ((-1)::sT p sh l) hsl,mkS,if_neg (by rw[h7];decide)]
    rfl
end Go.Proofs.YtijacopaadmncaaGreat.Ax
