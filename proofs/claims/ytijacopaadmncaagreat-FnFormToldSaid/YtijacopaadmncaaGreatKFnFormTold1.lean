/- Events as frames: the steps. Events as frames. Whole inputs. Readings of own, comparisons. -/
import Derived.Test.YtijacopaadmncaaGreatKS2
import Derived.Test.YtijacopaadmncaaGreatKS3
set_option linter.unusedSimpArgs false
set_option linter.unusedVariables false
namespace Go.Proofs.YtijacopaadmncaaGreat.Ax
open Go.RowKit
structure value_i_J1000002_V where
 isBytes:Bool
def value_i_J1000002_F (f:Fmr) (e:Ev) (x1:Int):Fam:=⟨value_i_J1000002_V,fun j1000002=>[(0,.v (vP 0)),(3,.v (vP 2)),(5,.v (vP 3)),(6,.v (vB (fieldAt f.plan.shapes x1 e.field).isSome)),(7,.v (vB j1000002.isBytes))],fun _=>[.cells (Fu 1 f),.lst .int f.st.stack,.cells (cEv e),.cells (Dd ((fieldAt f.plan.shapes x1 e.field).getD fld0))],fun j1000002=>j1000002.isBytes=isBytes ((fieldAt f.plan.shapes x1 e.field).getD fld0).kind,fun _=>0⟩
theorem value_i (f:Fmr) (e:Ev) (hp1:1≤List.length (f).st.stack) (hp2:List.length (f).st.stack≤1000) (hp3:Cp (f).plan.shapes=true) (hp4:List.length (e).text≤Ba) (hp5:(0:Int)≤(e).bits∧(e).bits≤18446744073709551615):Fun Tryz.prog 136 [vP 0,.agg (cEv e)] [.cells (Fu 1 f),.lst .int f.st.stack] (.v (vI (E6 (f).plan (f).st e))) [.cells [.seq .shp (f).plan.shapes,.int .i64 (f).plan.root,.int .i64 (f).plan.deep,.int .i64 (f).plan.most,.own 2,.bool (Bj (f).plan (f).st e).inText,.bool (Bj (f).plan (f).st e).isText,.int .i64 (Bj (f).plan (f).st e).utf.want,.int .i64 (Bj (f).plan (f).st e).utf.low,.int .i64 (Bj (f).plan (f).st e).utf.high,.bool (Bj (f).plan (f).st e).ended],.dead,.lst .int (Bj (f).plan (f).st e).stack]:=by
 have hN:Ba=274877906944:=rfl
 have hs6:=K2 hp3
 refine Av Tryz.func136 Q8 Q8 (w:=let zi:Int→C:= .int .i64;let z9:List C:=[zi 0,zi 0,zi 0,.bool f.st.ended];let z11:S:= .v (vI (E6 (f).plan (f).st e));let z12:List Blk:=[.cells (Fu 2 f),.dead,.lst .int f.st.stack];let z13:=(f.st.stack.length:Int);let z14:=decide (e.kind=6);let z15:=decide (e.kind=3);let z17:=decide (e.kind=2);let z18:=Bj (f).plan (f).st e;let z8:List C:=[.seq .shp (f).plan.shapes,zi (f).plan.root,zi (f).plan.deep,zi (f).plan.most,.own 2,.bool z18.inText,.bool z18.isText,zi z18.utf.want,zi z18.utf.low,zi z18.utf.high,.bool z18.ended];let z10:List Blk:=[.cells z8,.dead,.lst .int z18.stack];let z16:=Lf (.v (vI 2)) z11 z12 z10;let z19:=Lf (.v (vI 4)) z11 z12 z10;let z20:=decide (f.plan.deep≤z13);let z21:=Lf (.v (vI 6)) z11 z12 z10;let z22:S:= .v (vI 0);let z23:=z14=false;let z24:=os 17 [];let z25:=os 16 [9,12,15];let z26:=z14=true;let z27:=f.st.stack[Int.toNat (z13-1)]?;let z28:=z15=false;let z29:=z17=false;(.intro (Sx z27) fun x1=>let z3:=fieldAt f.plan.shapes x1 e.field;let z1:=z3.getD fld0;let z2:S:= .tup [.agg (Dd z1),vB z3.isSome];.seg [.tree (fr (.two 19 (fr (.one 23 (.one 24 (.first 25 (.done)))) 20 3) 23 (.one 19 (fr (.one 24 (.first 25 (.done))) 20 3))) 0 19) 26 [],.as 23 (.v (vI (z13-1))),.el .int x1,.call [] z2 [],.at 0,.keep [0,3,5,6],.sel [0,1,2,3],.call [] z2 [],.at 0,.keep [0,3,5,6],.sel [0,1,2,3]] (.join 1000002 (value_i_J1000002_F f e x1) (.br (.seg [.at 0,.keep [0,3,5,6,7],.sel [0,1,2,3]] (.next)) (.seg [.at 0,.keep [0,3,5,6,7],.sel [0,1,2,3]] (.next))) fun j1000002=> .br (.seg [.at 0,.cut 0 4] (.leaf () [0,1,4])) (.br (.seg [.call [] (.v (vB (Bs z1.kind))) []] (.br (.seg [.at 0,.cut 0 4] (.leaf () [0,1,4])) (.br (.br (.seg [.at 0,.cut 0 4] (.leaf () [0,1,4])) (.br (.br (.seg [.at 0,.cut 0 4] (.leaf () [0,1,4])) (.seg [.br true,.call [] (.v (vB (Cb z1.kind e.bits))) []] (.br (.seg [.at 0,.cut 0 4] (.leaf () [0,1,4])) (.seg [.ord z24 [],.br true] (.br (.seg [.at 0,.cut 0 4] (.leaf () [0,1,4])) (.seg [.br true,.ord z25 [0],.at 0,.cut 0 4] (.leaf () [0,1,4]))))))) (.seg [.br true,.call [] (.v (vB (Cb z1.kind e.bits))) []] (.br (.seg [.at 0,.cut 0 4] (.leaf () [0,1,4])) (.seg [.ord z24 [],.br false,.br true,.ord z25 [0],.at 0,.cut 0 4] (.leaf () [0,1,4])))))) (.br (.br (.seg [.at 0,.cut 0 4] (.leaf () [0,1,4])) (.seg [.br true,.call [] (.v (vB (Cb z1.kind e.bits))) []] (.br (.seg [.at 0,.cut 0 4] (.leaf () [0,1,4])) (.seg [.ord z24 [],.br true] (.br (.seg [.at 0,.cut 0 4] (.leaf () [0,1,4])) (.seg [.br false,.br true,.ord (os 12 [7,8,11]) [1],.ty .int,.ty .int] (.leaf () [0,1,5]))))))) (.seg [.br true,.call [] (.v (vB (Cb z1.kind e.bits))) []] (.br (.seg [.at 0,.cut 0 4] (.leaf () [0,1,4])) (.seg [.ord z24 [],.br false,.br false,.br false,.at 0,.cut 0 4] (.leaf () [0,1,4])))))))) (.br (.br (.seg [.at 0,.cut 0 4] (.leaf () [0,1,4])) (.br (.br (.seg [.at 0,.cut 0 4] (.leaf () [0,1,4])) (.seg [.br false,.ord z24 [],.br true] (.br (.seg [.at 0,.cut 0 4] (.leaf () [0,1,4])) (.seg [.br true,.ord z25 [0],.at 0,.cut 0 4] (.leaf () [0,1,4]))))) (.seg [.br false,.ord z24 [],.br false,.br true,.ord z25 [0],.at 0,.cut 0 4] (.leaf () [0,1,4])))) (.br (.br (.seg [.at 0,.cut 0 4] (.leaf () [0,1,4])) (.seg [.br false,.ord z24 [],.br true] (.br (.seg [.at 0,.cut 0 4] (.leaf () [0,1,4])) (.seg [.br false,.br true,.ord (os 12 [7,8,11]) [1],.ty .int,.ty .int] (.leaf () [0,1,5]))))) (.seg [.br false,.ord z24 [],.br false,.br false,.br false,.at 0,.cut 0 4] (.leaf () [0,1,4])))))),El z27 fun x1=>(let z5:=fieldAt f.plan.shapes x1 e.field;let z4:=z5.getD fld0;let z6:=f.st.stack[Int.toNat (z13-1)]? =some x1;let z7:=value_i_J1000002_F f e x1;(wI (z13-1))∧(wI (z13-1))∧(z13-1<z13)∧((0:Int)≤z13-1)∧(z13-1<z13)∧((0:Int)≤z13-1)∧z6∧z6∧(Fp 121 [.agg [.seq .shp f.plan.shapes],vI x1,vI e.field] [] (.tup [.agg (Dd z4),vB z5.isSome]) [])∧(Fp 121 [.agg [.seq .shp f.plan.shapes],vI x1,vI e.field] [] (.tup [.agg (Dd z4),vB z5.isSome]) [])∧(([.cells (Fu 1 f),.lst .int f.st.stack,.cells (cEv e),.cells (Dd z4)]:List Blk)=[.cells (Fu 1 f),.lst .int f.st.stack,.cells (cEv e),.cells (Dd z4)])∧(([(0,.v (vP 0)),(3,.v (vP 2)),(5,.v (vP 3)),(6,.v (vB z5.isSome))]:List (Nat×S))=[(0,.v (vP 0)),(3,.v (vP 2)),(5,.v (vP 3)),(6,.v (vB z5.isSome))])∧(Bc (decide (z4.kind=6)) (z7.Has [(0,.v (vP 0)),(3,.v (vP 2)),(5,.v (vP 3)),(6,.v (vB z5.isSome)),(7,.v (vB true))] [.cells (Fu 1 f),.lst .int f.st.stack,.cells (cEv e),.cells (Dd z4)]) (z7.Has [(0,.v (vP 0)),(3,.v (vP 2)),(5,.v (vP 3)),(6,.v (vB z5.isSome)),(7,.v (vB (decide (z4.kind=7))))] [.cells (Fu 1 f),.lst .int f.st.stack,.cells (cEv e),.cells (Dd z4)]))∧∀j1000002,z7.inv j1000002→(Bc (!z5.isSome) (Lf (.v (vI 3)) z11 z12 z10) (Bc z17 ((Fp 186 [vI z4.kind] [] (.v (vB (Bs z4.kind))) [])∧Bc (!(Bs z4.kind)) z16 (Bc z15 (Bc (!j1000002.isBytes) z16 (Bc z14 (Bc (!decide (z4.kind=8)) z16 ((z17=true)∧(Fp 197 [vI z4.kind,.c (.int .u64 e.bits)] [] (.v (vB (Cb z4.kind e.bits))) [])∧Bc (!(Cb z4.kind e.bits)) z19 (z26∧Bc z20 z21 ((z15=true)∧Lf z22 z11 [.cells (.seq .shp f.plan.shapes::zi f.plan.root::zi f.plan.deep::zi f.plan.most:: .own 2:: .bool true:: .bool (decide (z4.kind=6))::z9),.dead,.lst .int f.st.stack] z10)))) ((z17=true)∧(Fp 197 [vI z4.kind,.c (.int .u64 e.bits)] [] (.v (vB (Cb z4.kind e.bits))) [])∧Bc (!(Cb z4.kind e.bits)) z19 (z23∧(z15=true)∧Lf z22 z11 [.cells (.seq .shp f.plan.shapes::zi f.plan.root::zi f.plan.deep::zi f.plan.most:: .own 2:: .bool true:: .bool (decide (z4.kind=6))::z9),.dead,.lst .int f.st.stack] z10)))) (Bc z14 (Bc (!decide (z4.kind=8)) z16 ((z17=true)∧(Fp 197 [vI z4.kind,.c (.int .u64 e.bits)] [] (.v (vB (Cb z4.kind e.bits))) [])∧Bc (!(Cb z4.kind e.bits)) z19 (z26∧Bc z20 z21 (z28∧z26∧(f.st.stack.length+List.length [z4.msg]≤Ba)∧Lf z22 z11 [.cells (Fu 2 f),.dead,.lst .int (f.st.stack++[z4.msg])] z10)))) ((z17=true)∧(Fp 197 [vI z4.kind,.c (.int .u64 e.bits)] [] (.v (vB (Cb z4.kind e.bits))) [])∧Bc (!(Cb z4.kind e.bits)) z19 (z23∧z28∧z23∧Lf z22 z11 z12 z10))))) (Bc z15 (Bc (!j1000002.isBytes) z16 (Bc z14 (Bc (!decide (z4.kind=8)) z16 (z29∧z26∧Bc z20 z21 ((z15=true)∧Lf z22 z11 [.cells (.seq .shp f.plan.shapes::zi f.plan.root::zi f.plan.deep::zi f.plan.most:: .own 2:: .bool true:: .bool (decide (z4.kind=6))::z9),.dead,.lst .int f.st.stack] z10))) (z29∧z23∧(z15=true)∧Lf z22 z11 [.cells (.seq .shp f.plan.shapes::zi f.plan.root::zi f.plan.deep::zi f.plan.most:: .own 2:: .bool true:: .bool (decide (z4.kind=6))::z9),.dead,.lst .int f.st.stack] z10))) (Bc z14 (Bc (!decide (z4.kind=8)) z16 (z29∧z26∧Bc z20 z21 (z28∧z26∧(f.st.stack.length+List.length [z4.msg]≤Ba)∧Lf z22 z11 [.cells (Fu 2 f),.dead,.lst .int (f.st.stack++[z4.msg])] z10))) (z29∧z23∧z28∧z23∧Lf z22 z11 z12 z10)))))))) Q8 ?_
 refine⟨(A8 (l:=f.st.stack) (i:=Int.toNat ((f.st.stack.length:Int)-1)) Q5),fun x1 hx1=>?_⟩
 have hlast:Kq f.st.stack=x1:=by unfold Kq;exact N0 (by rw[←hx1];congr 1;omega)
 have hown:Mb f.plan f.st e=(fieldAt f.plan.shapes x1 e.field):=by unfold Mb;rw[hlast]
 refine⟨(Ac Q5 Q5),(Ac Q5 Q5),Q5,Q5,Q5,Q5,hx1,hx1,(Lq f.plan.shapes _ _ Q5 (Cy hp3)),(Lq f.plan.shapes _ _ Q5 (Cy hp3)),rfl,rfl,?_,fun (j1000002:value_i_J1000002_V) hq_j1000002=>?_⟩
 refine dsp (fun h2 p2=>?_) fun h2 p2=>?_
 exact Bv (j:=(⟨true⟩:value_i_J1000002_V)) rfl rfl (by dsimp only[value_i_J1000002_F];simp_all[isBytes])
 exact Bv (j:=(⟨decide (((fieldAt f.plan.shapes x1 e.field).getD fld0).kind=7)⟩:value_i_J1000002_V)) rfl rfl (by dsimp only[value_i_J1000002_F];simp_all[isBytes])
 have hi_j1000002:j1000002.isBytes=isBytes ((fieldAt f.plan.shapes x1 e.field).getD fld0).kind:=hq_j1000002
 refine⟨fun h2=>have q2:=Ar h2;?_,fun h2=>have q2:=Ao h2;?_⟩
 have ho:(fieldAt f.plan.shapes x1 e.field)=none:=by simpa using q2
 have hg:(fieldAt f.plan.shapes x1 e.field).getD fld0=fld0:=by rw[ho];rfl
 have hvc:=Hb (hown.trans ho)
 have hvs:=Qz (hown.trans ho)
 refine zE (Bj (f).plan (f).st e) f.st (fun hm1=>⟨(sI ?_),Q17⟩) ?_
 rotate_left 2
 obtain ⟨o,ho⟩:=Option.isSome_iff_exists.1 q2
 have hg:(fieldAt f.plan.shapes x1 e.field).getD fld0=o:=by rw[ho];rfl
 have hvc:=J3 (hown.trans ho)
 have hvs:=Hc (hown.trans ho)
 have hB:isBytes o.kind=j1000002.isBytes:=by rw[←hg];exact hi_j1000002.symm
 refine dsp (fun h3 p3=>?_) fun h3 p3=>?_
 refine⟨(Rb _),fun h4=>have q4:=Ar h4;have p4:=Bw q4;?_,fun h4=>have q4:=Ao h4;have p4:=Bp q4;?_⟩
 refine zE (Bj (f).plan (f).st e) f.st (fun hm1=>⟨(sI ?_),Q17⟩) ?_
 rotate_left 2
 refine dsp (fun h5 p5=>?_) fun h5 p5=>?_
 refine⟨fun h6=>have q6:=Ar h6;?_,fun h6=>have q6:=Ao h6;?_⟩
 refine zE (Bj (f).plan (f).st e) f.st (fun hm1=>⟨(sI ?_),Q17⟩) ?_
 rotate_left 2
 refine dsp (fun h7 p7=>?_) fun h7 p7=>?_
 refine⟨fun h8=>have q8:=Ar h8;have p8:=of_decide_eq_false q8;?_,fun h8=>have q8:=Ao h8;have p8:=of_decide_eq_true q8;?_⟩
 refine zE (Bj (f).plan (f).st e) f.st (fun hm1=>⟨(sI ?_),Q17⟩) ?_
 rotate_left 2
 refine⟨h3,(J4 _ _ Q5),fun h9=>have q9:=Ar h9;?_,fun h9=>have q9:=Ao h9;?_⟩
 refine zE (Bj (f).plan (f).st e) f.st (fun hm1=>⟨(sI ?_),Q17⟩) ?_
 rotate_left 2
 refine⟨h7,dsp (fun h10 p10=>?_) fun h10 p10=>?_⟩
 refine zE (Bj (f).plan (f).st e) f.st (fun hm1=>⟨(sI ?_),Q17⟩) ?_
 rotate_left 2
 refine zE (Bj (f).plan (f).st e) (⟨f.st.stack,true,decide (((fieldAt f.plan.shapes x1 e.field).getD fld0).kind=6),utf0,f.st.ended⟩:Fa) (fun hm1=>⟨h5,(sI ?_),Q17⟩) ?_
 rotate_left 2
 refine⟨h3,(J4 _ _ Q5),fun h8=>have q8:=Ar h8;?_,fun h8=>have q8:=Ao h8;?_⟩
 refine zE (Bj (f).plan (f).st e) f.st (fun hm1=>⟨(sI ?_),Q17⟩) ?_
 rotate_left 2
 refine zE (Bj (f).plan (f).st e) (⟨f.st.stack,true,decide (((fieldAt f.plan.shapes x1 e.field).getD fld0).kind=6),utf0,f.st.ended⟩:Fa) (fun hm1=>⟨h7,h5,(sI ?_),Q17⟩) ?_
 rotate_left 2
 refine dsp (fun h6 p6=>?_) fun h6 p6=>?_
 refine⟨fun h7=>have q7:=Ar h7;have p7:=of_decide_eq_false q7;?_,fun h7=>have q7:=Ao h7;have p7:=of_decide_eq_true q7;?_⟩
 refine zE (Bj (f).plan (f).st e) f.st (fun hm1=>⟨(sI ?_),Q17⟩) ?_
 rotate_left 2
 refine⟨h3,(J4 _ _ Q5),fun h8=>have q8:=Ar h8;?_,fun h8=>have q8:=Ao h8;?_⟩
 refine zE (Bj (f).plan (f).st e) f.st (fun hm1=>⟨(sI ?_),Q17⟩) ?_
 rotate_left 2
 refine⟨h6,dsp (fun h9 p9=>?_) fun h9 p9=>?_⟩
 refine zE (Bj (f).plan (f).st e) f.st (fun hm1=>⟨(sI ?_),Q17⟩) ?_
 rotate_left 2
 refine zE (Bj (f).plan (f).st e) (⟨f.st.stack++[((fieldAt f.plan.shapes x1 e.field).getD fld0).msg],f.st.inText,f.st.isText,f.st.utf,f.st.ended⟩:Fa) (fun hm1=>⟨h5,h6,Q9,(sI ?_),Q17⟩) ?_
 rotate_left 2
 refine⟨h3,(J4 _ _ Q5),fun h7=>have q7:=Ar h7;?_,fun h7=>have q7:=Ao h7;?_⟩
 refine zE (Bj (f).plan (f).st e) f.st (fun hm1=>⟨(sI ?_),Q17⟩) ?_
 rotate_left 2
 refine zE (Bj (f).plan (f).st e) f.st (fun hm1=>⟨h6,h5,h6,(sI ?_),Q17⟩) ?_
 rotate_left 2
 refine dsp (fun h4 p4=>?_) fun h4 p4=>?_
 refine⟨fun h5=>have q5:=Ar h5;?_,fun h5=>have q5:=Ao h5;?_⟩
 refine zE (Bj (f).plan (f).st e) f.st (fun hm1=>⟨(sI ?_),Q17⟩) ?_
 rotate_left 2
 refine dsp (fun h6 p6=>?_) fun h6 p6=>?_
 refine⟨fun h7=>have q7:=Ar h7;have p7:=of_decide_eq_false q7;?_,fun h7=>have q7:=Ao h7;have p7:=of_decide_eq_true q7;?_⟩
 refine zE (Bj (f).plan (f).st e) f.st (fun hm1=>⟨(sI ?_),Q17⟩) ?_
 rotate_left 2
 refine⟨h3,h6,dsp (fun h8 p8=>?_) fun h8 p8=>?_⟩
 refine zE (Bj (f).plan (f).st e) f.st (fun hm1=>⟨(sI ?_),Q17⟩) ?_
 rotate_left 2
 refine zE (Bj (f).plan (f).st e) (⟨f.st.stack,true,decide (((fieldAt f.plan.shapes x1 e.field).getD fld0).kind=6),utf0,f.st.ended⟩:Fa) (fun hm1=>⟨h4,(sI ?_),Q17⟩) ?_
 rotate_left 2
 refine zE (Bj (f).plan (f).st e) (⟨f.st.stack,true,decide (((fieldAt f.plan.shapes x1 e.field).getD fld0).kind=6),utf0,f.st.ended⟩:Fa) (fun hm1=>⟨h3,h6,h4,(sI ?_),Q17⟩) ?_
 rotate_left 2
 refine dsp (fun h5 p5=>?_) fun h5 p5=>?_
 refine⟨fun h6=>have q6:=Ar h6;have p6:=of_decide_eq_false q6;?_,fun h6=>have q6:=Ao h6;have p6:=of_decide_eq_true q6;?_⟩
 refine zE (Bj (f).plan (f).st e) f.st (fun hm1=>⟨(sI ?_),Q17⟩) ?_
 rotate_left 2
 refine⟨h3,h5,dsp (fun h7 p7=>?_) fun h7 p7=>?_⟩
 refine zE (Bj (f).plan (f).st e) f.st (fun hm1=>⟨(sI ?_),Q17⟩) ?_
 rotate_left 2
 refine zE (Bj (f).plan (f).st e) (⟨f.st.stack++[((fieldAt f.plan.shapes x1 e.field).getD fld0).msg],f.st.inText,f.st.isText,f.st.utf,f.st.ended⟩:Fa) (fun hm1=>⟨h4,h5,Q9,(sI ?_),Q17⟩) ?_
 rotate_left 2
 refine zE (Bj (f).plan (f).st e) f.st (fun hm1=>⟨h3,h5,h4,h5,(sI ?_),Q17⟩) ?_
 rotate_left 2
 all_goals first|(rw[hvs,hvc,hB];simp_all[utf0];done)|(rw[hvc,hB];simp_all;done)|(rw[hvs,hvc];simp_all[isBytes,utf0];done)|(rw[hvc];simp_all[isBytes,utf0];done)|(rw[hvs];done)|(rw[hvc];done)|(grind (splits:=25) [isBytes,fld0])
theorem part_i (f:Fmr) (e:Ev) (hp1:List.length (e).text≤Ba):Fun Tryz.prog 134 [vP 0,.agg (cEv e)] [.cells (Fu 1 f),.lst .int f.st.stack] (.v (vI (C9 (f).st e))) [.cells [.seq .shp (f).plan.shapes,.int .i64 (f).plan.root,.int .i64 (f).plan.deep,.int .i64 (f).plan.most,.own 1,.bool (Bn (f).st e).inText,.bool (Bn (f).st e).isText,.int .i64 (Bn (f).st e).utf.want,.int .i64 (Bn (f).st e).utf.low,.int .i64 (Bn (f).st e).utf.high,.bool (Bn (f).st e).ended],.lst .int (Bn (f).st e).stack]:=by
 have hN:Ba=274877906944:=rfl
 refine Av Tryz.func134 Q8 Q8 (w:=let zi:Int→C:= .int .i64;let z2:List C:=[.seq .shp f.plan.shapes,zi f.plan.root,zi f.plan.deep,zi f.plan.most,.own 1,.bool false,.bool f.st.isText,zi f.st.utf.want,zi f.st.utf.low,zi f.st.utf.high,.bool f.st.ended];let z5:S:= .v (vI (C9 (f).st e));let z6:List Blk:=[.cells (Fu 1 f),.lst .int f.st.stack];let z7:=Ft f.st.utf e.text;let z8:=Bn (f).st e;let z1:List C:=[.seq .shp (f).plan.shapes,zi (f).plan.root,zi (f).plan.deep,zi (f).plan.most,.own 1,.bool z8.inText,.bool z8.isText,zi z8.utf.want,zi z8.utf.low,zi z8.utf.high,.bool z8.ended];let z3:List Blk:=[.cells z1,.lst .int z8.stack];let z9:=Lf (.v (vI 0)) z5 [.cells z2,.lst .int f.st.stack] z3;let z10:List Blk:=[.cells (Fu 1 f),.lst .int f.st.stack,.cells (Hy z7)];let z11:=C1 f.st.utf e.text;let z4:S:= .tup [.agg (Hy z7),vI z11];(.br (.br (.seg [.tree (fr (.two 6 (fr (.one 10 (.one 11 (.first 12 (.done)))) 7 3) 10 (.one 6 (fr (.one 11 (.first 12 (.done))) 7 3))) 0 6) 13 [],.call [] z4 [],.at 0,.keep [0,5,6],.sel [0,1,3],.call [] z4 [],.at 0,.keep [0,5,6],.sel [0,1,3]] (.br (.leaf () [0,1]) (.leaf () [0,1]))) (.leaf () [0,1])) (.br (.br (.br (.leaf () [0,1]) (.leaf () [0,1])) (.leaf () [0,1])) (.leaf () [0,1])),Bc (decide (e.kind=4)) (Bc f.st.isText ((Fp 196 [.agg (Hy f.st.utf),vT e.text] [] z4 [])∧(Fp 196 [.agg (Hy f.st.utf),vT e.text] [] z4 [])∧((z10:List Blk)=z10)∧(([(0,.v (vP 0)),(5,.v (vP 2)),(6,.v (vI z11))]:List (Nat×S))=[(0,.v (vP 0)),(5,.v (vP 2)),(6,.v (vI z11))])∧Bc (decide (0≤C1 f.st.utf e.text)) (Lf (.v (vI 5)) z5 z6 z3) (Lf (.v (vI 0)) z5 [.cells [.seq .shp f.plan.shapes,zi f.plan.root,zi f.plan.deep,zi f.plan.most,.own 1,.bool f.st.inText,.bool f.st.isText,zi z7.want,zi z7.low,zi z7.high,.bool f.st.ended],.lst .int f.st.stack] z3)) (Lf (.v (vI 0)) z5 z6 z3)) (Bc (decide (e.kind=5)) (Bc f.st.isText (Bc (!(decide (f.st.utf.want=0)&&(decide (f.st.utf.low=0)&&decide (f.st.utf.high=0)))) (Lf (.v (vI 5)) z5 z6 z3) z9) z9) (Lf (.v (vI 2)) z5 z6 z3)))) Q8 ?_
 refine dsp (fun h1 p1=>?_) fun h1 p1=>?_
 refine⟨fun h2=>?_,fun h2=>?_⟩
 refine⟨(Re f.st.utf _ Q5),(Re f.st.utf _ Q5),rfl,rfl,dsp (fun h3 p3=>?_) fun h3 p3=>?_⟩
 refine zE (Bn (f).st e) f.st (fun hm1=>⟨(sI ?_),Q17⟩) ?_
 rotate_left 2
 refine zE (Bn (f).st e) (⟨f.st.stack,f.st.inText,f.st.isText,(Ft f.st.utf e.text),f.st.ended⟩:Fa) (fun hm1=>⟨(sI ?_),Q17⟩) ?_
 rotate_left 2
 refine zE (Bn (f).st e) f.st (fun hm1=>⟨(sI ?_),Q17⟩) ?_
 rotate_left 2
 refine dsp (fun h2 p2=>?_) fun h2 p2=>?_
 refine⟨fun h3=>?_,fun h3=>?_⟩
 refine⟨fun h4=>have q4:=Ar h4;have p4:=(M2 dT (M2 dT dF)).1 q4;?_,fun h4=>have q4:=Ao h4;have p4:=(M1 dT (M1 dT dT)).1 q4;?_⟩
 have hu:f.st.utf≠utf0:=Apg (by simpa using q4)
 refine zE (Bn (f).st e) f.st (fun hm1=>⟨(sI ?_),Q17⟩) ?_
 rotate_left 2
 have hu:f.st.utf=utf0:=Apf (by simpa using q4)
 refine zE (Bn (f).st e) (⟨f.st.stack,false,f.st.isText,f.st.utf,f.st.ended⟩:Fa) (fun hm1=>⟨(sI ?_),Q17⟩) ?_
 rotate_left 2
 refine zE (Bn (f).st e) (⟨f.st.stack,false,f.st.isText,f.st.utf,f.st.ended⟩:Fa) (fun hm1=>⟨(sI ?_),Q17⟩) ?_
 rotate_left 2
 refine zE (Bn (f).st e) f.st (fun hm1=>⟨(sI ?_),Q17⟩) ?_
 rotate_left 2
 all_goals first|(simp_all[Bn,C9];done)|(grind[Bn,C9])
theorem next_i (f:Fmr) (e:Ev) (hp1:1≤List.length (f).st.stack) (hp2:List.length (f).st.stack≤1000) (hp3:Cp (f).plan.shapes=true) (hp4:List.length (e).text≤Ba) (hp5:(0:Int)≤(e).bits∧(e).bits≤18446744073709551615):Fun Tryz.prog 76 [vP 0,.agg (cEv e)] [.cells (Fu 1 f),.lst .int f.st.stack] (.v (vI (C2 (f).plan (f).st e))) [.cells [.seq .shp (f).plan.shapes,.int .i64 (f).plan.root,.int .i64 (f).plan.deep,.int .i64 (f).plan.most,.own 2,.bool (B5 (f).plan (f).st e).inText,.bool (B5 (f).plan (f).st e).isText,.int .i64 (B5 (f).plan (f).st e).utf.want,.int .i64 (B5 (f).plan (f).st e).utf.low,.int .i64 (B5 (f).plan (f).st e).utf.high,.bool (B5 (f).plan (f).st e).ended],.dead,.lst .int (B5 (f).plan (f).st e).stack]:=by
 have hN:Ba=274877906944:=rfl
 refine Av Tryz.func76 Q8 Q8 (w:=let zi:Int→C:= .int .i64;let z4:List C:=[.seq .shp f.plan.shapes,zi f.plan.root,zi f.plan.deep,zi f.plan.most,.own 2,.bool f.st.inText,.bool f.st.isText,zi f.st.utf.want,zi f.st.utf.low,zi f.st.utf.high,.bool true];let z6:=(f.st.stack.length:Int);let z8:=Bj (f).plan (f).st e;let z2:List C:=[.seq .shp (f).plan.shapes,zi (f).plan.root,zi (f).plan.deep,zi (f).plan.most,.own 2,.bool z8.inText,.bool z8.isText,zi z8.utf.want,zi z8.utf.low,zi z8.utf.high,.bool z8.ended];let z9:S:= .v (vI (C2 (f).plan (f).st e));let z11:=B5 (f).plan (f).st e;let z1:List C:=[.seq .shp (f).plan.shapes,zi (f).plan.root,zi (f).plan.deep,zi (f).plan.most,.own 2,.bool z11.inText,.bool z11.isText,zi z11.utf.want,zi z11.utf.low,zi z11.utf.high,.bool z11.ended];let z7:List Blk:=[.cells z1,.dead,.lst .int z11.stack];let z5:=Lf (.v (vI 2)) z9 [.cells (Fu 2 f),.dead,.lst .int f.st.stack] z7;let z12:=Bc (decide (e.kind=8)) (Bc (decide (z6=1)) (Lf (.v (vI 0)) z9 [.cells z4,.dead,.lst .int f.st.stack] z7) z5) z5;let z13:=Bn (f).st e;let z3:List C:=[.bool z13.inText,.bool z13.isText,zi z13.utf.want,zi z13.utf.low,zi z13.utf.high,.bool z13.ended];let z10:List Blk:=[.cells (.seq .shp (f).plan.shapes::zi (f).plan.root::zi (f).plan.deep::zi (f).plan.most:: .own 1::z3),.lst .int z13.stack];let z14:S:= .v (vI (E6 (f).plan (f).st e));let z15:List Blk:=[.cells z2,.dead,.lst .int z8.stack];let z16:S:= .v (vI (C9 (f).st e));let z17:List Blk:=[.cells (Fu 1 f),.lst .int f.st.stack];(.br (.seg [.at 0,.cut 0 4] (.leaf () [0,1,3])) (.br (.seg [.call [0,1] z16 z10,.at 0,.cut 0 4] (.leaf () [0,1,3])) (.seg [.call [] (.v (vB (Cf e.kind))) []] (.br (.seg [.call [0,1] z14 z15] (.leaf () [0,1,3])) (.br (.br (.seg [.ord (os 15 [14]) [],.as 47 (.v (vI (z6-1))),.at 0,.cut 0 4] (.leaf () [0,1,3])) (.br (.br (.seg [.at 0,.cut 0 4] (.leaf () [0,1,3])) (.seg [.at 0,.cut 0 4] (.leaf () [0,1,3]))) (.seg [.at 0,.cut 0 4] (.leaf () [0,1,3])))) (.br (.br (.seg [.at 0,.cut 0 4] (.leaf () [0,1,3])) (.seg [.at 0,.cut 0 4] (.leaf () [0,1,3]))) (.seg [.at 0,.cut 0 4] (.leaf () [0,1,3]))))))),Bc f.st.ended z5 (Bc f.st.inText ((Fp 134 [vP 0,.agg (cEv e)] z17 z16 z10)∧Lf z16 z9 [.cells (.seq .shp (f).plan.shapes::zi (f).plan.root::zi (f).plan.deep::zi (f).plan.most:: .own 2::z3),.dead,.lst .int z13.stack] z7) ((Fp 135 [vI e.kind] [] (.v (vB (Cf e.kind))) [])∧Bc (Cf e.kind) ((Fp 136 [vP 0,.agg (cEv e)] z17 z14 z15)∧Lf z14 z9 z15 z7) (Bc (decide (e.kind=7)) (Bc (decide (1<z6)) ((wI (z6-1))∧(wI (z6-1))∧(z6-1≤z6)∧((0:Int)≤z6-1)∧(z6-1≤z6)∧((0:Int)≤z6-1)∧Lf (.v (vI 0)) z9 [.cells (Fu 2 f),.dead,.lst .int (List.take ((Int.toNat (z6-1))-0) f.st.stack)] z7) z12) z12))))) Q8 ?_
 refine⟨fun h1=>?_,fun h1=>?_⟩
 refine zE (B5 (f).plan (f).st e) f.st (fun hm1=>⟨(sI ?_),Q17⟩) ?_
 rotate_left 2
 refine⟨fun h2=>?_,fun h2=>?_⟩
 refine zE (B5 (f).plan (f).st e) (Bn (f).st e) (fun hm1=>⟨(part_i f e Q5),(sI ?_),Q17⟩) ?_
 rotate_left 2
 refine⟨(Vh _),fun h3=>?_,fun h3=>?_⟩
 refine zE (B5 (f).plan (f).st e) (Bj (f).plan (f).st e) (fun hm1=>⟨(value_i f e Q5 Q5 Q5 Q5 Q5),(sI ?_),Q17⟩) ?_
 rotate_left 2
 refine dsp (fun h4 p4=>?_) fun h4 p4=>?_
 refine dsp (fun h5 p5=>?_) fun h5 p5=>?_
 refine zE (B5 (f).plan (f).st e) (⟨List.take ((Int.toNat ((f.st.stack.length:Int)-1))-0) f.st.stack,f.st.inText,f.st.isText,f.st.utf,f.st.ended⟩:Fa) (fun hm1=>⟨(Ac Q5 Q5),(Ac Q5 Q5),Q5,Q5,Q5,Q5,(sI ?_),Q17⟩) ?_
 rotate_left 2
 refine dsp (fun h6 p6=>?_) fun h6 p6=>?_
 refine dsp (fun h7 p7=>?_) fun h7 p7=>?_
 refine zE (B5 (f).plan (f).st e) (⟨f.st.stack,f.st.inText,f.st.isText,f.st.utf,true⟩:Fa) (fun hm1=>⟨(sI ?_),Q17⟩) ?_
 rotate_left 2
 refine zE (B5 (f).plan (f).st e) f.st (fun hm1=>⟨(sI ?_),Q17⟩) ?_
 rotate_left 2
 refine zE (B5 (f).plan (f).st e) f.st (fun hm1=>⟨(sI ?_),Q17⟩) ?_
 rotate_left 2
 refine dsp (fun h5 p5=>?_) fun h5 p5=>?_
 refine dsp (fun h6 p6=>?_) fun h6 p6=>?_
 refine zE (B5 (f).plan (f).st e) (⟨f.st.stack,f.st.inText,f.st.isText,f.st.utf,true⟩:Fa) (fun hm1=>⟨(sI ?_),Q17⟩) ?_
 rotate_left 2
 refine zE (B5 (f).plan (f).st e) f.st (fun hm1=>⟨(sI ?_),Q17⟩) ?_
 rotate_left 2
 refine zE (B5 (f).plan (f).st e) f.st (fun hm1=>⟨(sI ?_),Q17⟩) ?_
 rotate_left 2
 all_goals first|(simp_all[B5,C2];done)|(grind[B5,C2])
structure frameCode_i_V0 where
 f:Fmr
 v:Nat
def frameCode_i_F0 (p:Pln) (l:List Ev):Fam:=⟨frameCode_i_V0,fun q1=>[(1,.v (.c (.seq .ev l))),(6,.v (vP 0)),(32,.v (.c (.seq .ev (List.drop 1 l)))),(33,.v (vI ((List.length (List.drop 1 l):Nat):Int))),(34,.v (vI (q1.v:Int)))],fun q1=>[.cells (Fu 1 q1.f),.lst .int q1.f.st.stack],fun q1=>q1.v+1≤l.length∧(q1.f).plan=p∧1≤List.length (q1.f).st.stack∧List.length (q1.f).st.stack≤8∧Ln p (q1.f).st (List.drop q1.v (List.drop 1 l)) ((q1.v:Int)+1)=Bk p l,fun q1=>l.length-q1.v⟩
theorem frameCode_i (p:Pln) (l:List Ev) (hp1:l.length≤Ba) (hp2: ∀e∈l,EvB e):Fun Tryz.prog 29 [.agg (Cd p),.c (.seq .ev l)] [] (.tup [vI (Bk p l).1,vI (Bk p l).2]) []:=by
 have hN:Ba=274877906944:=rfl
 refine Av Tryz.func29 Q8 Q8 (w:=let zi:Int→C:= .int .i64;let z6:S:= .tup [vI (Bk p l).1,vI (Bk p l).2];let z7:=List.drop 1 l;let z8:=Lf (.tup [vI 1,vI 0]) z6 [] [];let z9:=(z7.length:Int);let z10:=(l.length:Int);let z11:=frameCode_i_F0 p l;(.seg [.call [] (.v (vB (B3 p))) []] (.br (.leaf () []) (.br (.leaf () []) (.intro (Sx (l[0]?)) fun x1=> .seg [.el .ev x1] (.br (.leaf () []) (.seg [.ty .int,.at 0,.keep [1,6,32,33,34],.sel [2,1]] (.loop z11 fun q1=>let z4:S:= .v (vI ((q1.v:Int)+1));.br (.intro (Sx (z7[q1.v]?)) fun x2=>let z1:=B5 (q1.f).plan (q1.f).st x2;.seg [.el .ev x2,.call [0,1] (.v (vI (C2 (q1.f).plan (q1.f).st x2))) [.cells [.seq .shp (q1.f).plan.shapes,zi (q1.f).plan.root,zi (q1.f).plan.deep,zi (q1.f).plan.most,.own 2,.bool z1.inText,.bool z1.isText,zi z1.utf.want,zi z1.utf.low,zi z1.utf.high,.bool z1.ended],.dead,.lst .int z1.stack]] (.br (.seg [.as 46 z4] (.leaf () [])) (.seg [.as 47 z4,.at 0,.keep [1,6,32,33,34],.sel [0,3]] (.next)))) (.br (.leaf () []) (.leaf () [])))))))),(Fp 57 [.agg (Cd p)] [] (.v (vB (B3 p))) [])∧Bc (!(B3 p)) z8 (Bc (decide (z10=0)) z8 (El (l[0]?) fun x1=>((l[0]? =some x1)∧((0:Int)≤0)∧Bc (!decide (x1.kind=1)) z8 ((1≤z10)∧((0:Int)≤1)∧z11.Has [(1,.v (.c (.seq .ev l))),(6,.v (vP 0)),(32,.v (.c (.seq .ev z7))),(33,.v (vI z9)),(34,.v (vI 0))] [.cells [.seq .shp p.shapes,zi p.root,zi p.deep,zi p.most,.own 1,.bool false,.bool false,zi 0,zi 0,zi 0,.bool false],.lst .int [p.root]]∧∀q1,z11.inv q1→(let z5:=(q1.v:Int);Bc (decide (z5<z9)) (El (z7[q1.v]?) fun x2=>(let z2:=B5 (q1.f).plan (q1.f).st x2;let z3:=C2 (q1.f).plan (q1.f).st x2;(z7[q1.v]? =some x2)∧((0:Int)≤z5)∧(Fp 76 [vP 0,.agg (cEv x2)] [.cells (Fu 1 q1.f),.lst .int q1.f.st.stack] (.v (vI z3)) [.cells [.seq .shp (q1.f).plan.shapes,zi (q1.f).plan.root,zi (q1.f).plan.deep,zi (q1.f).plan.most,.own 2,.bool z2.inText,.bool z2.isText,zi z2.utf.want,zi z2.utf.low,zi z2.utf.high,.bool z2.ended],.dead,.lst .int z2.stack])∧Bc (!decide (C2 (q1.f).plan (q1.f).st x2=0)) ((wI (z5+1))∧Lf (.tup [vI z3,vI (z5+1)]) z6 [] []) ((wI (z5+1))∧z11.Nxt q1 [(1,.v (.c (.seq .ev l))),(6,.v (vP 0)),(32,.v (.c (.seq .ev z7))),(33,.v (vI z9)),(34,.v (vI (z5+1)))] [.cells [.seq .shp (q1.f).plan.shapes,zi (q1.f).plan.root,zi (q1.f).plan.deep,zi (q1.f).plan.most,.own 1,.bool z2.inText,.bool z2.isText,zi z2.utf.want,zi z2.utf.low,zi z2.utf.high,.bool z2.ended],.lst .int z2.stack]))) (Bc (!q1.f.st.ended) (Lf (.tup [vI 7,vI z10]) z6 [] []) (Lf (.tup [vI 0,vI 0]) z6 [] []))))))))) Q8 ?_
 refine⟨(Wy p),fun h1=>have q1:=Ar h1;?_,fun h1=>have q1:=Ao h1;have p1:=C6 q1;?_⟩
 refine⟨(congrArg S.tup (Af (congrArg V.c (congrArg (C.int .i64) ?_)) (Af (congrArg V.c (congrArg (C.int .i64) ?_)) rfl))),rfl⟩
 rotate_left 2
 have hpl:B3 p=true:=Ao h1
 have hpo:=C6 hpl
 refine dsp (fun h2 p2=>?_) fun h2 p2=>?_
 refine⟨(congrArg S.tup (Af (congrArg V.c (congrArg (C.int .i64) ?_)) (Af (congrArg V.c (congrArg (C.int .i64) ?_)) rfl))),rfl⟩
 rotate_left 2
 refine⟨(A8 (l:=l) (i:=0) Q5),fun x1 hx1=>?_⟩
 refine⟨hx1,Q26,fun h3=>have q3:=Ar h3;have p3:=of_decide_eq_false q3;?_,fun h3=>have q3:=Ao h3;have p3:=of_decide_eq_true q3;?_⟩
 refine⟨(congrArg S.tup (Af (congrArg V.c (congrArg (C.int .i64) ?_)) (Af (congrArg V.c (congrArg (C.int .i64) ?_)) rfl))),rfl⟩
 rotate_left 2
 refine⟨Q5,Q26,Bv (j:=(⟨(⟨p,(⟨[p.root],false,false,utf0,false⟩:Fa)⟩:Fmr),0⟩:frameCode_i_V0)) Q12 Q12 (by dsimp only[frameCode_i_F0];exact⟨by omega,rfl,by simp,by simp,(M3 hx1 hpl Q5).symm⟩),fun (q1:frameCode_i_V0) hq_q1=>?_⟩
 have hi_q1:q1.v+1≤l.length∧(q1.f).plan=p∧1≤List.length (q1.f).st.stack∧List.length (q1.f).st.stack≤8∧Ln p (q1.f).st (List.drop q1.v (List.drop 1 l)) ((q1.v:Int)+1)=Bk p l:=hq_q1
 obtain ⟨v1,v2,v3,v4,v5⟩:=hi_q1
 refine dsp (fun h4 p4=>?_) fun h4 p4=>?_
 skip
 rw[List.length_drop] at p4
 refine⟨(A8 (l:=List.drop 1 l) (i:=q1.v) (by simp only[List.length_drop];omega)),fun x2 hx2=>?_⟩
 have he:=hp2 x2 (List.mem_of_mem_drop (List.mem_of_getElem? hx2))
 have hst:=Ra (p:=p) x2 v3 v4 (by omega)
 have hs:Cp q1.f.plan.shapes=true:=by rw[v2];exact hpo.2.1
 rw[C5 hx2,Ga] at v5
 refine⟨hx2,Q5,(next_i q1.f x2 Q5 Q5 (hs) (he.1) (he.2)),fun h5=>have q5:=Ar h5;have p5:=of_decide_eq_false q5;?_,fun h5=>have q5:=Ao h5;have p5:=of_decide_eq_true q5;?_⟩
 rw[v2] at p5
 rw[if_pos (by simpa using p5)] at v5
 refine⟨(Ac Q5 Q5),(congrArg S.tup (Af (congrArg V.c (congrArg (C.int .i64) ?_)) (Af (congrArg V.c (congrArg (C.int .i64) ?_)) rfl))),rfl⟩
 rotate_left 2
 rw[v2] at p5
 rw[if_neg (by simpa using p5)] at v5
 exact⟨(Ac Q5 Q5),Ay (j:=(⟨(⟨(q1.f).plan,(B5 (q1.f).plan (q1.f).st x2)⟩:Fmr),q1.v+1⟩:frameCode_i_V0)) Q12 Q12 (by dsimp only[frameCode_i_F0];exact⟨by simp only[List.length_drop] at *;omega,v2,by rw[v2];exact hst.1,by rw[v2];exact hst.2,by rw[v2,←v5,show (((q1.v+1:Nat)):Int)+1=(q1.v:Int)+1+1 by omega]⟩) (by dsimp only[frameCode_i_F0];omega)⟩
 rw[E2 p4,Hj] at v5
 rw[List.length_drop] at p4
 refine⟨fun h5=>have q5:=Ar h5;?_,fun h5=>have q5:=Ao h5;?_⟩
 refine⟨(congrArg S.tup (Af (congrArg V.c (congrArg (C.int .i64) ?_)) (Af (congrArg V.c (congrArg (C.int .i64) ?_)) rfl))),rfl⟩
 rotate_left 2
 refine⟨(congrArg S.tup (Af (congrArg V.c (congrArg (C.int .i64) ?_)) (Af (congrArg V.c (congrArg (C.int .i64) ?_)) rfl))),rfl⟩
 rotate_left 2
 all_goals first|(rw[←v5];done)|(rw[←v5,v2];done)|(rw[←v5];simp_all;done)|(rw[M4 (by simpa using h1)];done)|(rw[N2 hx1 (by omega)];done)|(rw[show l=[] from List.eq_nil_of_length_eq_zero (by omega)];rfl)|(simp_all[List.length_drop];omega)|(grind)
structure frameCode_s_V0 where
 r:Fs
 i:Nat
structure parsed_i_V0 where
 r:Mr
 ends:List Int
def parsed_i_F0 (p:Pln) (s:List UInt8):Fam:=⟨parsed_i_V0,fun q1=>[(1,.v (vT s)),(2,.v (vP 0)),(6,.v (vP 1)),(7,.v (vO 3))],fun q1=>[.cells (Cd p),.cells (B7 2 q1.r),.lst .ev q1.r.out,.lst .int q1.ends],fun q1=>WInv (wh0 p s) ⟨q1.r,q1.ends⟩∧(q1.r).fail.kind=0,fun q1=>Kj q1.r⟩
theorem parsed_i (p:Pln) (s:List UInt8) (hp1:B3 p=true) (hp2:s.length≤4000):Fun Tryz.prog 58 [.agg (Cd p),vT s] [] (.tup [vO 0,vO 1]) [.lst .ev (Cu p s),.lst .int (Ef p s).ends]:=by
 have hN:Ba=274877906944:=rfl
 have hpt:=C6 hp1
 refine Av Tryz.func58 Q8 Q8 (w:=let zi:Int→C:= .int .i64;let z13:=([(1,.v (vT s)),(2,.v (vP 0)),(6,.v (vP 1)),(7,.v (vO 3))]:List (Nat×S))=[(1,.v (vT s)),(2,.v (vP 0)),(6,.v (vP 1)),(7,.v (vO 3))];let z14:List Blk:=[.lst .ev (Cu p s),.lst .int (Ef p s).ends];let z15:=fr (.first 10 (.one 8 (.one 9 (.first 11 (.first 12 (.done)))))) 0 8;let z16:S:= .tup [vO 0,vO 1];let z17:=(⟨8,0,0,0,[],0,0⟩:Ev);let z18:=(⟨9,0,0,0,[],0,(s.length:Int)⟩:Ev);let z19:=parsed_i_F0 p s;(.seg [.ty .int,.at 0,.mk 1 6 .ev,.keep [1,2,6,7],.sel [0,1,3,2]] (.loop z19 fun q1=>let z2:=Ad q1.r 9223372036854775807;let z1:=(⟨z2.plan,z2.s,z2.at_,z2.out++[(⟨1,0,0,Am q1.r 9223372036854775807,[],0,0⟩:Ev)],z2.fail⟩:Mr);let z4:=Am q1.r 9223372036854775807;let z3:=Dk (Int.toNat ((z1).plan.deep-1)) p.root (z2.at_+z4) z1;.br (.seg [.call [1,2] (.tup [.c (.int .u64 z4),vB (Bf q1.r 9223372036854775807)]) [.cells (B7 1 z2),.lst .ev z2.out]] (.br (.seg [.as 37 (.v (.c (.int .u64 p.most)))] (.br (.seg [.call [1,2] (.v (vB false)) [.cells (B7 1 (Bb z2 7 q1.r.at_)),.lst .ev (Bb z2 7 q1.r.at_).out],.br false,.br true,.tree z15 9 [],.ty .ev,.ty .ev] (.leaf () [5,3])) (.seg [.br true,.as 50 (.v (vI z4)),.ty .ev,.ty .ev,.tree (fr (.one 10 (.first 11 (.done))) 0 10) 10 [],.as 64 (.v (vI z4)),.as 65 (.v (vI (z2.at_+z4))),.call [1,5] (.v (vB (decide (z3.fail.kind=0)))) [.cells (B7 2 z3),.dead,.lst .ev z3.out]] (.br (.seg [.tree z15 9 [],.ty .ev,.ty .ev] (.leaf () [8,3])) (.seg [.tree (fr (fr (.two 6 (.two 7 (.one 13 (.one 14 (.first 15 (.first 16 (.one 17 (.first 18 (.done))))))) 13 (.one 7 (.one 14 (.first 15 (.first 16 (.one 17 (.first 18 (.done)))))))) 13 (.one 6 (.one 7 (.one 14 (.first 15 (.first 16 (.one 17 (.first 18 (.done))))))))) 8 5) 0 6) 17 [3,6],.ty .ev,.ty .ev,.ty .int,.ty .int,.at 0,.keep [1,2,6,7],.sel [0,1,8,10],.ty .int,.ty .ev,.ty .int,.at 0,.keep [1,2,6,7],.sel [0,1,9,10],.ty .int,.ty .ev,.ty .ev,.ty .int,.at 0,.keep [1,2,6,7],.sel [0,1,9,10],.at 0,.keep [1,2,6,7],.sel [0,1,2,3]] (.next)))))) (.seg [.br false,.br true,.tree z15 9 [],.ty .ev,.ty .ev] (.leaf () [5,3])))) (.seg [.ty .ev,.ty .ev] (.leaf () [5,3]))),z19.Has [(1,.v (vT s)),(2,.v (vP 0)),(6,.v (vP 1)),(7,.v (vO 3))] [.cells (Cd p),.cells [.seq .shp p.shapes,zi p.root,zi p.deep,zi p.most,.str s,zi 0,.own 2,zi 0,zi 0,.int .u64 0,zi 0,.str [],zi 0,zi 0],.lst .ev ([]:List Ev),.lst .int [0]]∧∀q1,z19.inv q1→(let z6:=Ad q1.r 9223372036854775807;let z8:=Am q1.r 9223372036854775807;let z9:=(⟨1,0,0,Am q1.r 9223372036854775807,[],0,0⟩:Ev);let z5:=Dk (Int.toNat (((⟨z6.plan,z6.s,z6.at_,z6.out++[z9],z6.fail⟩:Mr)).plan.deep-1)) p.root (z6.at_+z8) (⟨z6.plan,z6.s,z6.at_,z6.out++[z9],z6.fail⟩:Mr);let z7:List Blk:=[.cells (Cd p),.cells (B7 2 z5),.lst .ev (z5.out++[z17]),.lst .int (q1.ends++[z5.at_])];let z10:=Bf q1.r 9223372036854775807;let z11:=q1.ends.length+List.length [z5.at_]≤Ba;let z12:=Bb z6 7 q1.r.at_;Bc (decide (q1.r.at_<(s.length:Int))) ((Fp 110 [vP 0,vI 9223372036854775807] [.cells (B7 1 q1.r),.lst .ev q1.r.out] (.tup [.c (.int .u64 z8),vB z10]) [.cells (B7 1 z6),.lst .ev z6.out])∧Bc z10 ((wU (p.most))∧Bc (decide (p.most<Am q1.r 9223372036854775807)) ((Fp 111 [vP 0,vI 7,vI q1.r.at_] [.cells (B7 1 z6),.lst .ev z6.out] (.v (vB false)) [.cells (B7 1 z12),.lst .ev z12.out])∧(false=false)∧((!false)=true)∧(z12.out.length+List.length [z12.fail]≤Ba)∧Lf z16 z16 [.lst .ev (z12.out++[z12.fail]),.lst .int q1.ends] z14) ((z10=true)∧(wI z8)∧(z6.out.length+List.length [z9]≤Ba)∧(wI z8)∧(wI z8)∧(wI (z6.at_+z8))∧(wI (z6.at_+z8))∧(Fp 70 [vP 0,vI p.root,vI (z6.at_+z8),vI 1] [.cells (B7 1 z6),.lst .ev (z6.out++[z9])] (.v (vB (decide (z5.fail.kind=0)))) [.cells (B7 2 z5),.dead,.lst .ev z5.out])∧Bc (!(decide (z5.fail.kind=0))) ((z5.out.length+List.length [z5.fail]≤Ba)∧Lf z16 z16 [.lst .ev (z5.out++[z5.fail]),.lst .int q1.ends] z14) ((z5.out.length+List.length [z17]≤Ba)∧z11∧(z5.out.length+List.length [z17]≤Ba)∧z11∧((z7:List Blk)=z7)∧z13∧(z5.out.length+List.length [z17]≤Ba)∧z11∧((z7:List Blk)=z7)∧z13∧z19.Nxt q1 [(1,.v (vT s)),(2,.v (vP 0)),(6,.v (vP 1)),(7,.v (vO 3))] z7))) ((z10=false)∧((!z10)=true)∧(z6.out.length+List.length [z6.fail]≤Ba)∧Lf z16 z16 [.lst .ev (z6.out++[z6.fail]),.lst .int q1.ends] z14)) ((q1.r.out.length+List.length [z18]≤Ba)∧Lf z16 z16 [.lst .ev (q1.r.out++[z18]),.lst .int q1.ends] z14)))) Q8 ?_
 refine⟨Bv (j:=(⟨(⟨p,s,0,([]:List Ev),(⟨0,0,0,0,[],0,0⟩:Ev)⟩:Mr),[0]⟩:parsed_i_V0)) rfl Q12 (by dsimp only[parsed_i_F0];exact⟨WInv.refl,rfl⟩),fun (q1:parsed_i_V0) hq_q1=>?_⟩
 have hi_q1:WInv (wh0 p s) ⟨q1.r,q1.ends⟩∧(q1.r).fail.kind=0:=hq_q1
 have hfl:=hi_q1.2
 have hrm:=hi_q1.1.room hfl
 have hen:=hi_q1.1.ends hfl
 dsimp only at hrm hen
 have hfe:=Aar q1.r
 have hfm:=Adf q1.r
 have hqs:=congrArg List.length hrm.1
 obtain ⟨hv,hv2,hv3⟩:=Cz (r:=q1.r) (e:=9223372036854775807) (by omega)
 have hvk:=Cg (r:=q1.r) (e:=9223372036854775807) hfl
 have hu:=Jo q1.r 9223372036854775807
 have hvs:=congrArg List.length hv.1.s
 have hvo:=congrArg List.length hv3
 have hvp:=hv.1.plan
 have hpl:=hvp.trans hrm.2.1
 refine dsp (fun h1 p1=>?_) fun h1 p1=>?_
 refine⟨(Nc q1.r _ Q5),fun h2=>?_,fun h2=>?_⟩
 have hok:Bf q1.r 9223372036854775807=true:=h2
 have hk:(Ad q1.r 9223372036854775807).fail.kind=0:=by rw[hvk] at hok;simpa using hok
 have ha:=hv.1.at_ hk
 have hb:=hv.2 hk
 have hto:=hv2 hok
 refine⟨(Bm Q5 Q5),dsp (fun h3 p3=>?_) fun h3 p3=>?_⟩
 refine⟨(Gt (Ad q1.r 9223372036854775807) _ _),Q26,Q26,(by simp only[List.length_cons,List.length_nil,List.length_append,List.length_cons,List.length_nil,Bb];omega),rfl,(Af (congrArg (Blk.lst .ev) ?_) (Af (congrArg (Blk.lst .int) ?_) rfl))⟩
 rotate_left 2
 refine⟨h2,(Ac Q5 Q5),Q16,(Ac Q5 Q5),(Ac Q5 Q5),(Ac Q5 Q5),(Ac Q5 Q5),(Asz (⟨(Ad q1.r 9223372036854775807).plan,(Ad q1.r 9223372036854775807).s,(Ad q1.r 9223372036854775807).at_,(Ad q1.r 9223372036854775807).out++[(⟨1,0,0,Am q1.r 9223372036854775807,[],0,0⟩:Ev)],(Ad q1.r 9223372036854775807).fail⟩:Mr) _ _ _ Q16 Q16 (hk) Q16 Q16 Q5 (by rw[hpl];exact hp1) Q85),fun h4=>have q4:=Ar h4;have p4:=of_decide_eq_false q4;?_,fun h4=>have q4:=Ao h4;have p4:=of_decide_eq_true q4;?_⟩
 have hfx:Cs q1.r=(Dk (Int.toNat (((⟨(Ad q1.r 9223372036854775807).plan,(Ad q1.r 9223372036854775807).s,(Ad q1.r 9223372036854775807).at_,(Ad q1.r 9223372036854775807).out++[(⟨1,0,0,Am q1.r 9223372036854775807,[],0,0⟩:Ev)],(Ad q1.r 9223372036854775807).fail⟩:Mr)).plan.deep-1)) p.root ((Ad q1.r 9223372036854775807).at_+(Am q1.r 9223372036854775807)) (⟨(Ad q1.r 9223372036854775807).plan,(Ad q1.r 9223372036854775807).s,(Ad q1.r 9223372036854775807).at_,(Ad q1.r 9223372036854775807).out++[(⟨1,0,0,Am q1.r 9223372036854775807,[],0,0⟩:Ev)],(Ad q1.r 9223372036854775807).fail⟩:Mr)):=by rw[hfm];simp only[Cr,Aj,hvp,hrm.2.1]
 have hfs:frmStep q1.r=Cs q1.r:=by rw[hfe,if_neg (by simp[hok]),if_neg (by rw[hrm.2.1];exact p3),if_neg (by rw[hfx];exact p4)]
 have hwh:Ef p s=⟨(Dk (Int.toNat (((⟨(Ad q1.r 9223372036854775807).plan,(Ad q1.r 9223372036854775807).s,(Ad q1.r 9223372036854775807).at_,(Ad q1.r 9223372036854775807).out++[(⟨1,0,0,Am q1.r 9223372036854775807,[],0,0⟩:Ev)],(Ad q1.r 9223372036854775807).fail⟩:Mr)).plan.deep-1)) p.root ((Ad q1.r 9223372036854775807).at_+(Am q1.r 9223372036854775807)) (⟨(Ad q1.r 9223372036854775807).plan,(Ad q1.r 9223372036854775807).s,(Ad q1.r 9223372036854775807).at_,(Ad q1.r 9223372036854775807).out++[(⟨1,0,0,Am q1.r 9223372036854775807,[],0,0⟩:Ev)],(Ad q1.r 9223372036854775807).fail⟩:Mr)),q1.ends⟩:=hi_q1.1.leave (by show q1.r.at_<_;omega) hfl (by unfold Du;simp only[hfs,hfx];rw[if_neg p4]) p4
 refine⟨(Ho Q16 Q16),rfl,(Af (congrArg (Blk.lst .ev) ?_) (Af (congrArg (Blk.lst .int) ?_) rfl))⟩
 rotate_left 2
 have hfx:Cs q1.r=(Dk (Int.toNat (((⟨(Ad q1.r 9223372036854775807).plan,(Ad q1.r 9223372036854775807).s,(Ad q1.r 9223372036854775807).at_,(Ad q1.r 9223372036854775807).out++[(⟨1,0,0,Am q1.r 9223372036854775807,[],0,0⟩:Ev)],(Ad q1.r 9223372036854775807).fail⟩:Mr)).plan.deep-1)) p.root ((Ad q1.r 9223372036854775807).at_+(Am q1.r 9223372036854775807)) (⟨(Ad q1.r 9223372036854775807).plan,(Ad q1.r 9223372036854775807).s,(Ad q1.r 9223372036854775807).at_,(Ad q1.r 9223372036854775807).out++[(⟨1,0,0,Am q1.r 9223372036854775807,[],0,0⟩:Ev)],(Ad q1.r 9223372036854775807).fail⟩:Mr)):=by rw[hfm];simp only[Cr,Aj,hvp,hrm.2.1]
 have hfs:frmStep q1.r=Aj (Cs q1.r) frameEndEv:=by rw[hfe,if_neg (by simp[hok]),if_neg (by rw[hrm.2.1];exact p3),if_pos (by rw[hfx];exact p4)]
 have hst:Du ⟨q1.r,q1.ends⟩=⟨Aj (Dk (Int.toNat (((⟨(Ad q1.r 9223372036854775807).plan,(Ad q1.r 9223372036854775807).s,(Ad q1.r 9223372036854775807).at_,(Ad q1.r 9223372036854775807).out++[(⟨1,0,0,Am q1.r 9223372036854775807,[],0,0⟩:Ev)],(Ad q1.r 9223372036854775807).fail⟩:Mr)).plan.deep-1)) p.root ((Ad q1.r 9223372036854775807).at_+(Am q1.r 9223372036854775807)) (⟨(Ad q1.r 9223372036854775807).plan,(Ad q1.r 9223372036854775807).s,(Ad q1.r 9223372036854775807).at_,(Ad q1.r 9223372036854775807).out++[(⟨1,0,0,Am q1.r 9223372036854775807,[],0,0⟩:Ev)],(Ad q1.r 9223372036854775807).fail⟩:Mr)) frameEndEv,q1.ends++[(Dk (Int.toNat (((⟨(Ad q1.r 9223372036854775807).plan,(Ad q1.r 9223372036854775807).s,(Ad q1.r 9223372036854775807).at_,(Ad q1.r 9223372036854775807).out++[(⟨1,0,0,Am q1.r 9223372036854775807,[],0,0⟩:Ev)],(Ad q1.r 9223372036854775807).fail⟩:Mr)).plan.deep-1)) p.root ((Ad q1.r 9223372036854775807).at_+(Am q1.r 9223372036854775807)) (⟨(Ad q1.r 9223372036854775807).plan,(Ad q1.r 9223372036854775807).s,(Ad q1.r 9223372036854775807).at_,(Ad q1.r 9223372036854775807).out++[(⟨1,0,0,Am q1.r 9223372036854775807,[],0,0⟩:Ev)],(Ad q1.r 9223372036854775807).fail⟩:Mr)).at_]⟩:=by unfold Du;simp only[hfs,hfx];rw[if_pos (show (Aj (Dk (Int.toNat (((⟨(Ad q1.r 9223372036854775807).plan,(Ad q1.r 9223372036854775807).s,(Ad q1.r 9223372036854775807).at_,(Ad q1.r 9223372036854775807).out++[(⟨1,0,0,Am q1.r 9223372036854775807,[],0,0⟩:Ev)],(Ad q1.r 9223372036854775807).fail⟩:Mr)).plan.deep-1)) p.root ((Ad q1.r 9223372036854775807).at_+(Am q1.r 9223372036854775807)) (⟨(Ad q1.r 9223372036854775807).plan,(Ad q1.r 9223372036854775807).s,(Ad q1.r 9223372036854775807).at_,(Ad q1.r 9223372036854775807).out++[(⟨1,0,0,Am q1.r 9223372036854775807,[],0,0⟩:Ev)],(Ad q1.r 9223372036854775807).fail⟩:Mr)) frameEndEv).fail.kind=0 from p4)];try rfl
 exact⟨(Ho Q16 Q16),Q9,(Ho Q16 Q16),Q9,rfl,rfl,(Ho Q16 Q16),Q9,rfl,rfl,Ay (j:=(⟨(⟨(Dk (Int.toNat (((⟨(Ad q1.r 9223372036854775807).plan,(Ad q1.r 9223372036854775807).s,(Ad q1.r 9223372036854775807).at_,(Ad q1.r 9223372036854775807).out++[(⟨1,0,0,Am q1.r 9223372036854775807,[],0,0⟩:Ev)],(Ad q1.r 9223372036854775807).fail⟩:Mr)).plan.deep-1)) p.root ((Ad q1.r 9223372036854775807).at_+(Am q1.r 9223372036854775807)) (⟨(Ad q1.r 9223372036854775807).plan,(Ad q1.r 9223372036854775807).s,(Ad q1.r 9223372036854775807).at_,(Ad q1.r 9223372036854775807).out++[(⟨1,0,0,Am q1.r 9223372036854775807,[],0,0⟩:Ev)],(Ad q1.r 9223372036854775807).fail⟩:Mr)).plan,(Dk (Int.toNat (((⟨(Ad q1.r 9223372036854775807).plan,(Ad q1.r 9223372036854775807).s,(Ad q1.r 9223372036854775807).at_,(Ad q1.r 9223372036854775807).out++[(⟨1,0,0,Am q1.r 9223372036854775807,[],0,0⟩:Ev)],(Ad q1.r 9223372036854775807).fail⟩:Mr)).plan.deep-1)) p.root ((Ad q1.r 9223372036854775807).at_+(Am q1.r 9223372036854775807)) (⟨(Ad q1.r 9223372036854775807).plan,(Ad q1.r 9223372036854775807).s,(Ad q1.r 9223372036854775807).at_,(Ad q1.r 9223372036854775807).out++[(⟨1,0,0,Am q1.r 9223372036854775807,[],0,0⟩:Ev)],(Ad q1.r 9223372036854775807).fail⟩:Mr)).s,(Dk (Int.toNat (((⟨(Ad q1.r 9223372036854775807).plan,(Ad q1.r 9223372036854775807).s,(Ad q1.r 9223372036854775807).at_,(Ad q1.r 9223372036854775807).out++[(⟨1,0,0,Am q1.r 9223372036854775807,[],0,0⟩:Ev)],(Ad q1.r 9223372036854775807).fail⟩:Mr)).plan.deep-1)) p.root ((Ad q1.r 9223372036854775807).at_+(Am q1.r 9223372036854775807)) (⟨(Ad q1.r 9223372036854775807).plan,(Ad q1.r 9223372036854775807).s,(Ad q1.r 9223372036854775807).at_,(Ad q1.r 9223372036854775807).out++[(⟨1,0,0,Am q1.r 9223372036854775807,[],0,0⟩:Ev)],(Ad q1.r 9223372036854775807).fail⟩:Mr)).at_,(Dk (Int.toNat (((⟨(Ad q1.r 9223372036854775807).plan,(Ad q1.r 9223372036854775807).s,(Ad q1.r 9223372036854775807).at_,(Ad q1.r 9223372036854775807).out++[(⟨1,0,0,Am q1.r 9223372036854775807,[],0,0⟩:Ev)],(Ad q1.r 9223372036854775807).fail⟩:Mr)).plan.deep-1)) p.root ((Ad q1.r 9223372036854775807).at_+(Am q1.r 9223372036854775807)) (⟨(Ad q1.r 9223372036854775807).plan,(Ad q1.r 9223372036854775807).s,(Ad q1.r 9223372036854775807).at_,(Ad q1.r 9223372036854775807).out++[(⟨1,0,0,Am q1.r 9223372036854775807,[],0,0⟩:Ev)],(Ad q1.r 9223372036854775807).fail⟩:Mr)).out++[(⟨8,0,0,0,[],0,0⟩:Ev)],(Dk (Int.toNat (((⟨(Ad q1.r 9223372036854775807).plan,(Ad q1.r 9223372036854775807).s,(Ad q1.r 9223372036854775807).at_,(Ad q1.r 9223372036854775807).out++[(⟨1,0,0,Am q1.r 9223372036854775807,[],0,0⟩:Ev)],(Ad q1.r 9223372036854775807).fail⟩:Mr)).plan.deep-1)) p.root ((Ad q1.r 9223372036854775807).at_+(Am q1.r 9223372036854775807)) (⟨(Ad q1.r 9223372036854775807).plan,(Ad q1.r 9223372036854775807).s,(Ad q1.r 9223372036854775807).at_,(Ad q1.r 9223372036854775807).out++[(⟨1,0,0,Am q1.r 9223372036854775807,[],0,0⟩:Ev)],(Ad q1.r 9223372036854775807).fail⟩:Mr)).fail⟩:Mr),q1.ends++[(Dk (Int.toNat (((⟨(Ad q1.r 9223372036854775807).plan,(Ad q1.r 9223372036854775807).s,(Ad q1.r 9223372036854775807).at_,(Ad q1.r 9223372036854775807).out++[(⟨1,0,0,Am q1.r 9223372036854775807,[],0,0⟩:Ev)],(Ad q1.r 9223372036854775807).fail⟩:Mr)).plan.deep-1)) p.root ((Ad q1.r 9223372036854775807).at_+(Am q1.r 9223372036854775807)) (⟨(Ad q1.r 9223372036854775807).plan,(Ad q1.r 9223372036854775807).s,(Ad q1.r 9223372036854775807).at_,(Ad q1.r 9223372036854775807).out++[(⟨1,0,0,Am q1.r 9223372036854775807,[],0,0⟩:Ev)],(Ad q1.r 9223372036854775807).fail⟩:Mr)).at_]⟩:parsed_i_V0)) rfl Q12 (by dsimp only[parsed_i_F0];exact⟨(hi_q1.1.next (by show q1.r.at_<_;omega) hfl hst).1,p4⟩) (by dsimp only[parsed_i_F0];exact(hi_q1.1.next (by show q1.r.at_<_;omega) hfl hst).2)⟩
 have hok:Bf q1.r 9223372036854775807=false:=h2
 refine⟨h2,(W1 h2),Q9,rfl,(Af (congrArg (Blk.lst .ev) ?_) (Af (congrArg (Blk.lst .int) ?_) rfl))⟩
 rotate_left 2
 refine⟨Q16,rfl,(Af (congrArg (Blk.lst .ev) ?_) (Af (congrArg (Blk.lst .int) ?_) rfl))⟩
 rotate_left 2
 all_goals first|((rw[Cu,hwh];exact congrArg (_++[·]) (if_neg (by assumption))))|((rw[hwh];done))|((rw[Cu,hi_q1.1.end_ (by show¬q1.r.at_<_;omega)];simp[hfl,Uk];done))|((rw[hi_q1.1.end_ (by show¬q1.r.at_<_;omega)];done))|((have hw:=hi_q1.1.leave (by show q1.r.at_<_;omega) hfl (rfl) (by show (frmStep q1.r).fail.kind≠0;grind (ematch:=20) (gen:=20) [Du,Aj,Bb,Bx,Cr,frameEndEv]);rw[Cu,hw];grind (ematch:=20) (gen:=20) [Du,Aj,Bb,Bx,Cr,frameEndEv]))|((have hw:=hi_q1.1.leave (by show q1.r.at_<_;omega) hfl (rfl) (by show (frmStep q1.r).fail.kind≠0;grind (ematch:=20) (gen:=20) [Du,Aj,Bb,Bx,Cr,frameEndEv]);rw[hw];grind (ematch:=20) (gen:=20) [Du,Aj,Bb,Bx,Cr,frameEndEv]))
theorem Aq9 (p:Pln) (s:List UInt8) (hp1:s.length≤1048576):Fun Tryz.prog 18 [.agg (Cd p),vT s] [] (.v (.c (.seq .ev (Bi p s)))) []:=by
 have hN:Ba=274877906944:=rfl
 refine Av Tryz.func18 Q8 Q8 (w:=let z2:List Blk:=[.lst .ev (Cu p s),.lst .int (Ef p s).ends];let z3:S:= .v (.c (.seq .ev (Bi p s)));let z1:=Lf (.v (.c (.seq .ev ([]:List Ev)))) z3 [] [];(.seg [.call [] (.v (vB (B3 p))) []] (.br (.seg [.at 0,.mkS 4 .ev,.pubS 4] (.leaf () [])) (.br (.seg [.at 0,.mkS 4 .ev,.pubS 4] (.leaf () [])) (.seg [.call [] (.tup [vO 0,vO 1]) z2,.at 0,.pubS 4] (.leaf () [])))),(Fp 57 [.agg (Cd p)] [] (.v (vB (B3 p))) [])∧Bc (!(B3 p)) z1 (Bc (decide (4000<(s.length:Int))) z1 ((Fp 58 [.agg (Cd p),vT s] [] (.tup [vO 0,vO 1]) z2)∧Lf (.v (.c (.seq .ev (Cu p s)))) z3 [] [])))) Q8 ?_
 refine⟨(Wy p),fun h1=>have q1:=Ar h1;?_,fun h1=>have q1:=Ao h1;have p1:=C6 q1;?_⟩
 refine⟨(congrArg S.v (congrArg V.c (congrArg (C.seq .ev) ?_))),rfl⟩
 rotate_left
 refine dsp (fun h2 p2=>?_) fun h2 p2=>?_
 refine⟨(congrArg S.v (congrArg V.c (congrArg (C.seq .ev) ?_))),rfl⟩
 rotate_left
 have hwl:Bi p s=Cu p s:=by unfold Bi;rw[if_pos ⟨by simp_all,by omega⟩]
 refine⟨(parsed_i p _ Q5 Q5),(congrArg S.v (congrArg V.c (congrArg (C.seq .ev) ?_))),rfl⟩
 rotate_left
 all_goals first|(simp_all[Bi];done)|(grind[Bi])
theorem Vv (p:Pln) (s:List UInt8) (hp1:s.length≤1048576):Fun Tryz.prog 15 [.agg (Cd p),vT s] [] (.v (vI (Mo p s))) []:=by
 have hN:Ba=274877906944:=rfl
 have hwm:List.length (Bi p s)≤16001:=by unfold Bi;split;exact Nd (by omega);simp
 refine Av Tryz.func15 Q8 Q8 (w:=let z1:S:= .v (vI (Ns (Bi p s) 8));let z2:S:= .v (.c (.seq .ev (Bi p s)));(.seg [.call [] z2 [],.call [] z1 []] (.leaf () []),(Fp 18 [.agg (Cd p),vT s] [] z2 [])∧(Fp 60 [.c (.seq .ev (Bi p s)),vI 8] [] z1 [])∧Lf z1 (.v (vI (Mo p s))) [] [])) Q8 ?_
 exact⟨(Aq9 p _ Q5),(Asv _ _ Q5),(congrArg S.v (congrArg V.c (congrArg (C.int .i64) (by rfl)))),rfl⟩
theorem wholeL_len {p:Pln} {s:List UInt8} :(Bi p s).length≤16001:=by unfold Bi;split;exact Nd (by omega);simp
structure sameEv_ok_V0 where
 i:Nat
end Go.Proofs.YtijacopaadmncaaGreat.Ax
