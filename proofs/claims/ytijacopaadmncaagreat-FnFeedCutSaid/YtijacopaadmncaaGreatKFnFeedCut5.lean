/- The reference: frames, tags, lengths. The reference: lengths, numbers. The reference: bytes of numbers. A byte: the reference. Whole inputs: the reference. Models: B9 events. Merged events. -/
import Derived.Test.YtijacopaadmncaaGreatKFnFeedCut4
import Derived.Test.YtijacopaadmncaaGreatKFnFeedCut2
import Derived.Test.YtijacopaadmncaaGreatKFnFeedCut3
import Derived.Test.YtijacopaadmncaaGreatKFnFeedCut1
set_option linter.unusedSimpArgs false
set_option linter.unusedVariables false
namespace Go.Proofs.YtijacopaadmncaaGreat.Ax
open Go.RowKit
theorem Hj (d:Dcd) (e:Ev) (hp1:List.length (d).stack≤1000):Fun Tryz.prog 254 [.agg (Ad 0 1 d),.agg (cEv e)] [.tree d.plan.shapes,.lst .lev d.stack] (.tup [.agg (Ad 2 3 (Ae ⟨d,[]⟩).d),vO 4]) [.dead,.dead,.tree (Ae ⟨d,[]⟩).d.plan.shapes,.lst .lev (Ae ⟨d,[]⟩).d.stack,.lst .ev (e::(Ae ⟨d,[]⟩).out)]:=by
 have hN:Bb=274877906944:=rfl
 have hso:=Vp ⟨d,[]⟩
 have hwd:=Aea ⟨d,[]⟩
 simp only[List.length_nil] at hwd hso
 refine Ap Tryz.func254 Q4 Q4 (w:=let z1:=Ae ⟨d,[]⟩;let z2:S:= .tup [.agg (Ad 2 3 z1.d),vO 4];(.seg [.call [0,1] z2 (.dead:: .dead::Ls z1.d z1.out),.tree (.first 0 (.first 1 (.first 3 (.one 2 (.one 4 (.one 5 (.first 6 (.done)))))))) 5 [7],.ty .ev,.ty .ev] (.leaf () [0,1,5,6,10]),(Fp 251 [.agg (Ad 0 1 d)] (L2 d) z2 (.dead:: .dead::Ls z1.d z1.out))∧(List.length [e]+List.length z1.out≤Bb)∧Lf z2 z2 (.dead:: .dead::Ls z1.d ([e]++z1.out)) (.dead:: .dead::Ls z1.d (e::z1.out)))) Q4 ?_
 exact⟨(Hi d Q2),Q5,rfl,(Ah rfl (Ah rfl (Ah rfl (Ah rfl (Ah (congrArg (Blk.lst .ev) (by rfl)) rfl)))))⟩
theorem Af7 (d:Dcd) (u:Int) (hp1:Bd d=true) (hp2:(0:Int)≤u∧u≤18446744073709551615):Fun Tryz.prog 287 [.agg (Bu d),.c (.int .u64 u)] [] (.tup [.agg (Ad 0 1 (Cu ⟨d,[]⟩ u).d),vO 2]) [.tree (Cu ⟨d,[]⟩ u).d.plan.shapes,.lst .lev (Cu ⟨d,[]⟩ u).d.stack,.lst .ev (Cu ⟨d,[]⟩ u).out]:=by
 have hN:Bb=274877906944:=rfl
 have hlv:=B3 hp1
 have hpt:=Cc hlv.1
 have htb:=G5 hp1
 refine Ap Tryz.func287 Q4 Q4 (w:=let zi:Int→C:= .int .i64;let z1:List C:=[.own 1,.int .u64 0,zi 0,zi d.start,zi d.at_,zi d.field.number,zi d.field.kind,.bool d.field.rep,.bool d.field.packed,zi d.field.msg,zi d.wire,zi d.want,zi d.utf.want,zi d.utf.low,zi d.utf.high,zi d.end_.kind,zi d.end_.field,.int .u64 d.end_.bits,zi d.end_.len,.str d.end_.text,zi d.end_.code,zi d.end_.at_];let z2:=Ae ⟨(⟨d.plan,2,[(⟨d.plan.root,u⟩:Lev)],(⟨0,0⟩:Scn),d.start,d.at_,d.field,d.wire,d.want,d.utf,d.end_⟩:Dcd),[]⟩;let z3:=A8 (⟨d.plan,d.mode,d.stack,(⟨0,0⟩:Scn),d.start,d.at_,d.field,d.wire,d.want,d.utf,d.end_⟩:Dcd) 7 d.start;let z4:=(⟨1,0,0,u,[],0,0⟩:Ev)::z2.out;let z5:=Cu ⟨d,[]⟩ u;let z6:S:= .tup [.agg (Ad 2 3 z2.d),vO 4];let z7:S:= .tup [.agg (Ad 0 1 z5.d),vO 2];let z8:List Blk:= .dead:: .dead::Ls z3 [A2 7 d.start];let z9:S:= .tup [.agg (Ad 2 3 z3),vO 4];(.seg [.call [] (.v (.agg (Ad 0 1 d))) (L2 d),.call [] (.v (vB (Bd d))) [],.br false,.as 20 (.v (.c (.int .u64 d.plan.most)))] (.br (.seg [.call [2,3] z9 z8] (.leaf () [5,6,7])) (.seg [.as 32 (.v (vI u)),.ty .lev,.as 39 (.v (vI u)),.call [2,5] z6 (.dead:: .dead::Ls z2.d z4)] (.leaf () [6,7,8]))),(Fp 83 [.agg (Bu d)] [] (.v (.agg (Ad 0 1 d))) (L2 d))∧(Fp 292 [.agg (Bu d)] [] (.v (vB (Bd d))) [])∧((!(Bd d))=false)∧(wU (d.plan.most))∧Bc (decide (d.plan.most<u)) ((Fp 253 [.agg (.own 0::zi d.plan.root::zi d.plan.deep::zi d.plan.most::zi d.mode::z1),vI 7,vI d.start] (L2 d) z9 z8)∧Lf (.tup [.agg (Ad 0 1 z3),vO 2]) z7 (Ls z3 [A2 7 d.start]) (Ls z5.d z5.out)) ((wI (u))∧(wI (u))∧(Fp 254 [.agg (.own 0::zi d.plan.root::zi d.plan.deep::zi d.plan.most::zi 2::z1),.agg [zi 1,zi 0,.int .u64 0,zi u,.str [],zi 0,zi 0]] [.tree d.plan.shapes,.lst .lev [(⟨d.plan.root,u⟩:Lev)]] z6 (.dead:: .dead::Ls z2.d z4))∧Lf (.tup [.agg (Ad 0 1 z2.d),vO 2]) z7 (Ls z2.d z4) (Ls z5.d z5.out)))) Q4 ?_
 refine⟨(Lw d Q2 (Eh hpt.2.1) Q2),(Tc d Q2 Q2),(by simp[hp1]),(Bv Q2 Q2),dsp (fun h1 p1=>?_) fun h1 p1=>?_⟩
 refine zD ((Cu ⟨d,[]⟩ u).d) (A8 (⟨d.plan,d.mode,d.stack,(⟨0,0⟩:Scn),d.start,d.at_,d.field,d.wire,d.want,d.utf,d.end_⟩:Dcd) 7 d.start) ((Cu ⟨d,[]⟩ u).out) [A2 7 d.start] (fun hm1 hm2=>⟨(C6 (⟨d.plan,d.mode,d.stack,(⟨0,0⟩:Scn),d.start,d.at_,d.field,d.wire,d.want,d.utf,d.end_⟩:Dcd) _ _),Q6,Q10⟩) ?_ ?_
 rotate_left 2
 refine zD ((Cu ⟨d,[]⟩ u).d) ((Ae ⟨(⟨d.plan,2,[(⟨d.plan.root,u⟩:Lev)],(⟨0,0⟩:Scn),d.start,d.at_,d.field,d.wire,d.want,d.utf,d.end_⟩:Dcd),[]⟩).d) ((Cu ⟨d,[]⟩ u).out) ((⟨1,0,0,u,[],0,0⟩:Ev)::(Ae ⟨(⟨d.plan,2,[(⟨d.plan.root,u⟩:Lev)],(⟨0,0⟩:Scn),d.start,d.at_,d.field,d.wire,d.want,d.utf,d.end_⟩:Dcd),[]⟩).out) (fun hm1 hm2=>⟨(Ac Q2 Q2),(Ac Q2 Q2),(Hj (⟨d.plan,2,[(⟨d.plan.root,u⟩:Lev)],(⟨0,0⟩:Scn),d.start,d.at_,d.field,d.wire,d.want,d.utf,d.end_⟩:Dcd) (⟨1,0,0,u,[],0,0⟩:Ev) Q20),Q6,Q10⟩) ?_ ?_
 rotate_left 2
 all_goals first|(simp_all[Cu,Ac7,A0,A8,scn0,utf0,Cg];done)|(grind[Cu,Ac7,A0,A8,scn0,utf0,Cg])
set_option maxHeartbeats 1600000 in
theorem Amm (d:Dcd) (u:Int) (hp1:Bd d=true) (hp2:(0:Int)≤u∧u≤18446744073709551615):Fun Tryz.prog 288 [.agg (Bu d),.c (.int .u64 u)] [] (.tup [.agg (Ad 0 1 (Ea ⟨d,[]⟩ u).d),vO 2]) [.tree (Ea ⟨d,[]⟩ u).d.plan.shapes,.lst .lev (Ea ⟨d,[]⟩ u).d.stack,.lst .ev (Ea ⟨d,[]⟩ u).out]:=by
 have hN:Bb=274877906944:=rfl
 have hlv:=B3 hp1
 have hpt:=Cc hlv.1
 have htb:=G5 hp1
 have htw:=Ai6 u
 have hwb:=D5 (Aj u)
 have hmx:max (Az (Aj u)) 1=if 1>Az (Aj u) then 1 else Az (Aj u):=by split<;>omega
 have hw1:Do (Aj u)=true→¬Aj u=0→¬Aj u=2→1≤Az (Aj u):=by
  intro a b c
  simp[Do] at a
  unfold Az
  split<;>(try split)<;>omega
 refine Ap Tryz.func288 Q4 Q4 (w:=let zi:Int→C:= .int .i64;let z8:List C:=[zi d.want,zi d.utf.want,zi d.utf.low,zi d.utf.high,zi d.end_.kind,zi d.end_.field,.int .u64 d.end_.bits,zi d.end_.len,.str d.end_.text,zi d.end_.code,zi d.end_.at_];let z9:List C:=[.nil,zi 0,zi 0,zi 0,zi 0,.nil,.int .u64 0,zi 0,zi 0,zi 0,zi 0,zi 0,.bool false,.bool false,zi 0,zi 0,zi 0,zi 0,zi 0,zi 0,zi 0,zi 0,.int .u64 0,zi 0,.str [],zi 0,zi 0];let z11:=((List.length d.stack:Nat):Int);let z12:S:= .tup [.agg (Ad 0 1 (Ea ⟨d,[]⟩ u).d),vO 2];let z13:=Ls (Ea ⟨d,[]⟩ u).d (Ea ⟨d,[]⟩ u).out;let z14:=(⟨0,0⟩:Scn);let z10:=(⟨d.plan,d.mode,d.stack,z14,d.start,d.at_,d.field,d.wire,d.want,d.utf,d.end_⟩:Dcd);let z15:=Aj u;let z16:=A8 z10 2 d.start;let z17:=(0:Int)≤z11-1;let z18:List Blk:= .dead:: .dead::Ls z16 [A2 2 d.start];let z19:S:= .tup [.agg (Ad 2 3 z16),vO 4];let z20:S:= .v (vI (z11-1));let z21:=A8 z10 3 d.start;let z22:=A8 z10 4 d.start;let z23:=Ls d ([]:List Ev);let z24:=wI (z11-1);let z25:S:= .v (vI (Az z15));let z26:S:= .tup [vI (Bo u),vI z15,vB (Mo u)];let z27:List Blk:= .dead:: .dead::Ls z21 [A2 3 d.start];let z28:List Blk:= .dead:: .dead::Ls z22 [A2 4 d.start];let z29:S:= .tup [.agg (Ad 2 3 z21),vO 4];let z30:S:= .tup [.agg (Ad 2 3 z22),vO 4];let z31:S:= .tup [.agg (Ad 0 1 z16),vO 2];(.seg [.call [] (.v (.agg (Ad 0 1 d))) (L2 d),.call [] (.v (vB (Bd d))) [],.br false,.call [] z26 []] (.br (.seg [.call [2,3] z19 z18] (.leaf () [5,6,7])) (.br (.seg [.call [2,3] z19 z18] (.leaf () [5,6,7])) (.intro (Sx (d.stack[Int.toNat (z11-1)]?)) fun x1=>let z2:=fieldAt d.plan.shapes x1.msg (Bo u);let z1:=z2.getD fld0;.seg [.tree (fr (.two 11 (fr (.one 15 (.one 16 (.first 17 (.done)))) 12 3) 15 (.one 11 (fr (.one 16 (.first 17 (.done))) 12 3))) 0 11) 18 [],.as 51 z20,.el .lev x1,.call [] (.tup [.agg (Fr z1),vB z2.isSome]) [],.at 0,.keep [2,4,6,8,10,11,12],.sel [0,1,4,2,3,5],.call [] (.tup [.agg (Fr z1),vB z2.isSome]) [],.at 0,.keep [2,4,6,8,10,11,12],.sel [0,1,4,2,3,5],.call [] (.v (vB (Do z15))) []] (.br (.seg [.call [3,4] z29 z27] (.leaf () [6,7,8])) (.br (.seg [.call [] (.v (vB (Da z1 z15))) []] (.br (.seg [.call [3,4] z30 z28] (.leaf () [6,7,8])) (.br (.seg [.as 98 z20,.el .lev x1] (.br (.seg [.call [3,4] (.tup [.agg (Ad 2 3 (A8 (⟨d.plan,3,d.stack,z14,d.start,d.at_,z1,Aj u,d.want,d.utf,d.end_⟩:Dcd) 9 d.at_)),vO 4]) (.dead:: .dead::Ls (A8 (⟨d.plan,3,d.stack,z14,d.start,d.at_,z1,Aj u,d.want,d.utf,d.end_⟩:Dcd) 9 d.at_) [A2 9 d.at_])] (.leaf () [6,7,8])) (.seg [.ty .ev] (.leaf () [3,4,6])))) (.br (.seg [.as 98 z20,.el .lev x1] (.br (.seg [.call [3,4] (.tup [.agg (Ad 2 3 (A8 (⟨d.plan,4,d.stack,z14,d.start,d.at_,z1,Aj u,d.want,d.utf,d.end_⟩:Dcd) 9 d.at_)),vO 4]) (.dead:: .dead::Ls (A8 (⟨d.plan,4,d.stack,z14,d.start,d.at_,z1,Aj u,d.want,d.utf,d.end_⟩:Dcd) 9 d.at_) [A2 9 d.at_])] (.leaf () [6,7,8])) (.seg [.ty .ev] (.leaf () [3,4,6])))) (.seg [.call [] z25 [],.as 98 z20,.el .lev x1] (.br (.seg [.call [3,4] (.tup [.agg (Ad 2 3 (A8 (⟨d.plan,5,d.stack,z14,d.start,d.at_,z1,Aj u,d.want,d.utf,d.end_⟩:Dcd) 9 d.at_)),vO 4]) (.dead:: .dead::Ls (A8 (⟨d.plan,5,d.stack,z14,d.start,d.at_,z1,Aj u,d.want,d.utf,d.end_⟩:Dcd) 9 d.at_) [A2 9 d.at_])] (.leaf () [6,7,8])) (.seg [.ty .ev] (.leaf () [3,4,6])))))))) (.br (.seg [.as 98 z20,.el .lev x1] (.br (.seg [.call [3,4] (.tup [.agg (Ad 2 3 (A8 (⟨d.plan,3,d.stack,z14,d.start,d.at_,z1,Aj u,d.want,d.utf,d.end_⟩:Dcd) 9 d.at_)),vO 4]) (.dead:: .dead::Ls (A8 (⟨d.plan,3,d.stack,z14,d.start,d.at_,z1,Aj u,d.want,d.utf,d.end_⟩:Dcd) 9 d.at_) [A2 9 d.at_])] (.leaf () [6,7,8])) (.seg [.ty .ev] (.leaf () [3,4,6])))) (.br (.seg [.as 98 z20,.el .lev x1] (.br (.seg [.call [3,4] (.tup [.agg (Ad 2 3 (A8 (⟨d.plan,4,d.stack,z14,d.start,d.at_,z1,Aj u,d.want,d.utf,d.end_⟩:Dcd) 9 d.at_)),vO 4]) (.dead:: .dead::Ls (A8 (⟨d.plan,4,d.stack,z14,d.start,d.at_,z1,Aj u,d.want,d.utf,d.end_⟩:Dcd) 9 d.at_) [A2 9 d.at_])] (.leaf () [6,7,8])) (.seg [.ty .ev] (.leaf () [3,4,6])))) (.seg [.call [] z25 [],.as 98 z20,.el .lev x1] (.br (.seg [.call [3,4] (.tup [.agg (Ad 2 3 (A8 (⟨d.plan,5,d.stack,z14,d.start,d.at_,z1,Aj u,d.want,d.utf,d.end_⟩:Dcd) 9 d.at_)),vO 4]) (.dead:: .dead::Ls (A8 (⟨d.plan,5,d.stack,z14,d.start,d.at_,z1,Aj u,d.want,d.utf,d.end_⟩:Dcd) 9 d.at_) [A2 9 d.at_])] (.leaf () [6,7,8])) (.seg [.ty .ev] (.leaf () [3,4,6]))))))))))),(Fp 83 [.agg (Bu d)] [] (.v (.agg (Ad 0 1 d))) (L2 d))∧(Fp 292 [.agg (Bu d)] [] (.v (vB (Bd d))) [])∧((!(Bd d))=false)∧(Fp 128 [.c (.int .u64 u)] [] z26 [])∧Bc (!(Mo u)) ((Fp 253 [.agg (.own 0::zi d.plan.root::zi d.plan.deep::zi d.plan.most::zi d.mode:: .own 1:: .int .u64 0::zi 0::zi d.start::zi d.at_::zi d.field.number::zi d.field.kind:: .bool d.field.rep:: .bool d.field.packed::zi d.field.msg::zi d.wire::z8),vI 2,vI d.start] (L2 d) z19 z18)∧Lf z31 z12 (Ls z16 [A2 2 d.start]) z13) (Bc (decide (z11=0)) ((Fp 253 [.agg (.own 0::zi d.plan.root::zi d.plan.deep::zi d.plan.most::zi d.mode:: .own 1:: .int .u64 0::zi 0::zi d.start::zi d.at_::zi d.field.number::zi d.field.kind:: .bool d.field.rep:: .bool d.field.packed::zi d.field.msg::zi d.wire::z8),vI 2,vI d.start] (L2 d) z19 z18)∧Lf z31 z12 (Ls z16 [A2 2 d.start]) z13) (El (d.stack[Int.toNat (z11-1)]?) fun x1=>(let z4:=d.stack[Int.toNat (z11-1)]? =some x1;let z5:=fieldAt d.plan.shapes x1.msg (Bo u);let z3:=z5.getD fld0;let z6:=decide (x1.left<1);let z7:=decide (x1.left<Az z15);z24∧z24∧z4∧z17∧z4∧z17∧(Fp 129 [.agg [.seq .shp d.plan.shapes],vI x1.msg,vI (Bo u)] [] (.tup [.agg (Fr z3),vB z5.isSome]) [])∧(Fp 129 [.agg [.seq .shp d.plan.shapes],vI x1.msg,vI (Bo u)] [] (.tup [.agg (Fr z3),vB z5.isSome]) [])∧(([.cells (Bu d),.cells z9,.cells (.own 3::zi d.plan.root::zi d.plan.deep::zi d.plan.most::zi d.mode:: .own 4:: .int .u64 0::zi 0::zi d.start::zi d.at_::zi d.field.number::zi d.field.kind:: .bool d.field.rep:: .bool d.field.packed::zi d.field.msg::zi d.wire::z8),.tree d.plan.shapes,.lst .lev d.stack,.cells (Fr z3)]:List Blk)=[.cells (Bu d),.cells z9,.cells (.own 3::zi d.plan.root::zi d.plan.deep::zi d.plan.most::zi d.mode:: .own 4:: .int .u64 0::zi 0::zi d.start::zi d.at_::zi d.field.number::zi d.field.kind:: .bool d.field.rep:: .bool d.field.packed::zi d.field.msg::zi d.wire::z8),.tree d.plan.shapes,.lst .lev d.stack,.cells (Fr z3)])∧(([(2,.v (vP 0)),(4,.v (vP 1)),(6,.v (vP 2)),(8,.v (vI z15)),(10,.v (vI z11)),(11,.v (vP 5)),(12,.v (vB z5.isSome))]:List (Nat×S))=[(2,.v (vP 0)),(4,.v (vP 1)),(6,.v (vP 2)),(8,.v (vI z15)),(10,.v (vI z11)),(11,.v (vP 5)),(12,.v (vB z5.isSome))])∧(Fp 130 [vI z15] [] (.v (vB (Do z15))) [])∧Bc (!(Do z15)) ((Fp 253 [.agg (.own 0::zi d.plan.root::zi d.plan.deep::zi d.plan.most::zi d.mode:: .own 1:: .int .u64 0::zi 0::zi d.start::zi d.at_::zi d.field.number::zi d.field.kind:: .bool d.field.rep:: .bool d.field.packed::zi d.field.msg::zi d.wire::z8),vI 3,vI d.start] (L2 d) z29 z27)∧Lf (.tup [.agg (Ad 0 1 z21),vO 2]) z12 (Ls z21 [A2 3 d.start]) z13) (Bc (z5.isSome) ((Fp 131 [.agg (Fr z3),vI z15] [] (.v (vB (Da z3 z15))) [])∧Bc (!(Da z3 z15)) ((Fp 253 [.agg (.own 0::zi d.plan.root::zi d.plan.deep::zi d.plan.most::zi d.mode:: .own 1:: .int .u64 0::zi 0::zi d.start::zi d.at_::zi d.field.number::zi d.field.kind:: .bool d.field.rep:: .bool d.field.packed::zi d.field.msg::zi d.wire::z8),vI 4,vI d.start] (L2 d) z30 z28)∧Lf (.tup [.agg (Ad 0 1 z22),vO 2]) z12 (Ls z22 [A2 4 d.start]) z13) (Bc (decide (Aj u=0)) (z24∧z4∧z17∧Bc z6 ((Fp 253 [.agg (.own 0::zi d.plan.root::zi d.plan.deep::zi d.plan.most::zi 3:: .own 1:: .int .u64 0::zi 0::zi d.start::zi d.at_::zi z3.number::zi z3.kind:: .bool z3.rep:: .bool z3.packed::zi z3.msg::zi z15::z8),vI 9,vI d.at_] (L2 d) (.tup [.agg (Ad 2 3 (A8 (⟨d.plan,3,d.stack,z14,d.start,d.at_,z3,Aj u,d.want,d.utf,d.end_⟩:Dcd) 9 d.at_)),vO 4]) (.dead:: .dead::Ls (A8 (⟨d.plan,3,d.stack,z14,d.start,d.at_,z3,Aj u,d.want,d.utf,d.end_⟩:Dcd) 9 d.at_) [A2 9 d.at_]))∧Lf (.tup [.agg (Ad 0 1 (A8 (⟨d.plan,3,d.stack,z14,d.start,d.at_,z3,Aj u,d.want,d.utf,d.end_⟩:Dcd) 9 d.at_)),vO 2]) z12 (Ls (A8 (⟨d.plan,3,d.stack,z14,d.start,d.at_,z3,Aj u,d.want,d.utf,d.end_⟩:Dcd) 9 d.at_) [A2 9 d.at_]) z13) (Lf (.tup [.agg (.own 0::zi d.plan.root::zi d.plan.deep::zi d.plan.most::zi 3:: .own 1:: .int .u64 0::zi 0::zi d.start::zi d.at_::zi z3.number::zi z3.kind:: .bool z3.rep:: .bool z3.packed::zi z3.msg::zi z15::z8),vO 2]) z12 z23 z13)) (Bc (decide (Aj u=2)) (z24∧z4∧z17∧Bc z6 ((Fp 253 [.agg (.own 0::zi d.plan.root::zi d.plan.deep::zi d.plan.most::zi 4:: .own 1:: .int .u64 0::zi 0::zi d.start::zi d.at_::zi z3.number::zi z3.kind:: .bool z3.rep:: .bool z3.packed::zi z3.msg::zi z15::z8),vI 9,vI d.at_] (L2 d) (.tup [.agg (Ad 2 3 (A8 (⟨d.plan,4,d.stack,z14,d.start,d.at_,z3,Aj u,d.want,d.utf,d.end_⟩:Dcd) 9 d.at_)),vO 4]) (.dead:: .dead::Ls (A8 (⟨d.plan,4,d.stack,z14,d.start,d.at_,z3,Aj u,d.want,d.utf,d.end_⟩:Dcd) 9 d.at_) [A2 9 d.at_]))∧Lf (.tup [.agg (Ad 0 1 (A8 (⟨d.plan,4,d.stack,z14,d.start,d.at_,z3,Aj u,d.want,d.utf,d.end_⟩:Dcd) 9 d.at_)),vO 2]) z12 (Ls (A8 (⟨d.plan,4,d.stack,z14,d.start,d.at_,z3,Aj u,d.want,d.utf,d.end_⟩:Dcd) 9 d.at_) [A2 9 d.at_]) z13) (Lf (.tup [.agg (.own 0::zi d.plan.root::zi d.plan.deep::zi d.plan.most::zi 4:: .own 1:: .int .u64 0::zi 0::zi d.start::zi d.at_::zi z3.number::zi z3.kind:: .bool z3.rep:: .bool z3.packed::zi z3.msg::zi z15::z8),vO 2]) z12 z23 z13)) ((Fp 177 [vI z15] [] z25 [])∧z24∧z4∧z17∧Bc z7 ((Fp 253 [.agg (.own 0::zi d.plan.root::zi d.plan.deep::zi d.plan.most::zi 5:: .own 1:: .int .u64 0::zi 0::zi d.start::zi d.at_::zi z3.number::zi z3.kind:: .bool z3.rep:: .bool z3.packed::zi z3.msg::zi z15::z8),vI 9,vI d.at_] (L2 d) (.tup [.agg (Ad 2 3 (A8 (⟨d.plan,5,d.stack,z14,d.start,d.at_,z3,Aj u,d.want,d.utf,d.end_⟩:Dcd) 9 d.at_)),vO 4]) (.dead:: .dead::Ls (A8 (⟨d.plan,5,d.stack,z14,d.start,d.at_,z3,Aj u,d.want,d.utf,d.end_⟩:Dcd) 9 d.at_) [A2 9 d.at_]))∧Lf (.tup [.agg (Ad 0 1 (A8 (⟨d.plan,5,d.stack,z14,d.start,d.at_,z3,Aj u,d.want,d.utf,d.end_⟩:Dcd) 9 d.at_)),vO 2]) z12 (Ls (A8 (⟨d.plan,5,d.stack,z14,d.start,d.at_,z3,Aj u,d.want,d.utf,d.end_⟩:Dcd) 9 d.at_) [A2 9 d.at_]) z13) (Lf (.tup [.agg (.own 0::zi d.plan.root::zi d.plan.deep::zi d.plan.most::zi 5:: .own 1:: .int .u64 0::zi 0::zi d.start::zi d.at_::zi z3.number::zi z3.kind:: .bool z3.rep:: .bool z3.packed::zi z3.msg::zi z15::z8),vO 2]) z12 z23 z13))))) (Bc (decide (Aj u=0)) (z24∧z4∧z17∧Bc z6 ((Fp 253 [.agg (.own 0::zi d.plan.root::zi d.plan.deep::zi d.plan.most::zi 3:: .own 1:: .int .u64 0::zi 0::zi d.start::zi d.at_::zi z3.number::zi z3.kind:: .bool z3.rep:: .bool z3.packed::zi z3.msg::zi z15::z8),vI 9,vI d.at_] (L2 d) (.tup [.agg (Ad 2 3 (A8 (⟨d.plan,3,d.stack,z14,d.start,d.at_,z3,Aj u,d.want,d.utf,d.end_⟩:Dcd) 9 d.at_)),vO 4]) (.dead:: .dead::Ls (A8 (⟨d.plan,3,d.stack,z14,d.start,d.at_,z3,Aj u,d.want,d.utf,d.end_⟩:Dcd) 9 d.at_) [A2 9 d.at_]))∧Lf (.tup [.agg (Ad 0 1 (A8 (⟨d.plan,3,d.stack,z14,d.start,d.at_,z3,Aj u,d.want,d.utf,d.end_⟩:Dcd) 9 d.at_)),vO 2]) z12 (Ls (A8 (⟨d.plan,3,d.stack,z14,d.start,d.at_,z3,Aj u,d.want,d.utf,d.end_⟩:Dcd) 9 d.at_) [A2 9 d.at_]) z13) (Lf (.tup [.agg (.own 0::zi d.plan.root::zi d.plan.deep::zi d.plan.most::zi 3:: .own 1:: .int .u64 0::zi 0::zi d.start::zi d.at_::zi z3.number::zi z3.kind:: .bool z3.rep:: .bool z3.packed::zi z3.msg::zi z15::z8),vO 2]) z12 z23 z13)) (Bc (decide (Aj u=2)) (z24∧z4∧z17∧Bc z6 ((Fp 253 [.agg (.own 0::zi d.plan.root::zi d.plan.deep::zi d.plan.most::zi 4:: .own 1:: .int .u64 0::zi 0::zi d.start::zi d.at_::zi z3.number::zi z3.kind:: .bool z3.rep:: .bool z3.packed::zi z3.msg::zi z15::z8),vI 9,vI d.at_] (L2 d) (.tup [.agg (Ad 2 3 (A8 (⟨d.plan,4,d.stack,z14,d.start,d.at_,z3,Aj u,d.want,d.utf,d.end_⟩:Dcd) 9 d.at_)),vO 4]) (.dead:: .dead::Ls (A8 (⟨d.plan,4,d.stack,z14,d.start,d.at_,z3,Aj u,d.want,d.utf,d.end_⟩:Dcd) 9 d.at_) [A2 9 d.at_]))∧Lf (.tup [.agg (Ad 0 1 (A8 (⟨d.plan,4,d.stack,z14,d.start,d.at_,z3,Aj u,d.want,d.utf,d.end_⟩:Dcd) 9 d.at_)),vO 2]) z12 (Ls (A8 (⟨d.plan,4,d.stack,z14,d.start,d.at_,z3,Aj u,d.want,d.utf,d.end_⟩:Dcd) 9 d.at_) [A2 9 d.at_]) z13) (Lf (.tup [.agg (.own 0::zi d.plan.root::zi d.plan.deep::zi d.plan.most::zi 4:: .own 1:: .int .u64 0::zi 0::zi d.start::zi d.at_::zi z3.number::zi z3.kind:: .bool z3.rep:: .bool z3.packed::zi z3.msg::zi z15::z8),vO 2]) z12 z23 z13)) ((Fp 177 [vI z15] [] z25 [])∧z24∧z4∧z17∧Bc z7 ((Fp 253 [.agg (.own 0::zi d.plan.root::zi d.plan.deep::zi d.plan.most::zi 5:: .own 1:: .int .u64 0::zi 0::zi d.start::zi d.at_::zi z3.number::zi z3.kind:: .bool z3.rep:: .bool z3.packed::zi z3.msg::zi z15::z8),vI 9,vI d.at_] (L2 d) (.tup [.agg (Ad 2 3 (A8 (⟨d.plan,5,d.stack,z14,d.start,d.at_,z3,Aj u,d.want,d.utf,d.end_⟩:Dcd) 9 d.at_)),vO 4]) (.dead:: .dead::Ls (A8 (⟨d.plan,5,d.stack,z14,d.start,d.at_,z3,Aj u,d.want,d.utf,d.end_⟩:Dcd) 9 d.at_) [A2 9 d.at_]))∧Lf (.tup [.agg (Ad 0 1 (A8 (⟨d.plan,5,d.stack,z14,d.start,d.at_,z3,Aj u,d.want,d.utf,d.end_⟩:Dcd) 9 d.at_)),vO 2]) z12 (Ls (A8 (⟨d.plan,5,d.stack,z14,d.start,d.at_,z3,Aj u,d.want,d.utf,d.end_⟩:Dcd) 9 d.at_) [A2 9 d.at_]) z13) (Lf (.tup [.agg (.own 0::zi d.plan.root::zi d.plan.deep::zi d.plan.most::zi 5:: .own 1:: .int .u64 0::zi 0::zi d.start::zi d.at_::zi z3.number::zi z3.kind:: .bool z3.rep:: .bool z3.packed::zi z3.msg::zi z15::z8),vO 2]) z12 z23 z13)))))))))) Q4 ?_
 refine⟨(Lw d Q2 (Eh hpt.2.1) Q2),(Tc d Q2 Q2),(by simp[hp1]),(Aj4 _ Q2),fun h1=>have q1:=Ao h1;?_,fun h1=>have q1:=An h1;?_⟩
 refine zD ((Ea ⟨d,[]⟩ u).d) (A8 (⟨d.plan,d.mode,d.stack,(⟨0,0⟩:Scn),d.start,d.at_,d.field,d.wire,d.want,d.utf,d.end_⟩:Dcd) 2 d.start) ((Ea ⟨d,[]⟩ u).out) [A2 2 d.start] (fun hm1 hm2=>⟨(C6 (⟨d.plan,d.mode,d.stack,(⟨0,0⟩:Scn),d.start,d.at_,d.field,d.wire,d.want,d.utf,d.end_⟩:Dcd) _ _),Q6,Q10⟩) ?_ ?_
 rotate_left 2
 refine dsp (fun h2 p2=>?_) fun h2 p2=>?_
 refine zD ((Ea ⟨d,[]⟩ u).d) (A8 (⟨d.plan,d.mode,d.stack,(⟨0,0⟩:Scn),d.start,d.at_,d.field,d.wire,d.want,d.utf,d.end_⟩:Dcd) 2 d.start) ((Ea ⟨d,[]⟩ u).out) [A2 2 d.start] (fun hm1 hm2=>⟨(C6 (⟨d.plan,d.mode,d.stack,(⟨0,0⟩:Scn),d.start,d.at_,d.field,d.wire,d.want,d.utf,d.end_⟩:Dcd) _ _),Q6,Q10⟩) ?_ ?_
 rotate_left 2
 refine⟨(Bh (l:=d.stack) (i:=Int.toNat (((List.length d.stack:Nat):Int)-1)) Q2),fun x1 hx1=>?_⟩
 have hll:=Jb (d:=d) (by rw[←hx1];congr 1;omega)
 have hix:Int.toNat ((d.stack.length:Int)-1)=d.stack.length-1:=by omega
 refine⟨(Ac Q2 Q2),(Ac Q2 Q2),hx1,Q2,hx1,Q2,(Vu d.plan.shapes _ _ Q2 (Dt hpt.2.1)),(Vu d.plan.shapes _ _ Q2 (Dt hpt.2.1)),rfl,rfl,(Ab6 _),fun h3=>have q3:=Ao h3;?_,fun h3=>have q3:=An h3;?_⟩
 refine zD ((Ea ⟨d,[]⟩ u).d) (A8 (⟨d.plan,d.mode,d.stack,(⟨0,0⟩:Scn),d.start,d.at_,d.field,d.wire,d.want,d.utf,d.end_⟩:Dcd) 3 d.start) ((Ea ⟨d,[]⟩ u).out) [A2 3 d.start] (fun hm1 hm2=>⟨(C6 (⟨d.plan,d.mode,d.stack,(⟨0,0⟩:Scn),d.start,d.at_,d.field,d.wire,d.want,d.utf,d.end_⟩:Dcd) _ _),Q6,Q10⟩) ?_ ?_
 rotate_left 2
 refine⟨fun h4=>?_,fun h4=>?_⟩
 refine⟨(Zx ((fieldAt d.plan.shapes x1.msg (Bo u)).getD fld0) _ Q2),fun h5=>have q5:=Ao h5;?_,fun h5=>have q5:=An h5;?_⟩
 refine zD ((Ea ⟨d,[]⟩ u).d) (A8 (⟨d.plan,d.mode,d.stack,(⟨0,0⟩:Scn),d.start,d.at_,d.field,d.wire,d.want,d.utf,d.end_⟩:Dcd) 4 d.start) ((Ea ⟨d,[]⟩ u).out) [A2 4 d.start] (fun hm1 hm2=>⟨(C6 (⟨d.plan,d.mode,d.stack,(⟨0,0⟩:Scn),d.start,d.at_,d.field,d.wire,d.want,d.utf,d.end_⟩:Dcd) _ _),Q6,Q10⟩) ?_ ?_
 rotate_left 2
 refine dsp (fun h6 p6=>?_) fun h6 p6=>?_
 refine⟨(Ac Q2 Q2),hx1,Q2,dsp (fun h7 p7=>?_) fun h7 p7=>?_⟩
 refine zD ((Ea ⟨d,[]⟩ u).d) (A8 (⟨d.plan,3,d.stack,(⟨0,0⟩:Scn),d.start,d.at_,((fieldAt d.plan.shapes x1.msg (Bo u)).getD fld0),Aj u,d.want,d.utf,d.end_⟩:Dcd) 9 d.at_) ((Ea ⟨d,[]⟩ u).out) [A2 9 d.at_] (fun hm1 hm2=>⟨(C6 (⟨d.plan,3,d.stack,(⟨0,0⟩:Scn),d.start,d.at_,((fieldAt d.plan.shapes x1.msg (Bo u)).getD fld0),Aj u,d.want,d.utf,d.end_⟩:Dcd) _ _),Q6,Q10⟩) ?_ ?_
 rotate_left 2
 refine zD ((Ea ⟨d,[]⟩ u).d) (⟨d.plan,3,d.stack,(⟨0,0⟩:Scn),d.start,d.at_,((fieldAt d.plan.shapes x1.msg (Bo u)).getD fld0),Aj u,d.want,d.utf,d.end_⟩:Dcd) ((Ea ⟨d,[]⟩ u).out) ([]:List Ev) (fun hm1 hm2=>⟨Q6,Q10⟩) ?_ ?_
 rotate_left 2
 refine dsp (fun h7 p7=>?_) fun h7 p7=>?_
 refine⟨(Ac Q2 Q2),hx1,Q2,dsp (fun h8 p8=>?_) fun h8 p8=>?_⟩
 refine zD ((Ea ⟨d,[]⟩ u).d) (A8 (⟨d.plan,4,d.stack,(⟨0,0⟩:Scn),d.start,d.at_,((fieldAt d.plan.shapes x1.msg (Bo u)).getD fld0),Aj u,d.want,d.utf,d.end_⟩:Dcd) 9 d.at_) ((Ea ⟨d,[]⟩ u).out) [A2 9 d.at_] (fun hm1 hm2=>⟨(C6 (⟨d.plan,4,d.stack,(⟨0,0⟩:Scn),d.start,d.at_,((fieldAt d.plan.shapes x1.msg (Bo u)).getD fld0),Aj u,d.want,d.utf,d.end_⟩:Dcd) _ _),Q6,Q10⟩) ?_ ?_
 rotate_left 2
 refine zD ((Ea ⟨d,[]⟩ u).d) (⟨d.plan,4,d.stack,(⟨0,0⟩:Scn),d.start,d.at_,((fieldAt d.plan.shapes x1.msg (Bo u)).getD fld0),Aj u,d.want,d.utf,d.end_⟩:Dcd) ((Ea ⟨d,[]⟩ u).out) ([]:List Ev) (fun hm1 hm2=>⟨Q6,Q10⟩) ?_ ?_
 rotate_left 2
 refine⟨(Du _),(Ac Q2 Q2),hx1,Q2,dsp (fun h8 p8=>?_) fun h8 p8=>?_⟩
 refine zD ((Ea ⟨d,[]⟩ u).d) (A8 (⟨d.plan,5,d.stack,(⟨0,0⟩:Scn),d.start,d.at_,((fieldAt d.plan.shapes x1.msg (Bo u)).getD fld0),Aj u,d.want,d.utf,d.end_⟩:Dcd) 9 d.at_) ((Ea ⟨d,[]⟩ u).out) [A2 9 d.at_] (fun hm1 hm2=>⟨(C6 (⟨d.plan,5,d.stack,(⟨0,0⟩:Scn),d.start,d.at_,((fieldAt d.plan.shapes x1.msg (Bo u)).getD fld0),Aj u,d.want,d.utf,d.end_⟩:Dcd) _ _),Q6,Q10⟩) ?_ ?_
 rotate_left 2
 refine zD ((Ea ⟨d,[]⟩ u).d) (⟨d.plan,5,d.stack,(⟨0,0⟩:Scn),d.start,d.at_,((fieldAt d.plan.shapes x1.msg (Bo u)).getD fld0),Aj u,d.want,d.utf,d.end_⟩:Dcd) ((Ea ⟨d,[]⟩ u).out) ([]:List Ev) (fun hm1 hm2=>⟨Q6,Q10⟩) ?_ ?_
 rotate_left 2
 refine dsp (fun h5 p5=>?_) fun h5 p5=>?_
 refine⟨(Ac Q2 Q2),hx1,Q2,dsp (fun h6 p6=>?_) fun h6 p6=>?_⟩
 refine zD ((Ea ⟨d,[]⟩ u).d) (A8 (⟨d.plan,3,d.stack,(⟨0,0⟩:Scn),d.start,d.at_,((fieldAt d.plan.shapes x1.msg (Bo u)).getD fld0),Aj u,d.want,d.utf,d.end_⟩:Dcd) 9 d.at_) ((Ea ⟨d,[]⟩ u).out) [A2 9 d.at_] (fun hm1 hm2=>⟨(C6 (⟨d.plan,3,d.stack,(⟨0,0⟩:Scn),d.start,d.at_,((fieldAt d.plan.shapes x1.msg (Bo u)).getD fld0),Aj u,d.want,d.utf,d.end_⟩:Dcd) _ _),Q6,Q10⟩) ?_ ?_
 rotate_left 2
 refine zD ((Ea ⟨d,[]⟩ u).d) (⟨d.plan,3,d.stack,(⟨0,0⟩:Scn),d.start,d.at_,((fieldAt d.plan.shapes x1.msg (Bo u)).getD fld0),Aj u,d.want,d.utf,d.end_⟩:Dcd) ((Ea ⟨d,[]⟩ u).out) ([]:List Ev) (fun hm1 hm2=>⟨Q6,Q10⟩) ?_ ?_
 rotate_left 2
 refine dsp (fun h6 p6=>?_) fun h6 p6=>?_
 refine⟨(Ac Q2 Q2),hx1,Q2,dsp (fun h7 p7=>?_) fun h7 p7=>?_⟩
 refine zD ((Ea ⟨d,[]⟩ u).d) (A8 (⟨d.plan,4,d.stack,(⟨0,0⟩:Scn),d.start,d.at_,((fieldAt d.plan.shapes x1.msg (Bo u)).getD fld0),Aj u,d.want,d.utf,d.end_⟩:Dcd) 9 d.at_) ((Ea ⟨d,[]⟩ u).out) [A2 9 d.at_] (fun hm1 hm2=>⟨(C6 (⟨d.plan,4,d.stack,(⟨0,0⟩:Scn),d.start,d.at_,((fieldAt d.plan.shapes x1.msg (Bo u)).getD fld0),Aj u,d.want,d.utf,d.end_⟩:Dcd) _ _),Q6,Q10⟩) ?_ ?_
 rotate_left 2
 refine zD ((Ea ⟨d,[]⟩ u).d) (⟨d.plan,4,d.stack,(⟨0,0⟩:Scn),d.start,d.at_,((fieldAt d.plan.shapes x1.msg (Bo u)).getD fld0),Aj u,d.want,d.utf,d.end_⟩:Dcd) ((Ea ⟨d,[]⟩ u).out) ([]:List Ev) (fun hm1 hm2=>⟨Q6,Q10⟩) ?_ ?_
 rotate_left 2
 refine⟨(Du _),(Ac Q2 Q2),hx1,Q2,dsp (fun h7 p7=>?_) fun h7 p7=>?_⟩
 refine zD ((Ea ⟨d,[]⟩ u).d) (A8 (⟨d.plan,5,d.stack,(⟨0,0⟩:Scn),d.start,d.at_,((fieldAt d.plan.shapes x1.msg (Bo u)).getD fld0),Aj u,d.want,d.utf,d.end_⟩:Dcd) 9 d.at_) ((Ea ⟨d,[]⟩ u).out) [A2 9 d.at_] (fun hm1 hm2=>⟨(C6 (⟨d.plan,5,d.stack,(⟨0,0⟩:Scn),d.start,d.at_,((fieldAt d.plan.shapes x1.msg (Bo u)).getD fld0),Aj u,d.want,d.utf,d.end_⟩:Dcd) _ _),Q6,Q10⟩) ?_ ?_
 rotate_left 2
 refine zD ((Ea ⟨d,[]⟩ u).d) (⟨d.plan,5,d.stack,(⟨0,0⟩:Scn),d.start,d.at_,((fieldAt d.plan.shapes x1.msg (Bo u)).getD fld0),Aj u,d.want,d.utf,d.end_⟩:Dcd) ((Ea ⟨d,[]⟩ u).out) ([]:List Ev) (fun hm1 hm2=>⟨Q6,Q10⟩) ?_ ?_
 rotate_left 2
 all_goals first|((unfold Ea;simp only[hll.1,hll.2];(repeat' split)<;>first|(simp_all[Az,A0,A8,scn0];done)|(exfalso;simp_all[Az];omega)|grind[Az,A0,A8,scn0]))|(first|(simp_all[Ea,Az,A0,A8,scn0,utf0,Cg];done)|(grind[Ea,Az,A0,A8,scn0,utf0,Cg]))
set_option maxHeartbeats 1600000 in
theorem Ajb (d:Dcd) (u:Int) (hp1:Bd d=true) (hp2:(0:Int)≤u∧u≤18446744073709551615) (hp3:((d).field=fld0∨H5 (d).plan.shapes (d).field=true)):Fun Tryz.prog 289 [.agg (Bu d),.c (.int .u64 u)] [] (.tup [.agg (Ad 0 1 (Cn ⟨d,[]⟩ u).d),vO 2]) [.tree (Cn ⟨d,[]⟩ u).d.plan.shapes,.lst .lev (Cn ⟨d,[]⟩ u).d.stack,.lst .ev (Cn ⟨d,[]⟩ u).out]:=by
 have hN:Bb=274877906944:=rfl
 have hlv:=B3 hp1
 have hpt:=Cc hlv.1
 have htb:=G5 hp1
 have hwb:=D5 (B6 d.field.kind)
 refine Ap Tryz.func289 Q4 Q4 (w:=let zi:Int→C:= .int .i64;let z6:List C:=[zi d.end_.kind,zi d.end_.field,.int .u64 d.end_.bits,zi d.end_.len,.str d.end_.text,zi d.end_.code,zi d.end_.at_];let z5:List C:= .own 1:: .int .u64 0::zi 0::zi d.start::zi d.at_::zi d.field.number::zi d.field.kind:: .bool d.field.rep:: .bool d.field.packed::zi d.field.msg::zi d.wire::zi u::zi d.utf.want::zi d.utf.low::zi d.utf.high::z6;let z7:List C:=[zi d.field.number,.int .u64 0,zi u,.str [],zi 0,zi 0];let z13:=((List.length d.stack:Nat):Int);let z14:S:= .tup [.agg (Ad 0 1 (Cn ⟨d,[]⟩ u).d),vO 2];let z15:=Ls (Cn ⟨d,[]⟩ u).d (Cn ⟨d,[]⟩ u).out;let z23:=B6 d.field.kind;let z24:=(⟨6,d.field.number,0,u,[],0,0⟩:Ev);let z27:=(0:Int)≤z13-1;let z28:=(⟨0,0⟩:Scn);let z8:=(⟨d.plan,8,d.stack,z28,d.start,d.at_,d.field,d.wire,u,d.utf,d.end_⟩:Dcd);let z9:=Ae ⟨(⟨d.plan,6,d.stack,z28,d.start,d.at_,d.field,d.wire,u,(⟨0,0,0⟩:Utf),d.end_⟩:Dcd),[]⟩;let z10:=A8 (⟨d.plan,d.mode,d.stack,z28,d.start,d.at_,d.field,d.wire,d.want,d.utf,d.end_⟩:Dcd) 8 d.start;let z11:=Ae ⟨(⟨d.plan,7,d.stack,z28,d.start,d.at_,d.field,d.wire,u,d.utf,d.end_⟩:Dcd),[]⟩;let z12:=A8 (⟨d.plan,d.mode,d.stack,z28,d.start,d.at_,d.field,d.wire,u,d.utf,d.end_⟩:Dcd) 6 d.start;let z16:=(⟨3,d.field.number,0,u,[],0,0⟩:Ev)::z9.out;let z17:=Ae ⟨z8,[]⟩;let z18:List Blk:= .dead:: .dead::Ls z10 [A2 8 d.start];let z19:S:= .tup [.agg (Ad 2 3 z17.d),vO 4];let z20:S:= .tup [.agg (Ad 2 3 z9.d),vO 4];let z21:S:= .tup [.agg (Ad 2 3 z10),vO 4];let z22:List Blk:= .dead:: .dead::Ls z17.d z17.out;let z25:List Blk:= .dead:: .dead::Ls z9.d z16;let z26:=A8 z8 9 d.at_;let z29:=(⟨d.field.msg,u⟩:Lev);let z30:S:= .tup [.agg (Ad 2 3 z11.d),vO 4];let z31:S:= .tup [.agg (Ad 0 1 z17.d),vO 2];let z32:List Blk:= .dead:: .dead::Ls z12 [A2 6 d.start];let z33:S:= .tup [.agg (Ad 0 1 z9.d),vO 2];let z34:S:= .tup [.agg (Ad 2 3 z12),vO 4];let z35:S:= .tup [.agg (Ad 2 3 z26),vO 4];let z36:S:= .tup [.agg (Ad 0 1 z10),vO 2];let z37:List Blk:= .dead:: .dead::Ls z26 [A2 9 d.at_];(.seg [.call [] (.v (.agg (Ad 0 1 d))) (L2 d),.call [] (.v (vB (Bd d))) [],.br false,.as 22 (.v (vI (z13-1)))] (.br (.seg [.call [2,3] z21 z18] (.leaf () [5,6,7])) (.intro (Sx (d.stack[Int.toNat (z13-1)]?)) fun x1=>let z1:=Ae ⟨(⟨d.plan,2,(List.set d.stack (Int.toNat (z13-1)) (⟨x1.msg,x1.left-u⟩:Lev))++[z29],z28,d.start,d.at_,d.field,d.wire,0,d.utf,d.end_⟩:Dcd),[]⟩;.seg [.el .lev x1,.as 33 (.v (.c (.int .u64 x1.left)))] (.br (.seg [.call [2,3] z21 z18] (.leaf () [5,6,7])) (.seg [.as 45 (.v (vI u))] (.br (.seg [.call [2,3] z30 (.dead:: .dead::Ls z11.d z11.out)] (.leaf () [6,7,8])) (.br (.br (.seg [.call [2,3] z34 z32] (.leaf () [6,7,8])) (.seg [.ord (os 14 [13]) [],.el .lev x1,.as 84 (.v (vI (x1.left-u))),.el .lev x1,.ty .lev,.ty .lev,.call [2,7] (.tup [.agg (Ad 2 3 z1.d),vO 4]) (.dead:: .dead::Ls z1.d (z24::z1.out))] (.leaf () [8,9,10]))) (.br (.seg [.call [2,3] z20 z25] (.leaf () [6,7,8])) (.br (.seg [.call [2,3] z20 z25] (.leaf () [6,7,8])) (.br (.seg [.call [] (.v (vI z23)) [],.call [] (.v (vI (Az z23))) []] (.br (.seg [.call [2,3] z35 z37] (.leaf () [6,7,8])) (.seg [.call [2,3] z19 z22] (.leaf () [6,7,8])))) (.seg [.call [2,3] z19 z22] (.leaf () [6,7,8]))))))))))),(Fp 83 [.agg (Bu d)] [] (.v (.agg (Ad 0 1 d))) (L2 d))∧(Fp 292 [.agg (Bu d)] [] (.v (vB (Bd d))) [])∧((!(Bd d))=false)∧(wI (z13-1))∧Bc (decide (z13-1<0)) ((Fp 253 [.agg (.own 0::zi d.plan.root::zi d.plan.deep::zi d.plan.most::zi d.mode:: .own 1:: .int .u64 0::zi 0::zi d.start::zi d.at_::zi d.field.number::zi d.field.kind:: .bool d.field.rep:: .bool d.field.packed::zi d.field.msg::zi d.wire::zi d.want::zi d.utf.want::zi d.utf.low::zi d.utf.high::z6),vI 8,vI d.start] (L2 d) z21 z18)∧Lf z36 z14 (Ls z10 [A2 8 d.start]) z15) (El (d.stack[Int.toNat (z13-1)]?) fun x1=>(let z3:=d.stack[Int.toNat (z13-1)]? =some x1;let z4:=List.set d.stack (Int.toNat (z13-1)) (⟨x1.msg,x1.left-u⟩:Lev);let z2:=Ae ⟨(⟨d.plan,2,z4++[z29],z28,d.start,d.at_,d.field,d.wire,0,d.utf,d.end_⟩:Dcd),[]⟩;z3∧z27∧(wU (x1.left))∧Bc (decide (x1.left<u)) ((Fp 253 [.agg (.own 0::zi d.plan.root::zi d.plan.deep::zi d.plan.most::zi d.mode:: .own 1:: .int .u64 0::zi 0::zi d.start::zi d.at_::zi d.field.number::zi d.field.kind:: .bool d.field.rep:: .bool d.field.packed::zi d.field.msg::zi d.wire::zi d.want::zi d.utf.want::zi d.utf.low::zi d.utf.high::z6),vI 8,vI d.start] (L2 d) z21 z18)∧Lf z36 z14 (Ls z10 [A2 8 d.start]) z15) ((wI (u))∧Bc (decide (d.field.number=0)&&(decide (d.field.kind=0)&&(decide (d.field.rep=false)&&(decide (d.field.packed=false)&&decide (d.field.msg=0))))) ((Fp 251 [.agg (.own 0::zi d.plan.root::zi d.plan.deep::zi d.plan.most::zi 7::z5)] (L2 d) z30 (.dead:: .dead::Ls z11.d z11.out))∧Lf (.tup [.agg (Ad 0 1 z11.d),vO 2]) z14 (Ls z11.d z11.out) z15) (Bc (decide (d.field.kind=8)) (Bc (decide (d.plan.deep≤z13)) ((Fp 253 [.agg (.own 0::zi d.plan.root::zi d.plan.deep::zi d.plan.most::zi d.mode::z5),vI 6,vI d.start] (L2 d) z34 z32)∧Lf (.tup [.agg (Ad 0 1 z12),vO 2]) z14 (Ls z12 [A2 6 d.start]) z15) (z3∧z27∧z3∧z27∧(wI (x1.left-u))∧(wI (x1.left-u))∧(z13-1<z13)∧z27∧(z13-1<z13)∧z27∧z3∧(List.length z4+List.length [z29]≤Bb)∧(Fp 254 [.agg (.own 0::zi d.plan.root::zi d.plan.deep::zi d.plan.most::zi 2:: .own 1:: .int .u64 0::zi 0::zi d.start::zi d.at_::zi d.field.number::zi d.field.kind:: .bool d.field.rep:: .bool d.field.packed::zi d.field.msg::zi d.wire::zi 0::zi d.utf.want::zi d.utf.low::zi d.utf.high::z6),.agg (zi 6::z7)] [.tree d.plan.shapes,.lst .lev (z4++[z29])] (.tup [.agg (Ad 2 3 z2.d),vO 4]) (.dead:: .dead::Ls z2.d (z24::z2.out)))∧Lf (.tup [.agg (Ad 0 1 z2.d),vO 2]) z14 (Ls z2.d (z24::z2.out)) z15)) (Bc (decide (d.field.kind=6)) ((Fp 254 [.agg (.own 0::zi d.plan.root::zi d.plan.deep::zi d.plan.most::zi 6:: .own 1:: .int .u64 0::zi 0::zi d.start::zi d.at_::zi d.field.number::zi d.field.kind:: .bool d.field.rep:: .bool d.field.packed::zi d.field.msg::zi d.wire::zi u::zi 0::zi 0::zi 0::z6),.agg (zi 3::z7)] (L2 d) z20 z25)∧Lf z33 z14 (Ls z9.d z16) z15) (Bc (decide (d.field.kind=7)) ((Fp 254 [.agg (.own 0::zi d.plan.root::zi d.plan.deep::zi d.plan.most::zi 6:: .own 1:: .int .u64 0::zi 0::zi d.start::zi d.at_::zi d.field.number::zi d.field.kind:: .bool d.field.rep:: .bool d.field.packed::zi d.field.msg::zi d.wire::zi u::zi 0::zi 0::zi 0::z6),.agg (zi 3::z7)] (L2 d) z20 z25)∧Lf z33 z14 (Ls z9.d z16) z15) (Bc (decide (0<u)) ((Fp 178 [vI d.field.kind] [] (.v (vI z23)) [])∧(Fp 177 [vI z23] [] (.v (vI (Az z23))) [])∧Bc (decide (u<Az z23)) ((Fp 253 [.agg (.own 0::zi d.plan.root::zi d.plan.deep::zi d.plan.most::zi 8::z5),vI 9,vI d.at_] (L2 d) z35 z37)∧Lf (.tup [.agg (Ad 0 1 z26),vO 2]) z14 (Ls z26 [A2 9 d.at_]) z15) ((Fp 251 [.agg (.own 0::zi d.plan.root::zi d.plan.deep::zi d.plan.most::zi 8::z5)] (L2 d) z19 z22)∧Lf z31 z14 (Ls z17.d z17.out) z15)) ((Fp 251 [.agg (.own 0::zi d.plan.root::zi d.plan.deep::zi d.plan.most::zi 8::z5)] (L2 d) z19 z22)∧Lf z31 z14 (Ls z17.d z17.out) z15)))))))))) Q4 ?_
 refine⟨(Lw d Q2 (Eh hpt.2.1) Q2),(Tc d Q2 Q2),(by simp[hp1]),(Ac Q2 Q2),dsp (fun h1 p1=>?_) fun h1 p1=>?_⟩
 refine zD ((Cn ⟨d,[]⟩ u).d) (A8 (⟨d.plan,d.mode,d.stack,(⟨0,0⟩:Scn),d.start,d.at_,d.field,d.wire,d.want,d.utf,d.end_⟩:Dcd) 8 d.start) ((Cn ⟨d,[]⟩ u).out) [A2 8 d.start] (fun hm1 hm2=>⟨(C6 (⟨d.plan,d.mode,d.stack,(⟨0,0⟩:Scn),d.start,d.at_,d.field,d.wire,d.want,d.utf,d.end_⟩:Dcd) _ _),Q6,Q10⟩) ?_ ?_
 rotate_left 2
 refine⟨(Bh (l:=d.stack) (i:=Int.toNat (((List.length d.stack:Nat):Int)-1)) Q2),fun x1 hx1=>?_⟩
 have hll:=Jb (d:=d) (by rw[←hx1];congr 1;omega)
 have hix:Int.toNat ((d.stack.length:Int)-1)=d.stack.length-1:=by omega
 refine⟨hx1,Q2,(Bv Q2 Q2),dsp (fun h2 p2=>?_) fun h2 p2=>?_⟩
 refine zD ((Cn ⟨d,[]⟩ u).d) (A8 (⟨d.plan,d.mode,d.stack,(⟨0,0⟩:Scn),d.start,d.at_,d.field,d.wire,d.want,d.utf,d.end_⟩:Dcd) 8 d.start) ((Cn ⟨d,[]⟩ u).out) [A2 8 d.start] (fun hm1 hm2=>⟨(C6 (⟨d.plan,d.mode,d.stack,(⟨0,0⟩:Scn),d.start,d.at_,d.field,d.wire,d.want,d.utf,d.end_⟩:Dcd) _ _),Q6,Q10⟩) ?_ ?_
 rotate_left 2
 refine⟨(Ac Q2 Q2),fun h3=>have p3:=(Ch dT (Ch dT (Ch dT (Ch dT dT)))).1 h3;?_,fun h3=>have p3:=(Ci dT (Ci dT (Ci dT (Ci dT dF)))).1 h3;?_⟩
 refine zM Mac.d Mac.out (Cn ⟨d,[]⟩ u) (Ae ⟨(⟨d.plan,7,d.stack,(⟨0,0⟩:Scn),d.start,d.at_,d.field,d.wire,u,d.utf,d.end_⟩:Dcd),[]⟩) (fun hm1 hm2=>⟨(Hi (⟨d.plan,7,d.stack,(⟨0,0⟩:Scn),d.start,d.at_,d.field,d.wire,u,d.utf,d.end_⟩:Dcd) Q7),Q6,Q10⟩) ?_ ?_
 rotate_left 2
 refine dsp (fun h4 p4=>?_) fun h4 p4=>?_
 refine dsp (fun h5 p5=>?_) fun h5 p5=>?_
 refine zD ((Cn ⟨d,[]⟩ u).d) (A8 (⟨d.plan,d.mode,d.stack,(⟨0,0⟩:Scn),d.start,d.at_,d.field,d.wire,u,d.utf,d.end_⟩:Dcd) 6 d.start) ((Cn ⟨d,[]⟩ u).out) [A2 6 d.start] (fun hm1 hm2=>⟨(C6 (⟨d.plan,d.mode,d.stack,(⟨0,0⟩:Scn),d.start,d.at_,d.field,d.wire,u,d.utf,d.end_⟩:Dcd) _ _),Q6,Q10⟩) ?_ ?_
 rotate_left 2
 refine zD ((Cn ⟨d,[]⟩ u).d) ((Ae ⟨(⟨d.plan,2,(List.set d.stack (Int.toNat (((List.length d.stack:Nat):Int)-1)) (⟨x1.msg,x1.left-u⟩:Lev))++[(⟨d.field.msg,u⟩:Lev)],(⟨0,0⟩:Scn),d.start,d.at_,d.field,d.wire,0,d.utf,d.end_⟩:Dcd),[]⟩).d) ((Cn ⟨d,[]⟩ u).out) ((⟨6,d.field.number,0,u,[],0,0⟩:Ev)::(Ae ⟨(⟨d.plan,2,(List.set d.stack (Int.toNat (((List.length d.stack:Nat):Int)-1)) (⟨x1.msg,x1.left-u⟩:Lev))++[(⟨d.field.msg,u⟩:Lev)],(⟨0,0⟩:Scn),d.start,d.at_,d.field,d.wire,0,d.utf,d.end_⟩:Dcd),[]⟩).out) (fun hm1 hm2=>⟨hx1,Q2,hx1,Q2,(Ac Q2 Q2),(Ac Q2 Q2),Q2,Q2,Q2,Q2,hx1,Q77,(Hj (⟨d.plan,2,(List.set d.stack (Int.toNat (((List.length d.stack:Nat):Int)-1)) (⟨x1.msg,x1.left-u⟩:Lev))++[(⟨d.field.msg,u⟩:Lev)],(⟨0,0⟩:Scn),d.start,d.at_,d.field,d.wire,0,d.utf,d.end_⟩:Dcd) (⟨6,d.field.number,0,u,[],0,0⟩:Ev) Q20),Q6,Q10⟩) ?_ ?_
 rotate_left 2
 refine dsp (fun h5 p5=>?_) fun h5 p5=>?_
 refine zD ((Cn ⟨d,[]⟩ u).d) ((Ae ⟨(⟨d.plan,6,d.stack,(⟨0,0⟩:Scn),d.start,d.at_,d.field,d.wire,u,(⟨0,0,0⟩:Utf),d.end_⟩:Dcd),[]⟩).d) ((Cn ⟨d,[]⟩ u).out) ((⟨3,d.field.number,0,u,[],0,0⟩:Ev)::(Ae ⟨(⟨d.plan,6,d.stack,(⟨0,0⟩:Scn),d.start,d.at_,d.field,d.wire,u,(⟨0,0,0⟩:Utf),d.end_⟩:Dcd),[]⟩).out) (fun hm1 hm2=>⟨(Hj (⟨d.plan,6,d.stack,(⟨0,0⟩:Scn),d.start,d.at_,d.field,d.wire,u,(⟨0,0,0⟩:Utf),d.end_⟩:Dcd) (⟨3,d.field.number,0,u,[],0,0⟩:Ev) Q7),Q6,Q10⟩) ?_ ?_
 rotate_left 2
 refine dsp (fun h6 p6=>?_) fun h6 p6=>?_
 refine zD ((Cn ⟨d,[]⟩ u).d) ((Ae ⟨(⟨d.plan,6,d.stack,(⟨0,0⟩:Scn),d.start,d.at_,d.field,d.wire,u,(⟨0,0,0⟩:Utf),d.end_⟩:Dcd),[]⟩).d) ((Cn ⟨d,[]⟩ u).out) ((⟨3,d.field.number,0,u,[],0,0⟩:Ev)::(Ae ⟨(⟨d.plan,6,d.stack,(⟨0,0⟩:Scn),d.start,d.at_,d.field,d.wire,u,(⟨0,0,0⟩:Utf),d.end_⟩:Dcd),[]⟩).out) (fun hm1 hm2=>⟨(Hj (⟨d.plan,6,d.stack,(⟨0,0⟩:Scn),d.start,d.at_,d.field,d.wire,u,(⟨0,0,0⟩:Utf),d.end_⟩:Dcd) (⟨3,d.field.number,0,u,[],0,0⟩:Ev) Q7),Q6,Q10⟩) ?_ ?_
 rotate_left 2
 refine dsp (fun h7 p7=>?_) fun h7 p7=>?_
 refine⟨(P7 _),(Du _),dsp (fun h8 p8=>?_) fun h8 p8=>?_⟩
 refine zD ((Cn ⟨d,[]⟩ u).d) (A8 (⟨d.plan,8,d.stack,(⟨0,0⟩:Scn),d.start,d.at_,d.field,d.wire,u,d.utf,d.end_⟩:Dcd) 9 d.at_) ((Cn ⟨d,[]⟩ u).out) [A2 9 d.at_] (fun hm1 hm2=>⟨(C6 (⟨d.plan,8,d.stack,(⟨0,0⟩:Scn),d.start,d.at_,d.field,d.wire,u,d.utf,d.end_⟩:Dcd) _ _),Q6,Q10⟩) ?_ ?_
 rotate_left 2
 refine zM Mac.d Mac.out (Cn ⟨d,[]⟩ u) (Ae ⟨(⟨d.plan,8,d.stack,(⟨0,0⟩:Scn),d.start,d.at_,d.field,d.wire,u,d.utf,d.end_⟩:Dcd),[]⟩) (fun hm1 hm2=>⟨(Hi (⟨d.plan,8,d.stack,(⟨0,0⟩:Scn),d.start,d.at_,d.field,d.wire,u,d.utf,d.end_⟩:Dcd) Q7),Q6,Q10⟩) ?_ ?_
 rotate_left 2
 refine zM Mac.d Mac.out (Cn ⟨d,[]⟩ u) (Ae ⟨(⟨d.plan,8,d.stack,(⟨0,0⟩:Scn),d.start,d.at_,d.field,d.wire,u,d.utf,d.end_⟩:Dcd),[]⟩) (fun hm1 hm2=>⟨(Hi (⟨d.plan,8,d.stack,(⟨0,0⟩:Scn),d.start,d.at_,d.field,d.wire,u,d.utf,d.end_⟩:Dcd) Q7),Q6,Q10⟩) ?_ ?_
 rotate_left 2
 all_goals first|(simp_all[Cn,Zq,Zr,Cy,F2,A0,A8,scn0,utf0,Cg];done)|((have e0:d.field≠fld0:=(fun h=>by have:=congrArg Fld.kind h;simp only[fld0] at this;omega);have e1: ¬(d.stack.length=0∨Ds d<u):=(by omega);have e2: ¬d.plan.deep≤(d.stack.length:Int):=(by omega);unfold Cn;simp only;rw[if_neg e1,if_neg e0,if_pos (by assumption),if_neg e2,hll.1,hll.2];simp only[List.nil_append,Cg,hix];rfl))|((unfold Cn;simp only[hll.1,hll.2,hix,List.nil_append,Cg,Cy,F2];(repeat' split)<;>first|rfl|(exfalso;omega)|(simp_all[Zq,Zr,A0,A8,scn0,utf0,Cg];done)|(exfalso;simp_all;omega)|(exfalso;grind)|grind[Zq,Zr,A0,A8,scn0,utf0,Cg]))|(grind[Cn,Zq,Zr,Cy,F2,A0,A8,scn0,utf0,Cg])
theorem Vw (d:Dcd) (u:Int) (hp1:List.length (d).stack≤1000) (hp2:(0:Int)≤u∧u≤18446744073709551615):Fun Tryz.prog 286 [.agg (Ad 0 1 d),.c (.int .u64 u)] [.tree d.plan.shapes,.lst .lev d.stack] (.tup [.agg (Ad 2 3 (Ae (Bm ⟨d,[]⟩ u)).d),vO 4]) [.dead,.dead,.tree (Ae (Bm ⟨d,[]⟩ u)).d.plan.shapes,.lst .lev (Ae (Bm ⟨d,[]⟩ u)).d.stack,.lst .ev (Ae (Bm ⟨d,[]⟩ u)).out]:=by
 have hN:Bb=274877906944:=rfl
 refine Ap Tryz.func286 Q4 Q4 (w:=let zi:Int→C:= .int .i64;let z1:List C:=[.own 0,zi d.plan.root,zi d.plan.deep,zi d.plan.most,zi 2,.own 1,.int .u64 d.scan.bits,zi d.scan.have_,zi d.start,zi d.at_,zi d.field.number,zi d.field.kind,.bool d.field.rep,.bool d.field.packed,zi d.field.msg,zi d.wire,zi d.want,zi d.utf.want,zi d.utf.low,zi d.utf.high,zi d.end_.kind,zi d.end_.field,.int .u64 d.end_.bits,zi d.end_.len,.str d.end_.text,zi d.end_.code,zi d.end_.at_];let z2:=Ae ⟨(⟨d.plan,2,d.stack,d.scan,d.start,d.at_,d.field,d.wire,d.want,d.utf,d.end_⟩:Dcd),[]⟩;let z3:=Ae (Bm ⟨d,[]⟩ u);let z5:S:= .tup [.agg (Ad 2 3 z2.d),vO 4];let z6:=Ae ⟨d,[]⟩;let z4:S:= .tup [.agg (Ad 2 3 z6.d),vO 4];let z7:=decide (d.field.number=0)&&(decide (d.field.kind=0)&&(decide (d.field.rep=false)&&(decide (d.field.packed=false)&&decide (d.field.msg=0))));let z8:=Gi d.field u;let z9:S:= .tup [.agg (Ad 2 3 z3.d),vO 4];let z10:List Blk:= .dead:: .dead::Ls z3.d z3.out;let z11:=fr (.one 4 (.one 5 (.first 6 (.first 7 (.one 8 (.first 9 (.done))))))) 0 4;let z12:List Blk:= .dead:: .dead::Ls z2.d (z8::z2.out);let z13:List Blk:= .dead:: .dead::Ls z6.d (z8::z6.out);let z14:List Blk:= .dead:: .dead::Ls z2.d z2.out;let z15:List Blk:= .dead:: .dead::Ls z6.d z6.out;let z16:S:= .v (.agg (cEv z8));(.br (.br (.seg [.call [0,1] z5 z14] (.leaf () [0,1,4,5,6])) (.seg [.tree z11 8 [0,1],.call [] z16 [],.call [0,1] z5 z12] (.leaf () [0,1,4,5,6]))) (.br (.seg [.call [0,1] z4 z15] (.leaf () [0,1,4,5,6])) (.seg [.tree z11 8 [0,1],.call [] z16 [],.call [0,1] z4 z13] (.leaf () [0,1,4,5,6]))),Bc (!decide (d.mode=8)) (Bc z7 ((Fp 251 [.agg z1] (L2 d) z5 z14)∧Lf z5 z9 z14 z10) ((Fp 195 [.agg (Fr d.field),.c (.int .u64 u)] [] z16 [])∧(Fp 254 [.agg z1,.agg (cEv z8)] (L2 d) z5 z12)∧Lf z5 z9 z12 z10)) (Bc z7 ((Fp 251 [.agg (Ad 0 1 d)] (L2 d) z4 z15)∧Lf z4 z9 z15 z10) ((Fp 195 [.agg (Fr d.field),.c (.int .u64 u)] [] z16 [])∧(Fp 254 [.agg (Ad 0 1 d),.agg (cEv z8)] (L2 d) z4 z13)∧Lf z4 z9 z13 z10)))) Q4 ?_
 refine⟨fun h1=>have q1:=Ao h1;have p1:=of_decide_eq_false q1;?_,fun h1=>have q1:=An h1;have p1:=of_decide_eq_true q1;?_⟩
 refine⟨fun h2=>have p2:=(Ch dT (Ch dT (Ch dT (Ch dT dT)))).1 h2;?_,fun h2=>have p2:=(Ci dT (Ci dT (Ci dT (Ci dT dF)))).1 h2;?_⟩
 refine zM Mac.d Mac.out (Ae (Bm ⟨d,[]⟩ u)) (Ae ⟨(⟨d.plan,2,d.stack,d.scan,d.start,d.at_,d.field,d.wire,d.want,d.utf,d.end_⟩:Dcd),[]⟩) (fun hm1 hm2=>⟨(Hi (⟨d.plan,2,d.stack,d.scan,d.start,d.at_,d.field,d.wire,d.want,d.utf,d.end_⟩:Dcd) Q7),Q6,Q10⟩) ?_ ?_
 rotate_left 2
 refine zD ((Ae (Bm ⟨d,[]⟩ u)).d) ((Ae ⟨(⟨d.plan,2,d.stack,d.scan,d.start,d.at_,d.field,d.wire,d.want,d.utf,d.end_⟩:Dcd),[]⟩).d) ((Ae (Bm ⟨d,[]⟩ u)).out) ((Gi d.field u)::(Ae ⟨(⟨d.plan,2,d.stack,d.scan,d.start,d.at_,d.field,d.wire,d.want,d.utf,d.end_⟩:Dcd),[]⟩).out) (fun hm1 hm2=>⟨(S7 d.field _ Q2),(Hj (⟨d.plan,2,d.stack,d.scan,d.start,d.at_,d.field,d.wire,d.want,d.utf,d.end_⟩:Dcd) (Gi d.field u) Q7),Q6,Q10⟩) ?_ ?_
 rotate_left 2
 refine⟨fun h2=>have p2:=(Ch dT (Ch dT (Ch dT (Ch dT dT)))).1 h2;?_,fun h2=>have p2:=(Ci dT (Ci dT (Ci dT (Ci dT dF)))).1 h2;?_⟩
 refine zM Mac.d Mac.out (Ae (Bm ⟨d,[]⟩ u)) (Ae ⟨d,[]⟩) (fun hm1 hm2=>⟨(Hi d Q2),Q6,Q10⟩) ?_ ?_
 rotate_left 2
 refine zD ((Ae (Bm ⟨d,[]⟩ u)).d) ((Ae ⟨d,[]⟩).d) ((Ae (Bm ⟨d,[]⟩ u)).out) ((Gi d.field u)::(Ae ⟨d,[]⟩).out) (fun hm1 hm2=>⟨(S7 d.field _ Q2),(Hj d (Gi d.field u) Q2),Q6,Q10⟩) ?_ ?_
 rotate_left 2
 all_goals first|((rw[Afg (by assumption) (Afe (f:=fld0) (by assumption))];simp[Cg];done))|((rw[Afh (by assumption) (Yb (by assumption))];done))|(simp_all[Bm,Cy,Cg];done)|((cases d;simp_all[Bm,Cy,Cg];done))|(grind[Bm,Cy,Cg])
set_option maxHeartbeats 1600000 in
theorem Uq (d:Dcd) (b:Int) (a:Int) (hp1:MW d) (hp2:(0:Int)≤b∧b≤255):Fun Tryz.prog 256 [.agg (Ad 0 1 d),vI b,vI a] [.tree d.plan.shapes,.lst .lev d.stack] (.tup [.agg (Ad 2 3 (Bp ⟨d,[]⟩ b a).d),vO 4]) [.dead,.dead,.tree (Bp ⟨d,[]⟩ b a).d.plan.shapes,.lst .lev (Bp ⟨d,[]⟩ b a).d.stack,.lst .ev (Bp ⟨d,[]⟩ b a).out]:=by
 have hN:Bb=274877906944:=rfl
 have hlv:=B3 hp1.lv
 have hpt:=Cc hlv.1
 have htb:=G5 hp1.lv
 have hbb:=hp1.b0
 have hat:=hp1.at_
 have hwt:=hp1.want
 have hwd:=Jf d
 have hsb:=P6 (b:=b) hbb.1 hbb.2
 refine Ap Tryz.func256 Q4 Q4 (w:=let zi:Int→C:= .int .i64;let z1:List C:=[zi d.at_,zi d.field.number,zi d.field.kind,.bool d.field.rep,.bool d.field.packed,zi d.field.msg,zi d.wire,zi d.want,zi d.utf.want,zi d.utf.low,zi d.utf.high,zi d.end_.kind,zi d.end_.field,.int .u64 d.end_.bits,zi d.end_.len,.str d.end_.text,zi d.end_.code,zi d.end_.at_];let z3:=(⟨d.plan,d.mode,d.stack,(⟨0,0⟩:Scn),d.start,d.at_,d.field,d.wire,d.want,d.utf,d.end_⟩:Dcd);let z7:=(⟨d.plan,d.mode,d.stack,(⟨0,0⟩:Scn),a,d.at_,d.field,d.wire,d.want,d.utf,d.end_⟩:Dcd);let z8:=Ag d.scan b;let z2:=A8 (⟨d.plan,d.mode,d.stack,z8.1,a,d.at_,d.field,d.wire,d.want,d.utf,d.end_⟩:Dcd) 9 d.at_;let z5:=A8 (⟨d.plan,d.mode,d.stack,z8.1,d.start,d.at_,d.field,d.wire,d.want,d.utf,d.end_⟩:Dcd) 9 d.at_;let z10:=A8 (⟨d.plan,d.mode,d.stack,d.scan,a,d.at_,d.field,d.wire,d.want,d.utf,d.end_⟩:Dcd) 1 a;let z12:List Blk:= .dead:: .dead::Ls z2 [A2 9 d.at_];let z13:S:= .tup [.agg (Ad 2 3 z2),vO 4];let z14:List Blk:= .dead:: .dead::Ls z5 [A2 9 d.at_];let z15:=Ae (Bm ⟨z3,[]⟩ z8.1.bits);let z16:S:= .tup [.agg (Ad 2 3 z5),vO 4];let z17:List Blk:= .dead:: .dead::Ls z10 [A2 1 a];let z18:S:= .tup [.agg (Km z8.1),vI z8.2];let z19:S:= .tup [.agg (Ad 2 3 z10),vO 4];let z20:List Blk:= .dead:: .dead::Ls (A8 d 1 a) [A2 1 a];let z21:S:= .tup [.agg (Ad 2 3 (A8 d 1 a)),vO 4];let z22:=Cu ⟨z7,[]⟩ z8.1.bits;let z23:=Cu ⟨z3,[]⟩ z8.1.bits;let z24:=Cn ⟨z7,[]⟩ z8.1.bits;let z25:=Cn ⟨z3,[]⟩ z8.1.bits;let z26:S:= .tup [.agg (Ad 2 3 z15.d),vO 4];let z27:=Ea ⟨z7,[]⟩ z8.1.bits;let z28:=Ea ⟨z3,[]⟩ z8.1.bits;let z29:=decide (d.mode=8);let z30:=decide (d.want=0);let z31:List Blk:= .dead:: .dead::Ls z15.d z15.out;let z32:S:= .v (vI (Ds d));let z33:=d.mode=1;let z34:=decide (Ds d=0);let z35:=decide (d.mode=2);let z36:=decide (z8.2=2);let z37:=decide (z8.2=0);let z38:=decide (d.mode=4);let z39:=decide z33;let z40:=Km d.scan;let z41:= !decide z33;let z42:S:= .tup [.agg (Ad 0 1 z22.d),vO 2];let z43:S:= .tup [.agg (Ad 0 1 z27.d),vO 2];let z44:S:= .tup [.agg (Ad 0 1 z24.d),vO 2];let z45:S:= .tup [.agg (Ad 0 1 z23.d),vO 2];let z46:S:= .tup [.agg (Ad 0 1 z28.d),vO 2];let z47:S:= .tup [.agg (Ad 0 1 z25.d),vO 2];let z48:=Bp ⟨d,[]⟩ b a;let z9:List Blk:= .dead:: .dead::Ls z48.d z48.out;let z11:S:= .tup [.agg (Ad 2 3 z48.d),vO 4];let z4:=Lf (.tup [.agg (.own 2::zi d.plan.root::zi d.plan.deep::zi d.plan.most::zi d.mode:: .own 3:: .int .u64 z8.1.bits::zi z8.1.have_::zi a::z1),vO 4]) z11 (.dead:: .dead::Ls d ([]:List Ev)) z9;let z6:=Lf (.tup [.agg (.own 2::zi d.plan.root::zi d.plan.deep::zi d.plan.most::zi d.mode:: .own 3:: .int .u64 z8.1.bits::zi z8.1.have_::zi d.start::z1),vO 4]) z11 (.dead:: .dead::Ls d ([]:List Ev)) z9;(.br (.br (.seg [.call [] z18 []] (.br (.seg [.call [0,1] z19 z17] (.leaf () [0,1,5,6,7])) (.br (.br (.seg [.call [] z32 []] (.br (.seg [.call [0,1] z13 z12] (.leaf () [0,1,5,6,7])) (.br (.br (.seg [.call [0,1] z13 z12] (.leaf () [0,1,5,6,7])) (.seg [.ty .ev,.at 0,.cut 3 0,.cut 3 5] (.leaf () [0,1,6,7,5]))) (.seg [.ty .ev,.at 0,.cut 3 0,.cut 3 5] (.leaf () [0,1,6,7,5]))))) (.br (.br (.seg [.call [0,1] z13 z12] (.leaf () [0,1,5,6,7])) (.seg [.ty .ev,.at 0,.cut 3 0,.cut 3 5] (.leaf () [0,1,6,7,5]))) (.seg [.ty .ev,.at 0,.cut 3 0,.cut 3 5] (.leaf () [0,1,6,7,5])))) (.seg [.br true,.call [] z42 (Ls z22.d z22.out),.at 0,.kill 0,.kill 1] (.leaf () [0,1,5,6,7]))))) (.br (.seg [.call [] z18 []] (.br (.seg [.call [0,1] z19 z17] (.leaf () [0,1,5,6,7])) (.br (.br (.seg [.call [] z32 []] (.br (.seg [.call [0,1] z13 z12] (.leaf () [0,1,5,6,7])) (.br (.br (.seg [.call [0,1] z13 z12] (.leaf () [0,1,5,6,7])) (.seg [.ty .ev,.at 0,.cut 3 0,.cut 3 5] (.leaf () [0,1,6,7,5]))) (.seg [.ty .ev,.at 0,.cut 3 0,.cut 3 5] (.leaf () [0,1,6,7,5]))))) (.br (.br (.seg [.call [0,1] z13 z12] (.leaf () [0,1,5,6,7])) (.seg [.ty .ev,.at 0,.cut 3 0,.cut 3 5] (.leaf () [0,1,6,7,5]))) (.seg [.ty .ev,.at 0,.cut 3 0,.cut 3 5] (.leaf () [0,1,6,7,5])))) (.seg [.br false,.br true,.call [] z43 (Ls z27.d z27.out),.at 0,.kill 0,.kill 1] (.leaf () [0,1,5,6,7]))))) (.br (.seg [.call [] z18 []] (.br (.seg [.call [0,1] z19 z17] (.leaf () [0,1,5,6,7])) (.br (.br (.seg [.call [] z32 []] (.br (.seg [.call [0,1] z13 z12] (.leaf () [0,1,5,6,7])) (.br (.br (.seg [.call [0,1] z13 z12] (.leaf () [0,1,5,6,7])) (.seg [.ty .ev,.at 0,.cut 3 0,.cut 3 5] (.leaf () [0,1,6,7,5]))) (.seg [.ty .ev,.at 0,.cut 3 0,.cut 3 5] (.leaf () [0,1,6,7,5]))))) (.br (.br (.seg [.call [0,1] z13 z12] (.leaf () [0,1,5,6,7])) (.seg [.ty .ev,.at 0,.cut 3 0,.cut 3 5] (.leaf () [0,1,6,7,5]))) (.seg [.ty .ev,.at 0,.cut 3 0,.cut 3 5] (.leaf () [0,1,6,7,5])))) (.seg [.br false,.br false,.br true,.call [] z44 (Ls z24.d z24.out),.at 0,.kill 0,.kill 1] (.leaf () [0,1,5,6,7]))))) (.seg [.call [] z18 []] (.br (.seg [.call [0,1] z21 z20] (.leaf () [0,1,5,6,7])) (.br (.br (.seg [.call [] z32 []] (.br (.seg [.call [0,1] z16 z14] (.leaf () [0,1,5,6,7])) (.br (.br (.seg [.call [0,1] z16 z14] (.leaf () [0,1,5,6,7])) (.seg [.ty .ev,.at 0,.cut 3 0,.cut 3 5] (.leaf () [0,1,6,7,5]))) (.seg [.ty .ev,.at 0,.cut 3 0,.cut 3 5] (.leaf () [0,1,6,7,5]))))) (.br (.br (.seg [.call [0,1] z16 z14] (.leaf () [0,1,5,6,7])) (.seg [.ty .ev,.at 0,.cut 3 0,.cut 3 5] (.leaf () [0,1,6,7,5]))) (.seg [.ty .ev,.at 0,.cut 3 0,.cut 3 5] (.leaf () [0,1,6,7,5])))) (.seg [.br false,.br false,.br false,.call [0,1] z26 z31] (.leaf () [0,1,5,6,7])))))))) (.seg [.call [] z18 []] (.br (.seg [.call [0,1] z21 z20] (.leaf () [0,1,5,6,7])) (.br (.br (.seg [.call [] z32 []] (.br (.seg [.call [0,1] z16 z14] (.leaf () [0,1,5,6,7])) (.br (.br (.seg [.call [0,1] z16 z14] (.leaf () [0,1,5,6,7])) (.seg [.ty .ev,.at 0,.cut 3 0,.cut 3 5] (.leaf () [0,1,6,7,5]))) (.seg [.ty .ev,.at 0,.cut 3 0,.cut 3 5] (.leaf () [0,1,6,7,5]))))) (.br (.br (.seg [.call [0,1] z16 z14] (.leaf () [0,1,5,6,7])) (.seg [.ty .ev,.at 0,.cut 3 0,.cut 3 5] (.leaf () [0,1,6,7,5]))) (.seg [.ty .ev,.at 0,.cut 3 0,.cut 3 5] (.leaf () [0,1,6,7,5])))) (.br (.seg [.call [] z45 (Ls z23.d z23.out),.at 0,.kill 0,.kill 1] (.leaf () [0,1,5,6,7])) (.br (.seg [.call [] z46 (Ls z28.d z28.out),.at 0,.kill 0,.kill 1] (.leaf () [0,1,5,6,7])) (.br (.seg [.call [] z47 (Ls z25.d z25.out),.at 0,.kill 0,.kill 1] (.leaf () [0,1,5,6,7])) (.seg [.call [0,1] z26 z31] (.leaf () [0,1,5,6,7])))))))),Bc (decide (d.scan.have_=0)) (Bc z39 ((Fp 244 [.agg z40,vI b] [] z18 [])∧Bc z36 ((Fp 253 [.agg (.own 0::zi d.plan.root::zi d.plan.deep::zi d.plan.most::zi d.mode:: .own 1:: .int .u64 d.scan.bits::zi d.scan.have_::zi a::z1),vI 1,vI a] (L2 d) z19 z17)∧Lf z19 z11 z17 z9) (Bc z37 (Bc z41 ((Fp 282 [.agg (.seq .shp d.plan.shapes::zi d.plan.root::zi d.plan.deep::zi d.plan.most::zi d.mode:: .seq .lev d.stack:: .int .u64 z8.1.bits::zi z8.1.have_::zi a::z1)] [] z32 [])∧Bc z34 ((Fp 253 [.agg (.own 0::zi d.plan.root::zi d.plan.deep::zi d.plan.most::zi d.mode:: .own 1:: .int .u64 z8.1.bits::zi z8.1.have_::zi a::z1),vI 9,vI d.at_] (L2 d) z13 z12)∧Lf z13 z11 z12 z9) (Bc z29 (Bc z30 ((Fp 253 [.agg (.own 0::zi d.plan.root::zi d.plan.deep::zi d.plan.most::zi d.mode:: .own 1:: .int .u64 z8.1.bits::zi z8.1.have_::zi a::z1),vI 9,vI d.at_] (L2 d) z13 z12)∧Lf z13 z11 z12 z9) z4) z4)) (Bc z29 (Bc z30 ((Fp 253 [.agg (.own 0::zi d.plan.root::zi d.plan.deep::zi d.plan.most::zi d.mode:: .own 1:: .int .u64 z8.1.bits::zi z8.1.have_::zi a::z1),vI 9,vI d.at_] (L2 d) z13 z12)∧Lf z13 z11 z12 z9) z4) z4)) ((z39=true)∧(Fp 287 [.agg (.seq .shp d.plan.shapes::zi d.plan.root::zi d.plan.deep::zi d.plan.most::zi d.mode:: .seq .lev d.stack:: .int .u64 0::zi 0::zi a::z1),.c (.int .u64 z8.1.bits)] [] z42 (Ls z22.d z22.out))∧Lf (.tup [.agg (Ad 2 3 z22.d),vO 4]) z11 (.dead:: .dead::Ls z22.d z22.out) z9))) (Bc z35 ((Fp 244 [.agg z40,vI b] [] z18 [])∧Bc z36 ((Fp 253 [.agg (.own 0::zi d.plan.root::zi d.plan.deep::zi d.plan.most::zi d.mode:: .own 1:: .int .u64 d.scan.bits::zi d.scan.have_::zi a::z1),vI 1,vI a] (L2 d) z19 z17)∧Lf z19 z11 z17 z9) (Bc z37 (Bc z41 ((Fp 282 [.agg (.seq .shp d.plan.shapes::zi d.plan.root::zi d.plan.deep::zi d.plan.most::zi d.mode:: .seq .lev d.stack:: .int .u64 z8.1.bits::zi z8.1.have_::zi a::z1)] [] z32 [])∧Bc z34 ((Fp 253 [.agg (.own 0::zi d.plan.root::zi d.plan.deep::zi d.plan.most::zi d.mode:: .own 1:: .int .u64 z8.1.bits::zi z8.1.have_::zi a::z1),vI 9,vI d.at_] (L2 d) z13 z12)∧Lf z13 z11 z12 z9) (Bc z29 (Bc z30 ((Fp 253 [.agg (.own 0::zi d.plan.root::zi d.plan.deep::zi d.plan.most::zi d.mode:: .own 1:: .int .u64 z8.1.bits::zi z8.1.have_::zi a::z1),vI 9,vI d.at_] (L2 d) z13 z12)∧Lf z13 z11 z12 z9) z4) z4)) (Bc z29 (Bc z30 ((Fp 253 [.agg (.own 0::zi d.plan.root::zi d.plan.deep::zi d.plan.most::zi d.mode:: .own 1:: .int .u64 z8.1.bits::zi z8.1.have_::zi a::z1),vI 9,vI d.at_] (L2 d) z13 z12)∧Lf z13 z11 z12 z9) z4) z4)) ((z39=false)∧(z35=true)∧(Fp 288 [.agg (.seq .shp d.plan.shapes::zi d.plan.root::zi d.plan.deep::zi d.plan.most::zi d.mode:: .seq .lev d.stack:: .int .u64 0::zi 0::zi a::z1),.c (.int .u64 z8.1.bits)] [] z43 (Ls z27.d z27.out))∧Lf (.tup [.agg (Ad 2 3 z27.d),vO 4]) z11 (.dead:: .dead::Ls z27.d z27.out) z9))) (Bc z38 ((Fp 244 [.agg z40,vI b] [] z18 [])∧Bc z36 ((Fp 253 [.agg (.own 0::zi d.plan.root::zi d.plan.deep::zi d.plan.most::zi d.mode:: .own 1:: .int .u64 d.scan.bits::zi d.scan.have_::zi a::z1),vI 1,vI a] (L2 d) z19 z17)∧Lf z19 z11 z17 z9) (Bc z37 (Bc z41 ((Fp 282 [.agg (.seq .shp d.plan.shapes::zi d.plan.root::zi d.plan.deep::zi d.plan.most::zi d.mode:: .seq .lev d.stack:: .int .u64 z8.1.bits::zi z8.1.have_::zi a::z1)] [] z32 [])∧Bc z34 ((Fp 253 [.agg (.own 0::zi d.plan.root::zi d.plan.deep::zi d.plan.most::zi d.mode:: .own 1:: .int .u64 z8.1.bits::zi z8.1.have_::zi a::z1),vI 9,vI d.at_] (L2 d) z13 z12)∧Lf z13 z11 z12 z9) (Bc z29 (Bc z30 ((Fp 253 [.agg (.own 0::zi d.plan.root::zi d.plan.deep::zi d.plan.most::zi d.mode:: .own 1:: .int .u64 z8.1.bits::zi z8.1.have_::zi a::z1),vI 9,vI d.at_] (L2 d) z13 z12)∧Lf z13 z11 z12 z9) z4) z4)) (Bc z29 (Bc z30 ((Fp 253 [.agg (.own 0::zi d.plan.root::zi d.plan.deep::zi d.plan.most::zi d.mode:: .own 1:: .int .u64 z8.1.bits::zi z8.1.have_::zi a::z1),vI 9,vI d.at_] (L2 d) z13 z12)∧Lf z13 z11 z12 z9) z4) z4)) ((z39=false)∧(z35=false)∧(z38=true)∧(Fp 289 [.agg (.seq .shp d.plan.shapes::zi d.plan.root::zi d.plan.deep::zi d.plan.most::zi d.mode:: .seq .lev d.stack:: .int .u64 0::zi 0::zi a::z1),.c (.int .u64 z8.1.bits)] [] z44 (Ls z24.d z24.out))∧Lf (.tup [.agg (Ad 2 3 z24.d),vO 4]) z11 (.dead:: .dead::Ls z24.d z24.out) z9))) ((Fp 244 [.agg z40,vI b] [] z18 [])∧Bc z36 ((Fp 253 [.agg (Ad 0 1 d),vI 1,vI a] (L2 d) z21 z20)∧Lf z21 z11 z20 z9) (Bc z37 (Bc z41 ((Fp 282 [.agg (.seq .shp d.plan.shapes::zi d.plan.root::zi d.plan.deep::zi d.plan.most::zi d.mode:: .seq .lev d.stack:: .int .u64 z8.1.bits::zi z8.1.have_::zi d.start::z1)] [] z32 [])∧Bc z34 ((Fp 253 [.agg (.own 0::zi d.plan.root::zi d.plan.deep::zi d.plan.most::zi d.mode:: .own 1:: .int .u64 z8.1.bits::zi z8.1.have_::zi d.start::z1),vI 9,vI d.at_] (L2 d) z16 z14)∧Lf z16 z11 z14 z9) (Bc z29 (Bc z30 ((Fp 253 [.agg (.own 0::zi d.plan.root::zi d.plan.deep::zi d.plan.most::zi d.mode:: .own 1:: .int .u64 z8.1.bits::zi z8.1.have_::zi d.start::z1),vI 9,vI d.at_] (L2 d) z16 z14)∧Lf z16 z11 z14 z9) z6) z6)) (Bc z29 (Bc z30 ((Fp 253 [.agg (.own 0::zi d.plan.root::zi d.plan.deep::zi d.plan.most::zi d.mode:: .own 1:: .int .u64 z8.1.bits::zi z8.1.have_::zi d.start::z1),vI 9,vI d.at_] (L2 d) z16 z14)∧Lf z16 z11 z14 z9) z6) z6)) ((z39=false)∧(z35=false)∧(z38=false)∧(Fp 286 [.agg (.own 0::zi d.plan.root::zi d.plan.deep::zi d.plan.most::zi d.mode:: .own 1:: .int .u64 0::zi 0::zi d.start::z1),.c (.int .u64 z8.1.bits)] (L2 d) z26 z31)∧Lf z26 z11 z31 z9)))))) ((Fp 244 [.agg z40,vI b] [] z18 [])∧Bc z36 ((Fp 253 [.agg (Ad 0 1 d),vI 1,vI a] (L2 d) z21 z20)∧Lf z21 z11 z20 z9) (Bc z37 (Bc z41 ((Fp 282 [.agg (.seq .shp d.plan.shapes::zi d.plan.root::zi d.plan.deep::zi d.plan.most::zi d.mode:: .seq .lev d.stack:: .int .u64 z8.1.bits::zi z8.1.have_::zi d.start::z1)] [] z32 [])∧Bc z34 ((Fp 253 [.agg (.own 0::zi d.plan.root::zi d.plan.deep::zi d.plan.most::zi d.mode:: .own 1:: .int .u64 z8.1.bits::zi z8.1.have_::zi d.start::z1),vI 9,vI d.at_] (L2 d) z16 z14)∧Lf z16 z11 z14 z9) (Bc z29 (Bc z30 ((Fp 253 [.agg (.own 0::zi d.plan.root::zi d.plan.deep::zi d.plan.most::zi d.mode:: .own 1:: .int .u64 z8.1.bits::zi z8.1.have_::zi d.start::z1),vI 9,vI d.at_] (L2 d) z16 z14)∧Lf z16 z11 z14 z9) z6) z6)) (Bc z29 (Bc z30 ((Fp 253 [.agg (.own 0::zi d.plan.root::zi d.plan.deep::zi d.plan.most::zi d.mode:: .own 1:: .int .u64 z8.1.bits::zi z8.1.have_::zi d.start::z1),vI 9,vI d.at_] (L2 d) z16 z14)∧Lf z16 z11 z14 z9) z6) z6)) (Bc z39 ((Fp 287 [.agg (.seq .shp d.plan.shapes::zi d.plan.root::zi d.plan.deep::zi d.plan.most::zi d.mode:: .seq .lev d.stack:: .int .u64 0::zi 0::zi d.start::z1),.c (.int .u64 z8.1.bits)] [] z45 (Ls z23.d z23.out))∧Lf (.tup [.agg (Ad 2 3 z23.d),vO 4]) z11 (.dead:: .dead::Ls z23.d z23.out) z9) (Bc z35 ((Fp 288 [.agg (.seq .shp d.plan.shapes::zi d.plan.root::zi d.plan.deep::zi d.plan.most::zi d.mode:: .seq .lev d.stack:: .int .u64 0::zi 0::zi d.start::z1),.c (.int .u64 z8.1.bits)] [] z46 (Ls z28.d z28.out))∧Lf (.tup [.agg (Ad 2 3 z28.d),vO 4]) z11 (.dead:: .dead::Ls z28.d z28.out) z9) (Bc z38 ((Fp 289 [.agg (.seq .shp d.plan.shapes::zi d.plan.root::zi d.plan.deep::zi d.plan.most::zi d.mode:: .seq .lev d.stack:: .int .u64 0::zi 0::zi d.start::z1),.c (.int .u64 z8.1.bits)] [] z47 (Ls z25.d z25.out))∧Lf (.tup [.agg (Ad 2 3 z25.d),vO 4]) z11 (.dead:: .dead::Ls z25.d z25.out) z9) ((Fp 286 [.agg (.own 0::zi d.plan.root::zi d.plan.deep::zi d.plan.most::zi d.mode:: .own 1:: .int .u64 0::zi 0::zi d.start::z1),.c (.int .u64 z8.1.bits)] (L2 d) z26 z31)∧Lf z26 z11 z31 z9)))))))) Q4 ?_
 refine dsp (fun h1 p1=>?_) fun h1 p1=>?_
 refine dsp (fun h2 p2=>?_) fun h2 p2=>?_
 refine⟨(Jv d.scan _ Q2),dsp (fun h3 p3=>?_) fun h3 p3=>?_⟩
 refine zD ((Bp ⟨d,[]⟩ b a).d) (A8 (⟨d.plan,d.mode,d.stack,d.scan,a,d.at_,d.field,d.wire,d.want,d.utf,d.end_⟩:Dcd) 1 a) ((Bp ⟨d,[]⟩ b a).out) [A2 1 a] (fun hm1 hm2=>⟨(C6 (⟨d.plan,d.mode,d.stack,d.scan,a,d.at_,d.field,d.wire,d.want,d.utf,d.end_⟩:Dcd) _ _),Q6,Q10⟩) ?_ ?_
 rotate_left 2
 refine dsp (fun h4 p4=>?_) fun h4 p4=>?_
 refine⟨fun h5=>have q5:=Ao h5;have p5:=of_decide_eq_false q5;?_,fun h5=>have q5:=An h5;have p5:=of_decide_eq_true q5;?_⟩
 refine⟨(Ns (⟨d.plan,d.mode,d.stack,(Ag d.scan b).1,a,d.at_,d.field,d.wire,d.want,d.utf,d.end_⟩:Dcd) Q7),dsp (fun h6 p6=>?_) fun h6 p6=>?_⟩
 refine zD ((Bp ⟨d,[]⟩ b a).d) (A8 (⟨d.plan,d.mode,d.stack,(Ag d.scan b).1,a,d.at_,d.field,d.wire,d.want,d.utf,d.end_⟩:Dcd) 9 d.at_) ((Bp ⟨d,[]⟩ b a).out) [A2 9 d.at_] (fun hm1 hm2=>⟨(C6 (⟨d.plan,d.mode,d.stack,(Ag d.scan b).1,a,d.at_,d.field,d.wire,d.want,d.utf,d.end_⟩:Dcd) _ _),Q6,Q10⟩) ?_ ?_
 rotate_left 2
 refine dsp (fun h7 p7=>?_) fun h7 p7=>?_
 refine dsp (fun h8 p8=>?_) fun h8 p8=>?_
 refine zD ((Bp ⟨d,[]⟩ b a).d) (A8 (⟨d.plan,d.mode,d.stack,(Ag d.scan b).1,a,d.at_,d.field,d.wire,d.want,d.utf,d.end_⟩:Dcd) 9 d.at_) ((Bp ⟨d,[]⟩ b a).out) [A2 9 d.at_] (fun hm1 hm2=>⟨(C6 (⟨d.plan,d.mode,d.stack,(Ag d.scan b).1,a,d.at_,d.field,d.wire,d.want,d.utf,d.end_⟩:Dcd) _ _),Q6,Q10⟩) ?_ ?_
 rotate_left 2
 refine zD ((Bp ⟨d,[]⟩ b a).d) (⟨d.plan,d.mode,d.stack,(Ag d.scan b).1,a,d.at_,d.field,d.wire,d.want,d.utf,d.end_⟩:Dcd) ((Bp ⟨d,[]⟩ b a).out) ([]:List Ev) (fun hm1 hm2=>⟨Q6,Q10⟩) ?_ ?_
 rotate_left 2
 refine zD ((Bp ⟨d,[]⟩ b a).d) (⟨d.plan,d.mode,d.stack,(Ag d.scan b).1,a,d.at_,d.field,d.wire,d.want,d.utf,d.end_⟩:Dcd) ((Bp ⟨d,[]⟩ b a).out) ([]:List Ev) (fun hm1 hm2=>⟨Q6,Q10⟩) ?_ ?_
 rotate_left 2
 refine dsp (fun h6 p6=>?_) fun h6 p6=>?_
 refine dsp (fun h7 p7=>?_) fun h7 p7=>?_
 refine zD ((Bp ⟨d,[]⟩ b a).d) (A8 (⟨d.plan,d.mode,d.stack,(Ag d.scan b).1,a,d.at_,d.field,d.wire,d.want,d.utf,d.end_⟩:Dcd) 9 d.at_) ((Bp ⟨d,[]⟩ b a).out) [A2 9 d.at_] (fun hm1 hm2=>⟨(C6 (⟨d.plan,d.mode,d.stack,(Ag d.scan b).1,a,d.at_,d.field,d.wire,d.want,d.utf,d.end_⟩:Dcd) _ _),Q6,Q10⟩) ?_ ?_
 rotate_left 2
 refine zD ((Bp ⟨d,[]⟩ b a).d) (⟨d.plan,d.mode,d.stack,(Ag d.scan b).1,a,d.at_,d.field,d.wire,d.want,d.utf,d.end_⟩:Dcd) ((Bp ⟨d,[]⟩ b a).out) ([]:List Ev) (fun hm1 hm2=>⟨Q6,Q10⟩) ?_ ?_
 rotate_left 2
 refine zD ((Bp ⟨d,[]⟩ b a).d) (⟨d.plan,d.mode,d.stack,(Ag d.scan b).1,a,d.at_,d.field,d.wire,d.want,d.utf,d.end_⟩:Dcd) ((Bp ⟨d,[]⟩ b a).out) ([]:List Ev) (fun hm1 hm2=>⟨Q6,Q10⟩) ?_ ?_
 rotate_left 2
 refine zM Mac.d Mac.out (Bp ⟨d,[]⟩ b a) (Cu ⟨(⟨d.plan,d.mode,d.stack,(⟨0,0⟩:Scn),a,d.at_,d.field,d.wire,d.want,d.utf,d.end_⟩:Dcd),[]⟩ (Ag d.scan b).1.bits) (fun hm1 hm2=>⟨h2,(Af7 (⟨d.plan,d.mode,d.stack,(⟨0,0⟩:Scn),a,d.at_,d.field,d.wire,d.want,d.utf,d.end_⟩:Dcd) _ (Q23) Q2),Q6,Q10⟩) ?_ ?_
 rotate_left 2
 refine dsp (fun h3 p3=>?_) fun h3 p3=>?_
 refine⟨(Jv d.scan _ Q2),dsp (fun h4 p4=>?_) fun h4 p4=>?_⟩
 refine zD ((Bp ⟨d,[]⟩ b a).d) (A8 (⟨d.plan,d.mode,d.stack,d.scan,a,d.at_,d.field,d.wire,d.want,d.utf,d.end_⟩:Dcd) 1 a) ((Bp ⟨d,[]⟩ b a).out) [A2 1 a] (fun hm1 hm2=>⟨(C6 (⟨d.plan,d.mode,d.stack,d.scan,a,d.at_,d.field,d.wire,d.want,d.utf,d.end_⟩:Dcd) _ _),Q6,Q10⟩) ?_ ?_
 rotate_left 2
 refine dsp (fun h5 p5=>?_) fun h5 p5=>?_
 refine⟨fun h6=>have q6:=Ao h6;have p6:=of_decide_eq_false q6;?_,fun h6=>have q6:=An h6;have p6:=of_decide_eq_true q6;?_⟩
 refine⟨(Ns (⟨d.plan,d.mode,d.stack,(Ag d.scan b).1,a,d.at_,d.field,d.wire,d.want,d.utf,d.end_⟩:Dcd) Q7),dsp (fun h7 p7=>?_) fun h7 p7=>?_⟩
 refine zD ((Bp ⟨d,[]⟩ b a).d) (A8 (⟨d.plan,d.mode,d.stack,(Ag d.scan b).1,a,d.at_,d.field,d.wire,d.want,d.utf,d.end_⟩:Dcd) 9 d.at_) ((Bp ⟨d,[]⟩ b a).out) [A2 9 d.at_] (fun hm1 hm2=>⟨(C6 (⟨d.plan,d.mode,d.stack,(Ag d.scan b).1,a,d.at_,d.field,d.wire,d.want,d.utf,d.end_⟩:Dcd) _ _),Q6,Q10⟩) ?_ ?_
 rotate_left 2
 refine dsp (fun h8 p8=>?_) fun h8 p8=>?_
 refine dsp (fun h9 p9=>?_) fun h9 p9=>?_
 refine zD ((Bp ⟨d,[]⟩ b a).d) (A8 (⟨d.plan,d.mode,d.stack,(Ag d.scan b).1,a,d.at_,d.field,d.wire,d.want,d.utf,d.end_⟩:Dcd) 9 d.at_) ((Bp ⟨d,[]⟩ b a).out) [A2 9 d.at_] (fun hm1 hm2=>⟨(C6 (⟨d.plan,d.mode,d.stack,(Ag d.scan b).1,a,d.at_,d.field,d.wire,d.want,d.utf,d.end_⟩:Dcd) _ _),Q6,Q10⟩) ?_ ?_
 rotate_left 2
 refine zD ((Bp ⟨d,[]⟩ b a).d) (⟨d.plan,d.mode,d.stack,(Ag d.scan b).1,a,d.at_,d.field,d.wire,d.want,d.utf,d.end_⟩:Dcd) ((Bp ⟨d,[]⟩ b a).out) ([]:List Ev) (fun hm1 hm2=>⟨Q6,Q10⟩) ?_ ?_
 rotate_left 2
 refine zD ((Bp ⟨d,[]⟩ b a).d) (⟨d.plan,d.mode,d.stack,(Ag d.scan b).1,a,d.at_,d.field,d.wire,d.want,d.utf,d.end_⟩:Dcd) ((Bp ⟨d,[]⟩ b a).out) ([]:List Ev) (fun hm1 hm2=>⟨Q6,Q10⟩) ?_ ?_
 rotate_left 2
 refine dsp (fun h7 p7=>?_) fun h7 p7=>?_
 refine dsp (fun h8 p8=>?_) fun h8 p8=>?_
 refine zD ((Bp ⟨d,[]⟩ b a).d) (A8 (⟨d.plan,d.mode,d.stack,(Ag d.scan b).1,a,d.at_,d.field,d.wire,d.want,d.utf,d.end_⟩:Dcd) 9 d.at_) ((Bp ⟨d,[]⟩ b a).out) [A2 9 d.at_] (fun hm1 hm2=>⟨(C6 (⟨d.plan,d.mode,d.stack,(Ag d.scan b).1,a,d.at_,d.field,d.wire,d.want,d.utf,d.end_⟩:Dcd) _ _),Q6,Q10⟩) ?_ ?_
 rotate_left 2
 refine zD ((Bp ⟨d,[]⟩ b a).d) (⟨d.plan,d.mode,d.stack,(Ag d.scan b).1,a,d.at_,d.field,d.wire,d.want,d.utf,d.end_⟩:Dcd) ((Bp ⟨d,[]⟩ b a).out) ([]:List Ev) (fun hm1 hm2=>⟨Q6,Q10⟩) ?_ ?_
 rotate_left 2
 refine zD ((Bp ⟨d,[]⟩ b a).d) (⟨d.plan,d.mode,d.stack,(Ag d.scan b).1,a,d.at_,d.field,d.wire,d.want,d.utf,d.end_⟩:Dcd) ((Bp ⟨d,[]⟩ b a).out) ([]:List Ev) (fun hm1 hm2=>⟨Q6,Q10⟩) ?_ ?_
 rotate_left 2
 refine zM Mac.d Mac.out (Bp ⟨d,[]⟩ b a) (Ea ⟨(⟨d.plan,d.mode,d.stack,(⟨0,0⟩:Scn),a,d.at_,d.field,d.wire,d.want,d.utf,d.end_⟩:Dcd),[]⟩ (Ag d.scan b).1.bits) (fun hm1 hm2=>⟨h2,h3,(Amm (⟨d.plan,d.mode,d.stack,(⟨0,0⟩:Scn),a,d.at_,d.field,d.wire,d.want,d.utf,d.end_⟩:Dcd) _ (Q23) Q2),Q6,Q10⟩) ?_ ?_
 rotate_left 2
 refine dsp (fun h4 p4=>?_) fun h4 p4=>?_
 refine⟨(Jv d.scan _ Q2),dsp (fun h5 p5=>?_) fun h5 p5=>?_⟩
 refine zD ((Bp ⟨d,[]⟩ b a).d) (A8 (⟨d.plan,d.mode,d.stack,d.scan,a,d.at_,d.field,d.wire,d.want,d.utf,d.end_⟩:Dcd) 1 a) ((Bp ⟨d,[]⟩ b a).out) [A2 1 a] (fun hm1 hm2=>⟨(C6 (⟨d.plan,d.mode,d.stack,d.scan,a,d.at_,d.field,d.wire,d.want,d.utf,d.end_⟩:Dcd) _ _),Q6,Q10⟩) ?_ ?_
 rotate_left 2
 refine dsp (fun h6 p6=>?_) fun h6 p6=>?_
 refine⟨fun h7=>have q7:=Ao h7;have p7:=of_decide_eq_false q7;?_,fun h7=>have q7:=An h7;have p7:=of_decide_eq_true q7;?_⟩
 refine⟨(Ns (⟨d.plan,d.mode,d.stack,(Ag d.scan b).1,a,d.at_,d.field,d.wire,d.want,d.utf,d.end_⟩:Dcd) Q7),dsp (fun h8 p8=>?_) fun h8 p8=>?_⟩
 refine zD ((Bp ⟨d,[]⟩ b a).d) (A8 (⟨d.plan,d.mode,d.stack,(Ag d.scan b).1,a,d.at_,d.field,d.wire,d.want,d.utf,d.end_⟩:Dcd) 9 d.at_) ((Bp ⟨d,[]⟩ b a).out) [A2 9 d.at_] (fun hm1 hm2=>⟨(C6 (⟨d.plan,d.mode,d.stack,(Ag d.scan b).1,a,d.at_,d.field,d.wire,d.want,d.utf,d.end_⟩:Dcd) _ _),Q6,Q10⟩) ?_ ?_
 rotate_left 2
 refine dsp (fun h9 p9=>?_) fun h9 p9=>?_
 refine dsp (fun h10 p10=>?_) fun h10 p10=>?_
 refine zD ((Bp ⟨d,[]⟩ b a).d) (A8 (⟨d.plan,d.mode,d.stack,(Ag d.scan b).1,a,d.at_,d.field,d.wire,d.want,d.utf,d.end_⟩:Dcd) 9 d.at_) ((Bp ⟨d,[]⟩ b a).out) [A2 9 d.at_] (fun hm1 hm2=>⟨(C6 (⟨d.plan,d.mode,d.stack,(Ag d.scan b).1,a,d.at_,d.field,d.wire,d.want,d.utf,d.end_⟩:Dcd) _ _),Q6,Q10⟩) ?_ ?_
 rotate_left 2
 refine zD ((Bp ⟨d,[]⟩ b a).d) (⟨d.plan,d.mode,d.stack,(Ag d.scan b).1,a,d.at_,d.field,d.wire,d.want,d.utf,d.end_⟩:Dcd) ((Bp ⟨d,[]⟩ b a).out) ([]:List Ev) (fun hm1 hm2=>⟨Q6,Q10⟩) ?_ ?_
 rotate_left 2
 refine zD ((Bp ⟨d,[]⟩ b a).d) (⟨d.plan,d.mode,d.stack,(Ag d.scan b).1,a,d.at_,d.field,d.wire,d.want,d.utf,d.end_⟩:Dcd) ((Bp ⟨d,[]⟩ b a).out) ([]:List Ev) (fun hm1 hm2=>⟨Q6,Q10⟩) ?_ ?_
 rotate_left 2
 refine dsp (fun h8 p8=>?_) fun h8 p8=>?_
 refine dsp (fun h9 p9=>?_) fun h9 p9=>?_
 refine zD ((Bp ⟨d,[]⟩ b a).d) (A8 (⟨d.plan,d.mode,d.stack,(Ag d.scan b).1,a,d.at_,d.field,d.wire,d.want,d.utf,d.end_⟩:Dcd) 9 d.at_) ((Bp ⟨d,[]⟩ b a).out) [A2 9 d.at_] (fun hm1 hm2=>⟨(C6 (⟨d.plan,d.mode,d.stack,(Ag d.scan b).1,a,d.at_,d.field,d.wire,d.want,d.utf,d.end_⟩:Dcd) _ _),Q6,Q10⟩) ?_ ?_
 rotate_left 2
 refine zD ((Bp ⟨d,[]⟩ b a).d) (⟨d.plan,d.mode,d.stack,(Ag d.scan b).1,a,d.at_,d.field,d.wire,d.want,d.utf,d.end_⟩:Dcd) ((Bp ⟨d,[]⟩ b a).out) ([]:List Ev) (fun hm1 hm2=>⟨Q6,Q10⟩) ?_ ?_
 rotate_left 2
 refine zD ((Bp ⟨d,[]⟩ b a).d) (⟨d.plan,d.mode,d.stack,(Ag d.scan b).1,a,d.at_,d.field,d.wire,d.want,d.utf,d.end_⟩:Dcd) ((Bp ⟨d,[]⟩ b a).out) ([]:List Ev) (fun hm1 hm2=>⟨Q6,Q10⟩) ?_ ?_
 rotate_left 2
 refine zM Mac.d Mac.out (Bp ⟨d,[]⟩ b a) (Cn ⟨(⟨d.plan,d.mode,d.stack,(⟨0,0⟩:Scn),a,d.at_,d.field,d.wire,d.want,d.utf,d.end_⟩:Dcd),[]⟩ (Ag d.scan b).1.bits) (fun hm1 hm2=>⟨h2,h3,h4,(Ajb (⟨d.plan,d.mode,d.stack,(⟨0,0⟩:Scn),a,d.at_,d.field,d.wire,d.want,d.utf,d.end_⟩:Dcd) _ (Q23) Q2 (hp1.kn)),Q6,Q10⟩) ?_ ?_
 rotate_left 2
 refine⟨(Jv d.scan _ Q2),dsp (fun h5 p5=>?_) fun h5 p5=>?_⟩
 refine zD ((Bp ⟨d,[]⟩ b a).d) (A8 d 1 a) ((Bp ⟨d,[]⟩ b a).out) [A2 1 a] (fun hm1 hm2=>⟨(C6 d _ _),Q6,Q10⟩) ?_ ?_
 rotate_left 2
 refine dsp (fun h6 p6=>?_) fun h6 p6=>?_
 refine⟨fun h7=>have q7:=Ao h7;have p7:=of_decide_eq_false q7;?_,fun h7=>have q7:=An h7;have p7:=of_decide_eq_true q7;?_⟩
 refine⟨(Ns (⟨d.plan,d.mode,d.stack,(Ag d.scan b).1,d.start,d.at_,d.field,d.wire,d.want,d.utf,d.end_⟩:Dcd) Q7),dsp (fun h8 p8=>?_) fun h8 p8=>?_⟩
 refine zD ((Bp ⟨d,[]⟩ b a).d) (A8 (⟨d.plan,d.mode,d.stack,(Ag d.scan b).1,d.start,d.at_,d.field,d.wire,d.want,d.utf,d.end_⟩:Dcd) 9 d.at_) ((Bp ⟨d,[]⟩ b a).out) [A2 9 d.at_] (fun hm1 hm2=>⟨(C6 (⟨d.plan,d.mode,d.stack,(Ag d.scan b).1,d.start,d.at_,d.field,d.wire,d.want,d.utf,d.end_⟩:Dcd) _ _),Q6,Q10⟩) ?_ ?_
 rotate_left 2
 refine dsp (fun h9 p9=>?_) fun h9 p9=>?_
 refine dsp (fun h10 p10=>?_) fun h10 p10=>?_
 refine zD ((Bp ⟨d,[]⟩ b a).d) (A8 (⟨d.plan,d.mode,d.stack,(Ag d.scan b).1,d.start,d.at_,d.field,d.wire,d.want,d.utf,d.end_⟩:Dcd) 9 d.at_) ((Bp ⟨d,[]⟩ b a).out) [A2 9 d.at_] (fun hm1 hm2=>⟨(C6 (⟨d.plan,d.mode,d.stack,(Ag d.scan b).1,d.start,d.at_,d.field,d.wire,d.want,d.utf,d.end_⟩:Dcd) _ _),Q6,Q10⟩) ?_ ?_
 rotate_left 2
 refine zD ((Bp ⟨d,[]⟩ b a).d) (⟨d.plan,d.mode,d.stack,(Ag d.scan b).1,d.start,d.at_,d.field,d.wire,d.want,d.utf,d.end_⟩:Dcd) ((Bp ⟨d,[]⟩ b a).out) ([]:List Ev) (fun hm1 hm2=>⟨Q6,Q10⟩) ?_ ?_
 rotate_left 2
 refine zD ((Bp ⟨d,[]⟩ b a).d) (⟨d.plan,d.mode,d.stack,(Ag d.scan b).1,d.start,d.at_,d.field,d.wire,d.want,d.utf,d.end_⟩:Dcd) ((Bp ⟨d,[]⟩ b a).out) ([]:List Ev) (fun hm1 hm2=>⟨Q6,Q10⟩) ?_ ?_
 rotate_left 2
 refine dsp (fun h8 p8=>?_) fun h8 p8=>?_
 refine dsp (fun h9 p9=>?_) fun h9 p9=>?_
 refine zD ((Bp ⟨d,[]⟩ b a).d) (A8 (⟨d.plan,d.mode,d.stack,(Ag d.scan b).1,d.start,d.at_,d.field,d.wire,d.want,d.utf,d.end_⟩:Dcd) 9 d.at_) ((Bp ⟨d,[]⟩ b a).out) [A2 9 d.at_] (fun hm1 hm2=>⟨(C6 (⟨d.plan,d.mode,d.stack,(Ag d.scan b).1,d.start,d.at_,d.field,d.wire,d.want,d.utf,d.end_⟩:Dcd) _ _),Q6,Q10⟩) ?_ ?_
 rotate_left 2
 refine zD ((Bp ⟨d,[]⟩ b a).d) (⟨d.plan,d.mode,d.stack,(Ag d.scan b).1,d.start,d.at_,d.field,d.wire,d.want,d.utf,d.end_⟩:Dcd) ((Bp ⟨d,[]⟩ b a).out) ([]:List Ev) (fun hm1 hm2=>⟨Q6,Q10⟩) ?_ ?_
 rotate_left 2
 refine zD ((Bp ⟨d,[]⟩ b a).d) (⟨d.plan,d.mode,d.stack,(Ag d.scan b).1,d.start,d.at_,d.field,d.wire,d.want,d.utf,d.end_⟩:Dcd) ((Bp ⟨d,[]⟩ b a).out) ([]:List Ev) (fun hm1 hm2=>⟨Q6,Q10⟩) ?_ ?_
 rotate_left 2
 refine zM Mac.d Mac.out (Bp ⟨d,[]⟩ b a) (Ae (Bm ⟨(⟨d.plan,d.mode,d.stack,(⟨0,0⟩:Scn),d.start,d.at_,d.field,d.wire,d.want,d.utf,d.end_⟩:Dcd),[]⟩ (Ag d.scan b).1.bits)) (fun hm1 hm2=>⟨h2,h3,h4,(Vw (⟨d.plan,d.mode,d.stack,(⟨0,0⟩:Scn),d.start,d.at_,d.field,d.wire,d.want,d.utf,d.end_⟩:Dcd) _ Q7 Q2),Q6,Q10⟩) ?_ ?_
 rotate_left 2
 refine⟨(Jv d.scan _ Q2),dsp (fun h2 p2=>?_) fun h2 p2=>?_⟩
 refine zD ((Bp ⟨d,[]⟩ b a).d) (A8 d 1 a) ((Bp ⟨d,[]⟩ b a).out) [A2 1 a] (fun hm1 hm2=>⟨(C6 d _ _),Q6,Q10⟩) ?_ ?_
 rotate_left 2
 refine dsp (fun h3 p3=>?_) fun h3 p3=>?_
 refine⟨fun h4=>have q4:=Ao h4;have p4:=of_decide_eq_false q4;?_,fun h4=>have q4:=An h4;have p4:=of_decide_eq_true q4;?_⟩
 refine⟨(Ns (⟨d.plan,d.mode,d.stack,(Ag d.scan b).1,d.start,d.at_,d.field,d.wire,d.want,d.utf,d.end_⟩:Dcd) Q7),dsp (fun h5 p5=>?_) fun h5 p5=>?_⟩
 refine zD ((Bp ⟨d,[]⟩ b a).d) (A8 (⟨d.plan,d.mode,d.stack,(Ag d.scan b).1,d.start,d.at_,d.field,d.wire,d.want,d.utf,d.end_⟩:Dcd) 9 d.at_) ((Bp ⟨d,[]⟩ b a).out) [A2 9 d.at_] (fun hm1 hm2=>⟨(C6 (⟨d.plan,d.mode,d.stack,(Ag d.scan b).1,d.start,d.at_,d.field,d.wire,d.want,d.utf,d.end_⟩:Dcd) _ _),Q6,Q10⟩) ?_ ?_
 rotate_left 2
 refine dsp (fun h6 p6=>?_) fun h6 p6=>?_
 refine dsp (fun h7 p7=>?_) fun h7 p7=>?_
 refine zD ((Bp ⟨d,[]⟩ b a).d) (A8 (⟨d.plan,d.mode,d.stack,(Ag d.scan b).1,d.start,d.at_,d.field,d.wire,d.want,d.utf,d.end_⟩:Dcd) 9 d.at_) ((Bp ⟨d,[]⟩ b a).out) [A2 9 d.at_] (fun hm1 hm2=>⟨(C6 (⟨d.plan,d.mode,d.stack,(Ag d.scan b).1,d.start,d.at_,d.field,d.wire,d.want,d.utf,d.end_⟩:Dcd) _ _),Q6,Q10⟩) ?_ ?_
 rotate_left 2
 refine zD ((Bp ⟨d,[]⟩ b a).d) (⟨d.plan,d.mode,d.stack,(Ag d.scan b).1,d.start,d.at_,d.field,d.wire,d.want,d.utf,d.end_⟩:Dcd) ((Bp ⟨d,[]⟩ b a).out) ([]:List Ev) (fun hm1 hm2=>⟨Q6,Q10⟩) ?_ ?_
 rotate_left 2
 refine zD ((Bp ⟨d,[]⟩ b a).d) (⟨d.plan,d.mode,d.stack,(Ag d.scan b).1,d.start,d.at_,d.field,d.wire,d.want,d.utf,d.end_⟩:Dcd) ((Bp ⟨d,[]⟩ b a).out) ([]:List Ev) (fun hm1 hm2=>⟨Q6,Q10⟩) ?_ ?_
 rotate_left 2
 refine dsp (fun h5 p5=>?_) fun h5 p5=>?_
 refine dsp (fun h6 p6=>?_) fun h6 p6=>?_
 refine zD ((Bp ⟨d,[]⟩ b a).d) (A8 (⟨d.plan,d.mode,d.stack,(Ag d.scan b).1,d.start,d.at_,d.field,d.wire,d.want,d.utf,d.end_⟩:Dcd) 9 d.at_) ((Bp ⟨d,[]⟩ b a).out) [A2 9 d.at_] (fun hm1 hm2=>⟨(C6 (⟨d.plan,d.mode,d.stack,(Ag d.scan b).1,d.start,d.at_,d.field,d.wire,d.want,d.utf,d.end_⟩:Dcd) _ _),Q6,Q10⟩) ?_ ?_
 rotate_left 2
 refine zD ((Bp ⟨d,[]⟩ b a).d) (⟨d.plan,d.mode,d.stack,(Ag d.scan b).1,d.start,d.at_,d.field,d.wire,d.want,d.utf,d.end_⟩:Dcd) ((Bp ⟨d,[]⟩ b a).out) ([]:List Ev) (fun hm1 hm2=>⟨Q6,Q10⟩) ?_ ?_
 rotate_left 2
 refine zD ((Bp ⟨d,[]⟩ b a).d) (⟨d.plan,d.mode,d.stack,(Ag d.scan b).1,d.start,d.at_,d.field,d.wire,d.want,d.utf,d.end_⟩:Dcd) ((Bp ⟨d,[]⟩ b a).out) ([]:List Ev) (fun hm1 hm2=>⟨Q6,Q10⟩) ?_ ?_
 rotate_left 2
 refine dsp (fun h4 p4=>?_) fun h4 p4=>?_
 refine zM Mac.d Mac.out (Bp ⟨d,[]⟩ b a) (Cu ⟨(⟨d.plan,d.mode,d.stack,(⟨0,0⟩:Scn),d.start,d.at_,d.field,d.wire,d.want,d.utf,d.end_⟩:Dcd),[]⟩ (Ag d.scan b).1.bits) (fun hm1 hm2=>⟨(Af7 (⟨d.plan,d.mode,d.stack,(⟨0,0⟩:Scn),d.start,d.at_,d.field,d.wire,d.want,d.utf,d.end_⟩:Dcd) _ (Q23) Q2),Q6,Q10⟩) ?_ ?_
 rotate_left 2
 refine dsp (fun h5 p5=>?_) fun h5 p5=>?_
 refine zM Mac.d Mac.out (Bp ⟨d,[]⟩ b a) (Ea ⟨(⟨d.plan,d.mode,d.stack,(⟨0,0⟩:Scn),d.start,d.at_,d.field,d.wire,d.want,d.utf,d.end_⟩:Dcd),[]⟩ (Ag d.scan b).1.bits) (fun hm1 hm2=>⟨(Amm (⟨d.plan,d.mode,d.stack,(⟨0,0⟩:Scn),d.start,d.at_,d.field,d.wire,d.want,d.utf,d.end_⟩:Dcd) _ (Q23) Q2),Q6,Q10⟩) ?_ ?_
 rotate_left 2
 refine dsp (fun h6 p6=>?_) fun h6 p6=>?_
 refine zM Mac.d Mac.out (Bp ⟨d,[]⟩ b a) (Cn ⟨(⟨d.plan,d.mode,d.stack,(⟨0,0⟩:Scn),d.start,d.at_,d.field,d.wire,d.want,d.utf,d.end_⟩:Dcd),[]⟩ (Ag d.scan b).1.bits) (fun hm1 hm2=>⟨(Ajb (⟨d.plan,d.mode,d.stack,(⟨0,0⟩:Scn),d.start,d.at_,d.field,d.wire,d.want,d.utf,d.end_⟩:Dcd) _ (Q23) Q2 (hp1.kn)),Q6,Q10⟩) ?_ ?_
 rotate_left 2
 refine zM Mac.d Mac.out (Bp ⟨d,[]⟩ b a) (Ae (Bm ⟨(⟨d.plan,d.mode,d.stack,(⟨0,0⟩:Scn),d.start,d.at_,d.field,d.wire,d.want,d.utf,d.end_⟩:Dcd),[]⟩ (Ag d.scan b).1.bits)) (fun hm1 hm2=>⟨(Vw (⟨d.plan,d.mode,d.stack,(⟨0,0⟩:Scn),d.start,d.at_,d.field,d.wire,d.want,d.utf,d.end_⟩:Dcd) _ Q7 Q2),Q6,Q10⟩) ?_ ?_
 rotate_left 2
 all_goals first|(simp_all[Bp,Gj,Fq,Vo,A0,A8,scn0];done)|((unfold Bp;simp_all[Gj,Fq,Vo,A0,A8,scn0];done))|(grind[Bp,Gj,Fq,Vo,A0,A8,scn0])
set_option maxHeartbeats 1600000 in
theorem Ym (d:Dcd) (b:Int) (w:Int) (hp1:MW d) (hp2:(0:Int)≤b∧b≤255) (hp3:w=Bs d) (hp4:(d).mode=8→Tw (d).field=true):Fun Tryz.prog 255 [.agg (Ad 0 1 d),vI b,vI w] [.tree d.plan.shapes,.lst .lev d.stack] (.tup [.agg (Ad 2 3 (Dp ⟨d,[]⟩ b).d),vO 4]) [.dead,.dead,.tree (Dp ⟨d,[]⟩ b).d.plan.shapes,.lst .lev (Dp ⟨d,[]⟩ b).d.stack,.lst .ev (Dp ⟨d,[]⟩ b).out]:=by
 have hN:Bb=274877906944:=rfl
 have hlv:=B3 hp1.lv
 have hpt:=Cc hlv.1
 have htb:=G5 hp1.lv
 have hbb:=hp1.b0
 have hat:=hp1.at_
 have hwt:=hp1.want
 have hwd:=Jf d
 have hfb:=Zt (b:=b) hbb
 refine Ap Tryz.func255 Q4 Q4 (w:=let zi:Int→C:= .int .i64;let z1:List C:=[zi d.start,zi d.at_,zi d.field.number,zi d.field.kind,.bool d.field.rep,.bool d.field.packed,zi d.field.msg,zi d.wire,zi d.want,zi d.utf.want,zi d.utf.low,zi d.utf.high,zi d.end_.kind,zi d.end_.field,.int .u64 d.end_.bits,zi d.end_.len,.str d.end_.text,zi d.end_.code,zi d.end_.at_];let z3:=(⟨d.plan,d.mode,d.stack,(⟨0,0⟩:Scn),d.start,d.at_,d.field,d.wire,d.want,d.utf,d.end_⟩:Dcd);let z6:List Blk:= .dead:: .dead::Ls (Dp ⟨d,[]⟩ b).d (Dp ⟨d,[]⟩ b).out;let z7:=Bt d.scan b;let z2:=Ae (Bm ⟨z3,[]⟩ z7.bits);let z4:S:= .tup [.agg (Ad 2 3 z2.d),vO 4];let z5:List Blk:= .dead:: .dead::Ls z2.d z2.out;let z8:S:= .tup [.agg (Ad 2 3 (Dp ⟨d,[]⟩ b).d),vO 4];let z10:=Gi d.field z7.bits;let z12:=A8 z3 9 d.at_;let z9:S:= .tup [.agg (Ad 2 3 z12),vO 4];let z11:List Blk:= .dead:: .dead::Ls z12 [A2 9 d.at_];(.seg [.call [] (.v (.agg (Km z7))) []] (.br (.seg [.ty .ev,.at 0,.cut 3 0,.cut 3 5] (.leaf () [0,1,6,7,5])) (.br (.br (.br (.seg [.call [] (.v (.agg (cEv z10))) [],.call [0,1] z9 z11,.tree (.first 0 (.first 1 (.first 3 (.one 2 (.one 4 (.one 5 (.first 6 (.done)))))))) 5 [8],.ty .ev,.ty .ev] (.leaf () [0,1,6,7,11])) (.seg [.call [0,1] z4 z5] (.leaf () [0,1,5,6,7]))) (.seg [.call [0,1] z4 z5] (.leaf () [0,1,5,6,7]))) (.seg [.call [0,1] z4 z5] (.leaf () [0,1,5,6,7])))),(Fp 285 [.agg (Km d.scan),vI b] [] (.v (.agg (Km z7))) [])∧Bc (decide (z7.have_<w)) (Lf (.tup [.agg (.own 2::zi d.plan.root::zi d.plan.deep::zi d.plan.most::zi d.mode:: .own 3:: .int .u64 z7.bits::zi z7.have_::z1),vO 4]) z8 (.dead:: .dead::Ls d ([]:List Ev)) z6) (Bc (decide (d.mode=8)) (Bc (decide (0<d.want)) (Bc (decide (d.want<w)) ((Fp 195 [.agg (Fr d.field),.c (.int .u64 z7.bits)] [] (.v (.agg (cEv z10))) [])∧(Fp 253 [.agg (.own 0::zi d.plan.root::zi d.plan.deep::zi d.plan.most::zi d.mode:: .own 1:: .int .u64 0::zi 0::z1),vI 9,vI d.at_] (L2 d) z9 z11)∧(List.length [z10]+List.length [A2 9 d.at_]≤Bb)∧Lf z9 z8 (.dead:: .dead::Ls z12 ([z10]++[A2 9 d.at_])) z6) ((Fp 286 [.agg (.own 0::zi d.plan.root::zi d.plan.deep::zi d.plan.most::zi d.mode:: .own 1:: .int .u64 0::zi 0::z1),.c (.int .u64 z7.bits)] (L2 d) z4 z5)∧Lf z4 z8 z5 z6)) ((Fp 286 [.agg (.own 0::zi d.plan.root::zi d.plan.deep::zi d.plan.most::zi d.mode:: .own 1:: .int .u64 0::zi 0::z1),.c (.int .u64 z7.bits)] (L2 d) z4 z5)∧Lf z4 z8 z5 z6)) ((Fp 286 [.agg (.own 0::zi d.plan.root::zi d.plan.deep::zi d.plan.most::zi d.mode:: .own 1:: .int .u64 0::zi 0::z1),.c (.int .u64 z7.bits)] (L2 d) z4 z5)∧Lf z4 z8 z5 z6)))) Q4 ?_
 refine⟨(Afz d.scan _),dsp (fun h1 p1=>?_) fun h1 p1=>?_⟩
 refine zD ((Dp ⟨d,[]⟩ b).d) (⟨d.plan,d.mode,d.stack,(Bt d.scan b),d.start,d.at_,d.field,d.wire,d.want,d.utf,d.end_⟩:Dcd) ((Dp ⟨d,[]⟩ b).out) ([]:List Ev) (fun hm1 hm2=>⟨Q6,Q10⟩) ?_ ?_
 rotate_left 2
 refine dsp (fun h2 p2=>?_) fun h2 p2=>?_
 refine dsp (fun h3 p3=>?_) fun h3 p3=>?_
 refine dsp (fun h4 p4=>?_) fun h4 p4=>?_
 refine zD ((Dp ⟨d,[]⟩ b).d) (A8 (⟨d.plan,d.mode,d.stack,(⟨0,0⟩:Scn),d.start,d.at_,d.field,d.wire,d.want,d.utf,d.end_⟩:Dcd) 9 d.at_) ((Dp ⟨d,[]⟩ b).out) ([(Gi d.field (Bt d.scan b).bits)]++[A2 9 d.at_]) (fun hm1 hm2=>⟨(S7 d.field _ Q2),(C6 (⟨d.plan,d.mode,d.stack,(⟨0,0⟩:Scn),d.start,d.at_,d.field,d.wire,d.want,d.utf,d.end_⟩:Dcd) _ _),Q5,Q6,Q10⟩) ?_ ?_
 rotate_left 2
 refine zM Mac.d Mac.out (Dp ⟨d,[]⟩ b) (Ae (Bm ⟨(⟨d.plan,d.mode,d.stack,(⟨0,0⟩:Scn),d.start,d.at_,d.field,d.wire,d.want,d.utf,d.end_⟩:Dcd),[]⟩ (Bt d.scan b).bits)) (fun hm1 hm2=>⟨(Vw (⟨d.plan,d.mode,d.stack,(⟨0,0⟩:Scn),d.start,d.at_,d.field,d.wire,d.want,d.utf,d.end_⟩:Dcd) _ Q7 Q2),Q6,Q10⟩) ?_ ?_
 rotate_left 2
 refine zM Mac.d Mac.out (Dp ⟨d,[]⟩ b) (Ae (Bm ⟨(⟨d.plan,d.mode,d.stack,(⟨0,0⟩:Scn),d.start,d.at_,d.field,d.wire,d.want,d.utf,d.end_⟩:Dcd),[]⟩ (Bt d.scan b).bits)) (fun hm1 hm2=>⟨(Vw (⟨d.plan,d.mode,d.stack,(⟨0,0⟩:Scn),d.start,d.at_,d.field,d.wire,d.want,d.utf,d.end_⟩:Dcd) _ Q7 Q2),Q6,Q10⟩) ?_ ?_
 rotate_left 2
 refine zM Mac.d Mac.out (Dp ⟨d,[]⟩ b) (Ae (Bm ⟨(⟨d.plan,d.mode,d.stack,(⟨0,0⟩:Scn),d.start,d.at_,d.field,d.wire,d.want,d.utf,d.end_⟩:Dcd),[]⟩ (Bt d.scan b).bits)) (fun hm1 hm2=>⟨(Vw (⟨d.plan,d.mode,d.stack,(⟨0,0⟩:Scn),d.start,d.at_,d.field,d.wire,d.want,d.utf,d.end_⟩:Dcd) _ Q7 Q2),Q6,Q10⟩) ?_ ?_
 rotate_left 2
 all_goals first|(simp_all[Dp,Fq,A0,A8,scn0,Se,Mu];done)|((have hne:d.field≠fld0:=Ajt (hp4 (by assumption));have hff:Dp ⟨d,[]⟩ b=A0 (Bm ⟨Fq d scn0,[]⟩ (Bt d.scan b).bits) 9 d.at_:=(by unfold Dp;simp only;rw[if_neg (by omega),if_pos ⟨by assumption,by assumption,by omega⟩]);rw[hff];simp[A0,A8,Bm,Fq,scn0,hne];done))|(grind[Dp,Fq,A0,A8,scn0,Bm,Se,Mu])
set_option maxHeartbeats 3200000 in
theorem Yn (d:Dcd) (b:Int) (hp1:List.length (d).plan.shapes≤1048576) (hp2: ∀e∈(d).plan.shapes,List.length e.fields≤1048576) (hp3:List.length (d).stack≤1048576) (hp4:(0:Int)≤(d).scan.bits∧(d).scan.bits≤18446744073709551615):Fun Tryz.prog 203 [.agg (Bu d),vI b] [] (.tup [.agg (Ad 0 1 (B8 d b).d),vO 2]) [.tree (B8 d b).d.plan.shapes,.lst .lev (B8 d b).d.stack,.lst .ev (B8 d b).out]:=by
 have hN:Bb=274877906944:=rfl
 refine Ap Tryz.func203 Q4 Q4 (w:=let zi:Int→C:= .int .i64;let z14:List C:=[zi 4,zi 0,.int .u64 0,zi 0,.str (List.map A9 [b]),zi 0,zi 0];let z15:List C:=[zi d.end_.kind,zi d.end_.field,.int .u64 d.end_.bits,zi d.end_.len,.str d.end_.text,zi d.end_.code,zi d.end_.at_];let z16:=(⟨d.plan,d.mode,d.stack,d.scan,d.start,d.at_+1,d.field,d.wire,d.want-1,d.utf,d.end_⟩:Dcd);let z17:=(⟨d.plan,d.mode,d.stack,d.scan,d.start,d.at_+1,d.field,d.wire,d.want,d.utf,d.end_⟩:Dcd);let z19:S:= .tup [.agg (Ad 0 1 (B8 d b).d),vO 2];let z20:=((List.length d.stack:Nat):Int);let z21:=Ls (B8 d b).d (B8 d b).out;let z22:=(⟨4,0,0,0,List.map A9 [b],0,0⟩:Ev);let z23:=Ae ⟨z16,[]⟩;let z24:S:= .v (vI (Bs d));let z26:=(.v (.c (.int .u8 (IntKind.u8.wrap (b)))):S)= .v (.c (.int .u8 b));let z27:=Lf (.tup [.agg (Ad 0 1 d),vO 2]) z19 (Ls d ([]:List Ev)) z21;let z28:S:= .tup [.agg (Ad 2 3 z23.d),vO 4];let z29:=Bp ⟨z16,[]⟩ b d.at_;let z30:=Bp ⟨z17,[]⟩ b d.at_;let z31:=decide (d.mode=7);let z33:=decide (d.mode=6);let z34:=Dp ⟨z16,[]⟩ b;let z35:=Dp ⟨z17,[]⟩ b;let z36:=d.want-1;let z37:=Int.toNat (z20-1);let z38:List Blk:= .dead:: .dead::Ls z23.d z23.out;let z39:=A8 z16 5 d.at_;let z40:S:= .tup [.agg (Ad 0 1 z23.d),vO 2];let z41:=decide (0<Bs d);let z42:S:= .v (.c (.int .u8 b));let z43:=(0:Int)≤z20-1;let z44:S:= .v (vI z36);let z45:=Bq d.utf b;let z25:=z45.getD d.utf;let z18:=Ae ⟨(⟨d.plan,d.mode,d.stack,d.scan,d.start,d.at_+1,d.field,d.wire,d.want-1,z25,d.end_⟩:Dcd),[]⟩;let z32:S:= .tup [.agg (J8 z25),vB z45.isSome];let z46:=z20-1<z20;let z47:S:= .tup [.agg (Ad 2 3 z18.d),vO 4];let z48:S:= .tup [.agg (Ad 2 3 z34.d),vO 4];let z49:S:= .tup [.agg (Ad 2 3 z29.d),vO 4];let z50:S:= .tup [.agg (Ad 2 3 z35.d),vO 4];let z51:S:= .tup [.agg (Ad 2 3 z30.d),vO 4];let z52:List Blk:= .dead:: .dead::Ls z18.d (z22::z18.out);let z53:List Blk:= .dead:: .dead::Ls z23.d (z22::z23.out);let z54:S:= .tup [.agg (Ad 2 3 z39),vO 4];let z55:=wI (z20-1);let z56:=d.at_+1;let z11:List C:= .own 0::zi d.plan.root::zi d.plan.deep::zi d.plan.most::zi d.mode:: .own 1:: .int .u64 d.scan.bits::zi d.scan.have_::zi d.start::zi z56::zi d.field.number::zi d.field.kind:: .bool d.field.rep:: .bool d.field.packed::zi d.field.msg::zi d.wire::zi z36::zi d.utf.want::zi d.utf.low::zi d.utf.high::z15;let z12:List C:= .own 0::zi d.plan.root::zi d.plan.deep::zi d.plan.most::zi d.mode:: .own 1:: .int .u64 d.scan.bits::zi d.scan.have_::zi d.start::zi z56::zi d.field.number::zi d.field.kind:: .bool d.field.rep:: .bool d.field.packed::zi d.field.msg::zi d.wire::zi d.want::zi d.utf.want::zi d.utf.low::zi d.utf.high::z15;let z13:List C:= .own 0::zi d.plan.root::zi d.plan.deep::zi d.plan.most::zi d.mode:: .own 1:: .int .u64 d.scan.bits::zi d.scan.have_::zi d.start::zi z56::zi d.field.number::zi d.field.kind:: .bool d.field.rep:: .bool d.field.packed::zi d.field.msg::zi d.wire::zi z36::zi z25.want::zi z25.low::zi z25.high::z15;let z57:List Blk:= .dead:: .dead::Ls z39 [A2 5 d.at_];let z58:=z31=false;let z59:=z33=false;(.seg [.call [] (.v (.agg (Ad 0 1 d))) (L2 d),.call [] (.v (vB (Dh d))) []] (.br (.seg [.ty .ev] (.leaf () [2,3,5])) (.br (.seg [.ty .ev] (.leaf () [2,3,5])) (.seg [.call [] (.v (vB (Ak b 0 255))) []] (.br (.seg [.ty .ev] (.leaf () [2,3,5])) (.br (.seg [.ty .ev] (.leaf () [2,3,5])) (.seg [.as 35 (.v (vI z56))] (.br (.intro (Sx (d.stack[Int.toNat (z20-1)]?)) fun x1=>let z4:=(⟨x1.msg,x1.left-1⟩:Lev);let z1:=(⟨d.plan,d.mode,List.set d.stack z37 z4,d.scan,d.start,d.at_+1,d.field,d.wire,d.want-1,d.utf,d.end_⟩:Dcd);let z2:=(⟨d.plan,d.mode,List.set d.stack z37 z4,d.scan,d.start,d.at_+1,d.field,d.wire,d.want,d.utf,d.end_⟩:Dcd);let z3:=Ae ⟨(⟨d.plan,d.mode,List.set d.stack z37 z4,d.scan,d.start,d.at_+1,d.field,d.wire,d.want-1,z25,d.end_⟩:Dcd),[]⟩;.seg [.ord (os 15 [14]) [],.as 45 (.v (vI (z20-1))),.as 49 (.v (vI (z20-1))),.el .lev x1,.as 53 (.v (vI (x1.left-1))),.el .lev x1] (.br (.seg [.as 71 z44,.call [] z24 []] (.br (.seg [.call [2,3] (.tup [.agg (Ad 2 3 (Ae ⟨z1,[]⟩).d),vO 4]) (.dead:: .dead::Ls (Ae ⟨z1,[]⟩).d (Ae ⟨z1,[]⟩).out)] (.leaf () [5,6,7])) (.seg [.br true] (.br (.seg [.call [] z32 []] (.br (.seg [.call [2,3] (.tup [.agg (Ad 2 3 (A8 z1 5 d.at_)),vO 4]) (.dead:: .dead::Ls (A8 z1 5 d.at_) [A2 5 d.at_])] (.leaf () [6,7,8])) (.seg [.as 110 z42,.ty .u8,.call [2,3] (.tup [.agg (Ad 2 3 z3.d),vO 4]) (.dead:: .dead::Ls z3.d (z22::z3.out))] (.leaf () [7,8,9])))) (.seg [.as 110 z42,.ty .u8,.call [2,3] (.tup [.agg (Ad 2 3 (Ae ⟨z1,[]⟩).d),vO 4]) (.dead:: .dead::Ls (Ae ⟨z1,[]⟩).d (z22::(Ae ⟨z1,[]⟩).out))] (.leaf () [6,7,8])))))) (.br (.seg [.as 71 z44,.call [] z24 [],.br true,.call [2,3] (.tup [.agg (Ad 2 3 (Ae ⟨z1,[]⟩).d),vO 4]) (.dead:: .dead::Ls (Ae ⟨z1,[]⟩).d (Ae ⟨z1,[]⟩).out)] (.leaf () [5,6,7])) (.br (.seg [.as 71 z44,.call [] z24 [],.br false,.br false] (.br (.seg [.call [2,3] (.tup [.agg (Ad 2 3 (Dp ⟨z1,[]⟩ b).d),vO 4]) (.dead:: .dead::Ls (Dp ⟨z1,[]⟩ b).d (Dp ⟨z1,[]⟩ b).out)] (.leaf () [5,6,7])) (.seg [.call [2,3] (.tup [.agg (Ad 2 3 (Bp ⟨z1,[]⟩ b d.at_).d),vO 4]) (.dead:: .dead::Ls (Bp ⟨z1,[]⟩ b d.at_).d (Bp ⟨z1,[]⟩ b d.at_).out)] (.leaf () [5,6,7])))) (.seg [.call [] z24 [],.br false,.br false] (.br (.seg [.call [2,3] (.tup [.agg (Ad 2 3 (Dp ⟨z2,[]⟩ b).d),vO 4]) (.dead:: .dead::Ls (Dp ⟨z2,[]⟩ b).d (Dp ⟨z2,[]⟩ b).out)] (.leaf () [5,6,7])) (.seg [.call [2,3] (.tup [.agg (Ad 2 3 (Bp ⟨z2,[]⟩ b d.at_).d),vO 4]) (.dead:: .dead::Ls (Bp ⟨z2,[]⟩ b d.at_).d (Bp ⟨z2,[]⟩ b d.at_).out)] (.leaf () [5,6,7])))))))) (.br (.seg [.as 71 z44,.call [] z24 []] (.br (.seg [.call [2,3] z28 z38] (.leaf () [5,6,7])) (.seg [.br true] (.br (.seg [.call [] z32 []] (.br (.seg [.call [2,3] z54 z57] (.leaf () [6,7,8])) (.seg [.as 110 z42,.ty .u8,.call [2,3] z47 z52] (.leaf () [7,8,9])))) (.seg [.as 110 z42,.ty .u8,.call [2,3] z28 z53] (.leaf () [6,7,8])))))) (.br (.seg [.as 71 z44,.call [] z24 [],.br true,.call [2,3] z28 z38] (.leaf () [5,6,7])) (.br (.seg [.as 71 z44,.call [] z24 [],.br false,.br false] (.br (.seg [.call [2,3] z48 (.dead:: .dead::Ls z34.d z34.out)] (.leaf () [5,6,7])) (.seg [.call [2,3] z49 (.dead:: .dead::Ls z29.d z29.out)] (.leaf () [5,6,7])))) (.seg [.call [] z24 [],.br false,.br false] (.br (.seg [.call [2,3] z50 (.dead:: .dead::Ls z35.d z35.out)] (.leaf () [5,6,7])) (.seg [.call [2,3] z51 (.dead:: .dead::Ls z30.d z30.out)] (.leaf () [5,6,7])))))))))))))),(Fp 83 [.agg (Bu d)] [] (.v (.agg (Ad 0 1 d))) (L2 d))∧(Fp 249 [.agg (Bu d)] [] (.v (vB (Dh d))) [])∧Bc (!(Dh d)) z27 (Bc (decide (d.mode=9)) z27 ((Fp 71 [vI b,vI 0,vI 255] [] (.v (vB (Ak b 0 255))) [])∧Bc (!(Ak b 0 255)) z27 (Bc (decide (d.at_=1000000000)) z27 ((wI z56)∧Bc (decide (0<z20)) (El (d.stack[Int.toNat (z20-1)]?) fun x1=>(let z9:=d.stack[Int.toNat (z20-1)]? =some x1;let z10:=(⟨x1.msg,x1.left-1⟩:Lev);let z5:=(⟨d.plan,d.mode,List.set d.stack z37 z10,d.scan,d.start,d.at_+1,d.field,d.wire,d.want-1,d.utf,d.end_⟩:Dcd);let z6:=(⟨d.plan,d.mode,List.set d.stack z37 z10,d.scan,d.start,d.at_+1,d.field,d.wire,d.want,d.utf,d.end_⟩:Dcd);let z7:=Ae ⟨(⟨d.plan,d.mode,List.set d.stack z37 z10,d.scan,d.start,d.at_+1,d.field,d.wire,d.want-1,z25,d.end_⟩:Dcd),[]⟩;let z8:=List.set d.stack z37 z10;z55∧z55∧z55∧z55∧z46∧z43∧z46∧z43∧z9∧z9∧(wI (x1.left-1))∧(wI (x1.left-1))∧z46∧z43∧z46∧z43∧z9∧Bc z33 ((wI z36)∧(Fp 250 [.agg (Bu d)] [] z24 [])∧Bc z31 ((Fp 251 [.agg z11] [.tree d.plan.shapes,.lst .lev z8] (.tup [.agg (Ad 2 3 (Ae ⟨z5,[]⟩).d),vO 4]) (.dead:: .dead::Ls (Ae ⟨z5,[]⟩).d (Ae ⟨z5,[]⟩).out))∧Lf (.tup [.agg (Ad 0 1 (Ae ⟨z5,[]⟩).d),vO 2]) z19 (Ls (Ae ⟨z5,[]⟩).d (Ae ⟨z5,[]⟩).out) z21) ((z33=true)∧Bc (decide (d.field.kind=6)) ((Fp 252 [.agg (J8 d.utf),vI b] [] z32 [])∧Bc (!z45.isSome) ((Fp 253 [.agg z11,vI 5,vI d.at_] [.tree d.plan.shapes,.lst .lev z8] (.tup [.agg (Ad 2 3 (A8 z5 5 d.at_)),vO 4]) (.dead:: .dead::Ls (A8 z5 5 d.at_) [A2 5 d.at_]))∧Lf (.tup [.agg (Ad 0 1 (A8 z5 5 d.at_)),vO 2]) z19 (Ls (A8 z5 5 d.at_) [A2 5 d.at_]) z21) (z26∧(Fp 254 [.agg z13,.agg z14] [.tree d.plan.shapes,.lst .lev z8] (.tup [.agg (Ad 2 3 z7.d),vO 4]) (.dead:: .dead::Ls z7.d (z22::z7.out)))∧Lf (.tup [.agg (Ad 0 1 z7.d),vO 2]) z19 (Ls z7.d (z22::z7.out)) z21)) (z26∧(Fp 254 [.agg z11,.agg z14] [.tree d.plan.shapes,.lst .lev z8] (.tup [.agg (Ad 2 3 (Ae ⟨z5,[]⟩).d),vO 4]) (.dead:: .dead::Ls (Ae ⟨z5,[]⟩).d (z22::(Ae ⟨z5,[]⟩).out)))∧Lf (.tup [.agg (Ad 0 1 (Ae ⟨z5,[]⟩).d),vO 2]) z19 (Ls (Ae ⟨z5,[]⟩).d (z22::(Ae ⟨z5,[]⟩).out)) z21))) (Bc z31 ((wI z36)∧(Fp 250 [.agg (Bu d)] [] z24 [])∧(z31=true)∧(Fp 251 [.agg z11] [.tree d.plan.shapes,.lst .lev z8] (.tup [.agg (Ad 2 3 (Ae ⟨z5,[]⟩).d),vO 4]) (.dead:: .dead::Ls (Ae ⟨z5,[]⟩).d (Ae ⟨z5,[]⟩).out))∧Lf (.tup [.agg (Ad 0 1 (Ae ⟨z5,[]⟩).d),vO 2]) z19 (Ls (Ae ⟨z5,[]⟩).d (Ae ⟨z5,[]⟩).out) z21) (Bc (decide (d.mode=8)) ((wI z36)∧(Fp 250 [.agg (Bu d)] [] z24 [])∧z58∧z59∧Bc z41 ((Fp 255 [.agg z11,vI b,vI (Bs d)] [.tree d.plan.shapes,.lst .lev z8] (.tup [.agg (Ad 2 3 (Dp ⟨z5,[]⟩ b).d),vO 4]) (.dead:: .dead::Ls (Dp ⟨z5,[]⟩ b).d (Dp ⟨z5,[]⟩ b).out))∧Lf (.tup [.agg (Ad 0 1 (Dp ⟨z5,[]⟩ b).d),vO 2]) z19 (Ls (Dp ⟨z5,[]⟩ b).d (Dp ⟨z5,[]⟩ b).out) z21) ((Fp 256 [.agg z11,vI b,vI d.at_] [.tree d.plan.shapes,.lst .lev z8] (.tup [.agg (Ad 2 3 (Bp ⟨z5,[]⟩ b d.at_).d),vO 4]) (.dead:: .dead::Ls (Bp ⟨z5,[]⟩ b d.at_).d (Bp ⟨z5,[]⟩ b d.at_).out))∧Lf (.tup [.agg (Ad 0 1 (Bp ⟨z5,[]⟩ b d.at_).d),vO 2]) z19 (Ls (Bp ⟨z5,[]⟩ b d.at_).d (Bp ⟨z5,[]⟩ b d.at_).out) z21)) ((Fp 250 [.agg (Bu d)] [] z24 [])∧z58∧z59∧Bc z41 ((Fp 255 [.agg z12,vI b,vI (Bs d)] [.tree d.plan.shapes,.lst .lev z8] (.tup [.agg (Ad 2 3 (Dp ⟨z6,[]⟩ b).d),vO 4]) (.dead:: .dead::Ls (Dp ⟨z6,[]⟩ b).d (Dp ⟨z6,[]⟩ b).out))∧Lf (.tup [.agg (Ad 0 1 (Dp ⟨z6,[]⟩ b).d),vO 2]) z19 (Ls (Dp ⟨z6,[]⟩ b).d (Dp ⟨z6,[]⟩ b).out) z21) ((Fp 256 [.agg z12,vI b,vI d.at_] [.tree d.plan.shapes,.lst .lev z8] (.tup [.agg (Ad 2 3 (Bp ⟨z6,[]⟩ b d.at_).d),vO 4]) (.dead:: .dead::Ls (Bp ⟨z6,[]⟩ b d.at_).d (Bp ⟨z6,[]⟩ b d.at_).out))∧Lf (.tup [.agg (Ad 0 1 (Bp ⟨z6,[]⟩ b d.at_).d),vO 2]) z19 (Ls (Bp ⟨z6,[]⟩ b d.at_).d (Bp ⟨z6,[]⟩ b d.at_).out) z21)))))) (Bc z33 ((wI z36)∧(Fp 250 [.agg (Bu d)] [] z24 [])∧Bc z31 ((Fp 251 [.agg z11] (L2 d) z28 z38)∧Lf z40 z19 (Ls z23.d z23.out) z21) ((z33=true)∧Bc (decide (d.field.kind=6)) ((Fp 252 [.agg (J8 d.utf),vI b] [] z32 [])∧Bc (!z45.isSome) ((Fp 253 [.agg z11,vI 5,vI d.at_] (L2 d) z54 z57)∧Lf (.tup [.agg (Ad 0 1 z39),vO 2]) z19 (Ls z39 [A2 5 d.at_]) z21) (z26∧(Fp 254 [.agg z13,.agg z14] (L2 d) z47 z52)∧Lf (.tup [.agg (Ad 0 1 z18.d),vO 2]) z19 (Ls z18.d (z22::z18.out)) z21)) (z26∧(Fp 254 [.agg z11,.agg z14] (L2 d) z28 z53)∧Lf z40 z19 (Ls z23.d (z22::z23.out)) z21))) (Bc z31 ((wI z36)∧(Fp 250 [.agg (Bu d)] [] z24 [])∧(z31=true)∧(Fp 251 [.agg z11] (L2 d) z28 z38)∧Lf z40 z19 (Ls z23.d z23.out) z21) (Bc (decide (d.mode=8)) ((wI z36)∧(Fp 250 [.agg (Bu d)] [] z24 [])∧z58∧z59∧Bc z41 ((Fp 255 [.agg z11,vI b,vI (Bs d)] (L2 d) z48 (.dead:: .dead::Ls z34.d z34.out))∧Lf (.tup [.agg (Ad 0 1 z34.d),vO 2]) z19 (Ls z34.d z34.out) z21) ((Fp 256 [.agg z11,vI b,vI d.at_] (L2 d) z49 (.dead:: .dead::Ls z29.d z29.out))∧Lf (.tup [.agg (Ad 0 1 z29.d),vO 2]) z19 (Ls z29.d z29.out) z21)) ((Fp 250 [.agg (Bu d)] [] z24 [])∧z58∧z59∧Bc z41 ((Fp 255 [.agg z12,vI b,vI (Bs d)] (L2 d) z50 (.dead:: .dead::Ls z35.d z35.out))∧Lf (.tup [.agg (Ad 0 1 z35.d),vO 2]) z19 (Ls z35.d z35.out) z21) ((Fp 256 [.agg z12,vI b,vI d.at_] (L2 d) z51 (.dead:: .dead::Ls z30.d z30.out))∧Lf (.tup [.agg (Ad 0 1 z30.d),vO 2]) z19 (Ls z30.d z30.out) z21))))))))))) Q4 ?_
 refine⟨(Lw d Q2 (hp2) Q2),(Aj8 d Q2 Q2),fun h1=>have q1:=Ao h1;?_,fun h1=>have q1:=An h1;?_⟩
 refine zD ((B8 d b).d) d ((B8 d b).out) ([]:List Ev) (fun hm1 hm2=>⟨Q6,Q10⟩) ?_ ?_
 rotate_left 2
 have hok:Dh d=true:=q1
 have hmw:=Ye hok hp4
 have hlv:=B3 hmw.lv
 have hpt:=Cc hlv.1
 have htb:=G5 hmw.lv
 have hbb:=hmw.b0
 have hat:=hmw.at_
 have hwt:=hmw.want
 have hwd:=Jf d
 refine dsp (fun h2 p2=>?_) fun h2 p2=>?_
 refine zD ((B8 d b).d) d ((B8 d b).out) ([]:List Ev) (fun hm1 hm2=>⟨Q6,Q10⟩) ?_ ?_
 rotate_left 2
 have hst:=Yf hok (by simpa using h2)
 refine⟨(Be _ _ _),fun h3=>have q3:=Ao h3;have p3:=Aw q3;?_,fun h3=>have q3:=An h3;have p3:=Ar q3;?_⟩
 refine zD ((B8 d b).d) d ((B8 d b).out) ([]:List Ev) (fun hm1 hm2=>⟨Q6,Q10⟩) ?_ ?_
 rotate_left 2
 have hwi:=Ar q3
 refine dsp (fun h4 p4=>?_) fun h4 p4=>?_
 refine zD ((B8 d b).d) d ((B8 d b).out) ([]:List Ev) (fun hm1 hm2=>⟨Q6,Q10⟩) ?_ ?_
 rotate_left 2
 have hms:=hmw.step hst.1 hst.2.1 hst.2.2.1
 have htk:E1 d=true:=by simp only[E1,Bool.and_eq_true,Bool.not_eq_true',decide_eq_false_iff_not,decide_eq_true_eq];omega
 have hsb:B8 d b=Eb ⟨d,[]⟩ b:=by unfold B8;rw[if_pos ⟨hok,htk,by assumption⟩]
 refine⟨(Ac Q2 Q2),dsp (fun h5 p5=>?_) fun h5 p5=>?_⟩
 have hne:d.stack≠[]:=fun e=>by have:=congrArg List.length e;simp only[List.length_nil] at this;omega
 refine⟨(Bh (l:=d.stack) (i:=Int.toNat (((List.length d.stack:Nat):Int)-1)) Q2),fun x1 hx1=>?_⟩
 have hll:=Jb (d:=d) (by rw[←hx1];congr 1;omega)
 have hix:Int.toNat ((d.stack.length:Int)-1)=d.stack.length-1:=by omega
 refine⟨(Ac Q2 Q2),(Ac Q2 Q2),(Ac Q2 Q2),(Ac Q2 Q2),Q2,Q2,Q2,Q2,hx1,hx1,(Ac Q2 Q2),(Ac Q2 Q2),Q2,Q2,Q2,Q2,hx1,dsp (fun h6 p6=>?_) fun h6 p6=>?_⟩
 refine⟨(Ac Q2 Q2),(Je d),dsp (fun h7 p7=>?_) fun h7 p7=>?_⟩
 refine zM Mac.d Mac.out (B8 d b) (Ae ⟨(⟨d.plan,d.mode,List.set d.stack (Int.toNat (((List.length d.stack:Nat):Int)-1)) (⟨x1.msg,x1.left-1⟩:Lev),d.scan,d.start,d.at_+1,d.field,d.wire,d.want-1,d.utf,d.end_⟩:Dcd),[]⟩) (fun hm1 hm2=>⟨(Hi (⟨d.plan,d.mode,List.set d.stack (Int.toNat (((List.length d.stack:Nat):Int)-1)) (⟨x1.msg,x1.left-1⟩:Lev),d.scan,d.start,d.at_+1,d.field,d.wire,d.want-1,d.utf,d.end_⟩:Dcd) Q20),Q6,Q10⟩) ?_ ?_
 rotate_left 2
 refine⟨h6,dsp (fun h8 p8=>?_) fun h8 p8=>?_⟩
 refine⟨(Sf d.utf _),fun h9=>have q9:=Ao h9;?_,fun h9=>have q9:=An h9;?_⟩
 have hu:Bq d.utf b=none:=by simpa using q9
 refine zD ((B8 d b).d) (A8 (⟨d.plan,d.mode,List.set d.stack (Int.toNat (((List.length d.stack:Nat):Int)-1)) (⟨x1.msg,x1.left-1⟩:Lev),d.scan,d.start,d.at_+1,d.field,d.wire,d.want-1,d.utf,d.end_⟩:Dcd) 5 d.at_) ((B8 d b).out) [A2 5 d.at_] (fun hm1 hm2=>⟨(C6 (⟨d.plan,d.mode,List.set d.stack (Int.toNat (((List.length d.stack:Nat):Int)-1)) (⟨x1.msg,x1.left-1⟩:Lev),d.scan,d.start,d.at_+1,d.field,d.wire,d.want-1,d.utf,d.end_⟩:Dcd) _ _),Q6,Q10⟩) ?_ ?_
 rotate_left 2
 obtain ⟨u,hu⟩:=Option.isSome_iff_exists.1 q9
 have hug:(Bq d.utf b).getD d.utf=u:=by rw[hu];rfl
 refine zD ((B8 d b).d) ((Ae ⟨(⟨d.plan,d.mode,List.set d.stack (Int.toNat (((List.length d.stack:Nat):Int)-1)) (⟨x1.msg,x1.left-1⟩:Lev),d.scan,d.start,d.at_+1,d.field,d.wire,d.want-1,((Bq d.utf b).getD d.utf),d.end_⟩:Dcd),[]⟩).d) ((B8 d b).out) ((⟨4,0,0,0,List.map A9 [b],0,0⟩:Ev)::(Ae ⟨(⟨d.plan,d.mode,List.set d.stack (Int.toNat (((List.length d.stack:Nat):Int)-1)) (⟨x1.msg,x1.left-1⟩:Lev),d.scan,d.start,d.at_+1,d.field,d.wire,d.want-1,((Bq d.utf b).getD d.utf),d.end_⟩:Dcd),[]⟩).out) (fun hm1 hm2=>⟨(Lr Q2 Q2),(Hj (⟨d.plan,d.mode,List.set d.stack (Int.toNat (((List.length d.stack:Nat):Int)-1)) (⟨x1.msg,x1.left-1⟩:Lev),d.scan,d.start,d.at_+1,d.field,d.wire,d.want-1,((Bq d.utf b).getD d.utf),d.end_⟩:Dcd) (⟨4,0,0,0,List.map A9 [b],0,0⟩:Ev) Q20),Q6,Q10⟩) ?_ ?_
 rotate_left 2
 refine zD ((B8 d b).d) ((Ae ⟨(⟨d.plan,d.mode,List.set d.stack (Int.toNat (((List.length d.stack:Nat):Int)-1)) (⟨x1.msg,x1.left-1⟩:Lev),d.scan,d.start,d.at_+1,d.field,d.wire,d.want-1,d.utf,d.end_⟩:Dcd),[]⟩).d) ((B8 d b).out) ((⟨4,0,0,0,List.map A9 [b],0,0⟩:Ev)::(Ae ⟨(⟨d.plan,d.mode,List.set d.stack (Int.toNat (((List.length d.stack:Nat):Int)-1)) (⟨x1.msg,x1.left-1⟩:Lev),d.scan,d.start,d.at_+1,d.field,d.wire,d.want-1,d.utf,d.end_⟩:Dcd),[]⟩).out) (fun hm1 hm2=>⟨(Lr Q2 Q2),(Hj (⟨d.plan,d.mode,List.set d.stack (Int.toNat (((List.length d.stack:Nat):Int)-1)) (⟨x1.msg,x1.left-1⟩:Lev),d.scan,d.start,d.at_+1,d.field,d.wire,d.want-1,d.utf,d.end_⟩:Dcd) (⟨4,0,0,0,List.map A9 [b],0,0⟩:Ev) Q20),Q6,Q10⟩) ?_ ?_
 rotate_left 2
 refine dsp (fun h7 p7=>?_) fun h7 p7=>?_
 refine zM Mac.d Mac.out (B8 d b) (Ae ⟨(⟨d.plan,d.mode,List.set d.stack (Int.toNat (((List.length d.stack:Nat):Int)-1)) (⟨x1.msg,x1.left-1⟩:Lev),d.scan,d.start,d.at_+1,d.field,d.wire,d.want-1,d.utf,d.end_⟩:Dcd),[]⟩) (fun hm1 hm2=>⟨(Ac Q2 Q2),(Je d),h7,(Hi (⟨d.plan,d.mode,List.set d.stack (Int.toNat (((List.length d.stack:Nat):Int)-1)) (⟨x1.msg,x1.left-1⟩:Lev),d.scan,d.start,d.at_+1,d.field,d.wire,d.want-1,d.utf,d.end_⟩:Dcd) Q20),Q6,Q10⟩) ?_ ?_
 rotate_left 2
 refine dsp (fun h8 p8=>?_) fun h8 p8=>?_
 refine⟨(Ac Q2 Q2),(Je d),h7,h6,dsp (fun h9 p9=>?_) fun h9 p9=>?_⟩
 refine zM Mac.d Mac.out (B8 d b) (Dp ⟨(⟨d.plan,d.mode,List.set d.stack (Int.toNat (((List.length d.stack:Nat):Int)-1)) (⟨x1.msg,x1.left-1⟩:Lev),d.scan,d.start,d.at_+1,d.field,d.wire,d.want-1,d.utf,d.end_⟩:Dcd),[]⟩ b) (fun hm1 hm2=>⟨(Ym (⟨d.plan,d.mode,List.set d.stack (Int.toNat (((List.length d.stack:Nat):Int)-1)) (⟨x1.msg,x1.left-1⟩:Lev),d.scan,d.start,d.at_+1,d.field,d.wire,d.want-1,d.utf,d.end_⟩:Dcd) _ _ (Q44) Q2 Q7 (hst.2.2.2.1)),Q6,Q10⟩) ?_ ?_
 rotate_left 2
 refine zM Mac.d Mac.out (B8 d b) (Bp ⟨(⟨d.plan,d.mode,List.set d.stack (Int.toNat (((List.length d.stack:Nat):Int)-1)) (⟨x1.msg,x1.left-1⟩:Lev),d.scan,d.start,d.at_+1,d.field,d.wire,d.want-1,d.utf,d.end_⟩:Dcd),[]⟩ b d.at_) (fun hm1 hm2=>⟨(Uq (⟨d.plan,d.mode,List.set d.stack (Int.toNat (((List.length d.stack:Nat):Int)-1)) (⟨x1.msg,x1.left-1⟩:Lev),d.scan,d.start,d.at_+1,d.field,d.wire,d.want-1,d.utf,d.end_⟩:Dcd) _ _ (Q44) Q2),Q6,Q10⟩) ?_ ?_
 rotate_left 2
 refine⟨(Je d),h7,h6,dsp (fun h9 p9=>?_) fun h9 p9=>?_⟩
 refine zM Mac.d Mac.out (B8 d b) (Dp ⟨(⟨d.plan,d.mode,List.set d.stack (Int.toNat (((List.length d.stack:Nat):Int)-1)) (⟨x1.msg,x1.left-1⟩:Lev),d.scan,d.start,d.at_+1,d.field,d.wire,d.want,d.utf,d.end_⟩:Dcd),[]⟩ b) (fun hm1 hm2=>⟨(Ym (⟨d.plan,d.mode,List.set d.stack (Int.toNat (((List.length d.stack:Nat):Int)-1)) (⟨x1.msg,x1.left-1⟩:Lev),d.scan,d.start,d.at_+1,d.field,d.wire,d.want,d.utf,d.end_⟩:Dcd) _ _ (Q45) Q2 Q7 (hst.2.2.2.1)),Q6,Q10⟩) ?_ ?_
 rotate_left 2
 refine zM Mac.d Mac.out (B8 d b) (Bp ⟨(⟨d.plan,d.mode,List.set d.stack (Int.toNat (((List.length d.stack:Nat):Int)-1)) (⟨x1.msg,x1.left-1⟩:Lev),d.scan,d.start,d.at_+1,d.field,d.wire,d.want,d.utf,d.end_⟩:Dcd),[]⟩ b d.at_) (fun hm1 hm2=>⟨(Uq (⟨d.plan,d.mode,List.set d.stack (Int.toNat (((List.length d.stack:Nat):Int)-1)) (⟨x1.msg,x1.left-1⟩:Lev),d.scan,d.start,d.at_+1,d.field,d.wire,d.want,d.utf,d.end_⟩:Dcd) _ _ (Q45) Q2),Q6,Q10⟩) ?_ ?_
 rotate_left 2
 have hne:d.stack=[]:=List.eq_nil_of_length_eq_zero (by omega)
 refine dsp (fun h6 p6=>?_) fun h6 p6=>?_
 refine⟨(Ac Q2 Q2),(Je d),dsp (fun h7 p7=>?_) fun h7 p7=>?_⟩
 refine zM Mac.d Mac.out (B8 d b) (Ae ⟨(⟨d.plan,d.mode,d.stack,d.scan,d.start,d.at_+1,d.field,d.wire,d.want-1,d.utf,d.end_⟩:Dcd),[]⟩) (fun hm1 hm2=>⟨(Hi (⟨d.plan,d.mode,d.stack,d.scan,d.start,d.at_+1,d.field,d.wire,d.want-1,d.utf,d.end_⟩:Dcd) Q7),Q6,Q10⟩) ?_ ?_
 rotate_left 2
 refine⟨h6,dsp (fun h8 p8=>?_) fun h8 p8=>?_⟩
 refine⟨(Sf d.utf _),fun h9=>have q9:=Ao h9;?_,fun h9=>have q9:=An h9;?_⟩
 have hu:Bq d.utf b=none:=by simpa using q9
 refine zD ((B8 d b).d) (A8 (⟨d.plan,d.mode,d.stack,d.scan,d.start,d.at_+1,d.field,d.wire,d.want-1,d.utf,d.end_⟩:Dcd) 5 d.at_) ((B8 d b).out) [A2 5 d.at_] (fun hm1 hm2=>⟨(C6 (⟨d.plan,d.mode,d.stack,d.scan,d.start,d.at_+1,d.field,d.wire,d.want-1,d.utf,d.end_⟩:Dcd) _ _),Q6,Q10⟩) ?_ ?_
 rotate_left 2
 obtain ⟨u,hu⟩:=Option.isSome_iff_exists.1 q9
 have hug:(Bq d.utf b).getD d.utf=u:=by rw[hu];rfl
 refine zD ((B8 d b).d) ((Ae ⟨(⟨d.plan,d.mode,d.stack,d.scan,d.start,d.at_+1,d.field,d.wire,d.want-1,((Bq d.utf b).getD d.utf),d.end_⟩:Dcd),[]⟩).d) ((B8 d b).out) ((⟨4,0,0,0,List.map A9 [b],0,0⟩:Ev)::(Ae ⟨(⟨d.plan,d.mode,d.stack,d.scan,d.start,d.at_+1,d.field,d.wire,d.want-1,((Bq d.utf b).getD d.utf),d.end_⟩:Dcd),[]⟩).out) (fun hm1 hm2=>⟨(Lr Q2 Q2),(Hj (⟨d.plan,d.mode,d.stack,d.scan,d.start,d.at_+1,d.field,d.wire,d.want-1,((Bq d.utf b).getD d.utf),d.end_⟩:Dcd) (⟨4,0,0,0,List.map A9 [b],0,0⟩:Ev) Q7),Q6,Q10⟩) ?_ ?_
 rotate_left 2
 refine zD ((B8 d b).d) ((Ae ⟨(⟨d.plan,d.mode,d.stack,d.scan,d.start,d.at_+1,d.field,d.wire,d.want-1,d.utf,d.end_⟩:Dcd),[]⟩).d) ((B8 d b).out) ((⟨4,0,0,0,List.map A9 [b],0,0⟩:Ev)::(Ae ⟨(⟨d.plan,d.mode,d.stack,d.scan,d.start,d.at_+1,d.field,d.wire,d.want-1,d.utf,d.end_⟩:Dcd),[]⟩).out) (fun hm1 hm2=>⟨(Lr Q2 Q2),(Hj (⟨d.plan,d.mode,d.stack,d.scan,d.start,d.at_+1,d.field,d.wire,d.want-1,d.utf,d.end_⟩:Dcd) (⟨4,0,0,0,List.map A9 [b],0,0⟩:Ev) Q7),Q6,Q10⟩) ?_ ?_
 rotate_left 2
 refine dsp (fun h7 p7=>?_) fun h7 p7=>?_
 refine zM Mac.d Mac.out (B8 d b) (Ae ⟨(⟨d.plan,d.mode,d.stack,d.scan,d.start,d.at_+1,d.field,d.wire,d.want-1,d.utf,d.end_⟩:Dcd),[]⟩) (fun hm1 hm2=>⟨(Ac Q2 Q2),(Je d),h7,(Hi (⟨d.plan,d.mode,d.stack,d.scan,d.start,d.at_+1,d.field,d.wire,d.want-1,d.utf,d.end_⟩:Dcd) Q7),Q6,Q10⟩) ?_ ?_
 rotate_left 2
 refine dsp (fun h8 p8=>?_) fun h8 p8=>?_
 refine⟨(Ac Q2 Q2),(Je d),h7,h6,dsp (fun h9 p9=>?_) fun h9 p9=>?_⟩
 refine zM Mac.d Mac.out (B8 d b) (Dp ⟨(⟨d.plan,d.mode,d.stack,d.scan,d.start,d.at_+1,d.field,d.wire,d.want-1,d.utf,d.end_⟩:Dcd),[]⟩ b) (fun hm1 hm2=>⟨(Ym (⟨d.plan,d.mode,d.stack,d.scan,d.start,d.at_+1,d.field,d.wire,d.want-1,d.utf,d.end_⟩:Dcd) _ _ (Q59) Q2 Q7 (hst.2.2.2.1)),Q6,Q10⟩) ?_ ?_
 rotate_left 2
 refine zM Mac.d Mac.out (B8 d b) (Bp ⟨(⟨d.plan,d.mode,d.stack,d.scan,d.start,d.at_+1,d.field,d.wire,d.want-1,d.utf,d.end_⟩:Dcd),[]⟩ b d.at_) (fun hm1 hm2=>⟨(Uq (⟨d.plan,d.mode,d.stack,d.scan,d.start,d.at_+1,d.field,d.wire,d.want-1,d.utf,d.end_⟩:Dcd) _ _ (Q59) Q2),Q6,Q10⟩) ?_ ?_
 rotate_left 2
 refine⟨(Je d),h7,h6,dsp (fun h9 p9=>?_) fun h9 p9=>?_⟩
 refine zM Mac.d Mac.out (B8 d b) (Dp ⟨(⟨d.plan,d.mode,d.stack,d.scan,d.start,d.at_+1,d.field,d.wire,d.want,d.utf,d.end_⟩:Dcd),[]⟩ b) (fun hm1 hm2=>⟨(Ym (⟨d.plan,d.mode,d.stack,d.scan,d.start,d.at_+1,d.field,d.wire,d.want,d.utf,d.end_⟩:Dcd) _ _ (Q60) Q2 Q7 (hst.2.2.2.1)),Q6,Q10⟩) ?_ ?_
 rotate_left 2
 refine zM Mac.d Mac.out (B8 d b) (Bp ⟨(⟨d.plan,d.mode,d.stack,d.scan,d.start,d.at_+1,d.field,d.wire,d.want,d.utf,d.end_⟩:Dcd),[]⟩ b d.at_) (fun hm1 hm2=>⟨(Uq (⟨d.plan,d.mode,d.stack,d.scan,d.start,d.at_+1,d.field,d.wire,d.want,d.utf,d.end_⟩:Dcd) _ _ (Q60) Q2),Q6,Q10⟩) ?_ ?_
 rotate_left 2
 all_goals first|((rw[hsb];simp_all[Eb,Di,Eg,Akx,A0,A8,Yd,Cg];done))|((rw[hsb];have hw0:Bs d=0:=(by omega);simp_all[Eb,Di,Eg,Akx,A0,A8,Yd,Cg];done))|((rw[hsb];grind[Eb,Di,Eg,Akx,A0,A8,Yd,Cg]))|(simp_all[B8,E1];done)|(grind[B8,E1])
structure K7 where
 d:Dcd
 out:List Ev
 i:Nat
def K8 (d:Dcd) (s:List UInt8):Fam:=⟨K7,fun q1=>[(1,.v (vT s)),(2,.v (vP 0)),(4,.v (vP 3)),(6,.v (vO 4)),(7,.v (vI ((q1.i:Nat):Int)))],fun q1=>[.cells (Ad 1 2 q1.d),.tree q1.d.plan.shapes,.lst .lev q1.d.stack,.cells [.nil,.int .i64 0,.int .i64 0,.int .i64 0,.int .i64 0,.nil,.int .u64 0,.int .i64 0,.int .i64 0,.int .i64 0,.int .i64 0,.int .i64 0,.bool false,.bool false,.int .i64 0,.int .i64 0,.int .i64 0,.int .i64 0,.int .i64 0,.int .i64 0,.int .i64 0,.int .i64 0,.int .u64 0,.int .i64 0,.str [],.int .i64 0,.int .i64 0],.lst .ev q1.out],fun q1=>q1.i≤List.length s∧Ce ⟨q1.d,q1.out⟩ (List.drop q1.i s)=Ce ⟨d,[]⟩ s∧(q1.d).plan=d.plan∧List.length (q1.d).stack≤1048576∧((0:Int)≤(q1.d).scan.bits∧(q1.d).scan.bits≤18446744073709551615)∧List.length q1.out≤14*q1.i,fun q1=>List.length s-q1.i⟩
theorem Af8 (d:Dcd) (s:List UInt8) (hp1:List.length (d).plan.shapes≤1048576) (hp2: ∀e∈(d).plan.shapes,List.length e.fields≤1048576) (hp3:List.length (d).stack≤1048576) (hp4:(0:Int)≤(d).scan.bits∧(d).scan.bits≤18446744073709551615) (hp5:List.length s≤1048576):Fun Tryz.prog 140 [.agg (Bu d),vT s] [] (.tup [.agg (Ad 0 1 (Ce ⟨d,[]⟩ s).d),vO 2]) [.tree (Ce ⟨d,[]⟩ s).d.plan.shapes,.lst .lev (Ce ⟨d,[]⟩ s).d.stack,.lst .ev (Ce ⟨d,[]⟩ s).out]:=by
 have hN:Bb=274877906944:=rfl
 refine Ap Tryz.func140 Q4 Q4 (w:=let zi:Int→C:= .int .i64;let z5:List C:=[.nil,zi 0,zi 0,zi 0,zi 0,.nil,.int .u64 0,zi 0,zi 0,zi 0,zi 0,zi 0,.bool false,.bool false,zi 0,zi 0,zi 0,zi 0,zi 0,zi 0,zi 0,zi 0,.int .u64 0,zi 0,.str [],zi 0,zi 0];let z6:=K8 d s;(.seg [.call [] (.v (.agg (Ad 0 1 d))) (L2 d),.ty .ev,.at 0,.keep [1,2,4,6,7],.sel [0,2,3,1,4]] (.loop z6 fun q1=> .br (.intro (Sx (s[q1.i]?)) fun x1=>let z1:=B8 q1.d ((UInt8.toNat x1:Nat):Int);.seg [.tree (fr (.two 5 (fr (.one 9 (.one 10 (.first 11 (.done)))) 6 3) 9 (.one 5 (fr (.one 10 (.first 11 (.done))) 6 3))) 0 5) 12 [],.ch x1,.as 24 (.v (vI ((UInt8.toNat x1:Nat):Int))),.call [] (.tup [.agg (Ad 0 1 z1.d),vO 2]) (Ls z1.d z1.out),.at 0,.keep [1,2,4,6,7,8,9],.sel [0,1,2,3,4,8,5,6,7],.call [] (.tup [.agg (Ad 0 1 z1.d),vO 2]) (Ls z1.d z1.out),.at 0,.keep [1,2,4,6,7,8,9],.sel [0,1,2,3,4,5,6,7,8],.ty .ev,.as 18 (.v (vI (((q1.i:Nat):Int)+1))),.at 0,.keep [1,2,4,6,7],.sel [0,6,7,3,9]] (.next)) (.leaf () [1,2,4])),(Fp 83 [.agg (Bu d)] [] (.v (.agg (Ad 0 1 d))) (L2 d))∧z6.Has [(1,.v (vT s)),(2,.v (vP 0)),(4,.v (vP 3)),(6,.v (vO 4)),(7,.v (vI 0))] [.cells (Ad 1 2 d),.tree d.plan.shapes,.lst .lev d.stack,.cells z5,.lst .ev ([]:List Ev)]∧∀q1,z6.inv q1→(let z4:=((q1.i:Nat):Int);Bc (decide (z4<((List.length s:Nat):Int))) (El (s[q1.i]?) fun x1=>(let z3:=((UInt8.toNat x1:Nat):Int);let z2:=B8 q1.d z3;(s[q1.i]? =some x1)∧((0:Int)≤z4)∧(s[q1.i]? =some x1)∧((0:Int)≤z4)∧(wI (z3))∧(wI (z3))∧(Fp 203 [.agg (Bu q1.d),vI z3] [] (.tup [.agg (Ad 0 1 z2.d),vO 2]) (Ls z2.d z2.out))∧(Fp 203 [.agg (Bu q1.d),vI z3] [] (.tup [.agg (Ad 0 1 z2.d),vO 2]) (Ls z2.d z2.out))∧(([.cells (Ad 1 2 q1.d),.tree q1.d.plan.shapes,.lst .lev q1.d.stack,.cells z5,.lst .ev q1.out,.cells (Ad 6 7 z2.d),.tree z2.d.plan.shapes,.lst .lev z2.d.stack,.lst .ev z2.out]:List Blk)=[.cells (Ad 1 2 q1.d),.tree q1.d.plan.shapes,.lst .lev q1.d.stack,.cells z5,.lst .ev q1.out,.cells (Ad 6 7 z2.d),.tree z2.d.plan.shapes,.lst .lev z2.d.stack,.lst .ev z2.out])∧(([(1,.v (vT s)),(2,.v (vP 0)),(4,.v (vP 3)),(6,.v (vO 4)),(7,.v (vI z4)),(8,.v (vP 5)),(9,.v (vO 8))]:List (Nat×S))=[(1,.v (vT s)),(2,.v (vP 0)),(4,.v (vP 3)),(6,.v (vO 4)),(7,.v (vI z4)),(8,.v (vP 5)),(9,.v (vO 8))])∧(List.length q1.out+List.length z2.out≤Bb)∧(wI (z4+1))∧z6.Nxt q1 [(1,.v (vT s)),(2,.v (vP 0)),(4,.v (vP 3)),(6,.v (vO 4)),(7,.v (vI (z4+1)))] [.cells (Ad 1 2 z2.d),.tree z2.d.plan.shapes,.lst .lev z2.d.stack,.cells z5,.lst .ev (q1.out++z2.out)])) (Lf (.tup [.agg (Ad 0 1 q1.d),vO 2]) (.tup [.agg (Ad 0 1 (Ce ⟨d,[]⟩ s).d),vO 2]) (Ls q1.d q1.out) (Ls (Ce ⟨d,[]⟩ s).d (Ce ⟨d,[]⟩ s).out))))) Q4 ?_
 refine⟨(Lw d Q2 (Q61) Q2),Bf (j:=(⟨d,([]:List Ev),0⟩:K7)) Q9 rfl (by dsimp only[K8];exact⟨by omega,rfl,rfl,hp3,hp4,by simp⟩),fun (q1:K7) hq_q1=>?_⟩
 have hi_q1:q1.i≤List.length s∧Ce ⟨q1.d,q1.out⟩ (List.drop q1.i s)=Ce ⟨d,[]⟩ s∧(q1.d).plan=d.plan∧List.length (q1.d).stack≤1048576∧((0:Int)≤(q1.d).scan.bits∧(q1.d).scan.bits≤18446744073709551615)∧List.length q1.out≤14*q1.i:=hq_q1
 obtain ⟨v1,v2,v3,v4,v5,v6⟩:=hi_q1
 have hsl:List.length q1.d.plan.shapes=List.length d.plan.shapes:=by rw[v3]
 have hsf: ∀e∈q1.d.plan.shapes,List.length e.fields≤1048576:=by rw[v3];exact hp2
 refine dsp (fun h1 p1=>?_) fun h1 p1=>?_
 refine⟨(Bh (l:=s) (i:=q1.i) Q2),fun x1 hx1=>?_⟩
 have hb_x1:=UInt8.toNat_lt x1
 rw[C2 hx1,Fh] at v2
 have hub:=Anp x1
 have hl:=Pj (d:=q1.d) (b:=((x1.toNat:Nat):Int))
 exact⟨hx1,Q2,hx1,Q2,(Ac Q2 Q2),(Ac Q2 Q2),(Yn q1.d _ Q2 (Q61) Q2 Q2),(Yn q1.d _ Q2 (Q61) Q2 Q2),rfl,rfl,Q2,(Ac Q2 Q2),A3 (j:=(⟨(B8 q1.d ((UInt8.toNat x1:Nat):Int)).d,q1.out++(B8 q1.d ((UInt8.toNat x1:Nat):Int)).out,q1.i+1⟩:K7)) Q9 rfl (by dsimp only[K8];exact⟨by omega,by rw[←v2];rfl,hl.1.trans v3,by omega,hl.2.2.2 v5,by rw[List.length_append];omega⟩) (by dsimp only[K8];omega)⟩
 rw[List.drop_eq_nil_of_le (by omega),So] at v2
 refine zD ((Ce ⟨d,[]⟩ s).d) q1.d ((Ce ⟨d,[]⟩ s).out) q1.out (fun hm1 hm2=>⟨Q6,Q10⟩) ?_ ?_
 rotate_left 2
 all_goals first|(rfl)|((rw[←v2];done))|(grind)
theorem Ey (s:List UInt8):List.map A9 (List.map (fun b=>(UInt8.toNat b:Int)) s)=s:=by
 rw[List.map_map]
 conv=>rhs;rw[←List.map_id s]
 apply List.map_congr_left
 intro b _
 simp[A9]
def Nx (l:List Ev):Ev:=l.getD (l.length-1) ev0
def Ny (e:Ev) (t:List UInt8):Ev:=⟨e.kind,e.field,e.bits,e.len,t,e.code,e.at_⟩
def tx:List Ev→Nat
 |[]=>0
 |e::r=>e.text.length+tx r
def E2 (o:List Ev) (e:Ev):List Ev:=
 if e.kind=4∧e.text=[] then o
 else if e.kind=4∧0<o.length∧(Nx o).kind=4 then o.set (o.length-1) (Ny (Nx o) ((Nx o).text++e.text))
 else o++[e]
def Ef (o l:List Ev):List Ev:=l.foldl E2 o
def B9 (l:List Ev):List Ev:=Ef [] l
theorem Td (o:List Ev):Ef o []=o:=rfl
theorem Er (o:List Ev) (e:Ev) (r:List Ev):Ef o (e::r)=Ef (E2 o e) r:=List.foldl_cons ..
theorem L0: ∀(a b:List Ev),tx (a++b)=tx a+tx b
 |[],b=>by simp[tx]
 |e::r,b=>by rw[List.cons_append,tx,tx,L0 r b];omega
theorem Ajc: ∀ {l:List Ev} {i:Nat} {x:Ev},l[i]? =some x→x.text.length≤tx l
 |[],i,x,h=>by simp at h
 |y::r,0,x,h=>by simp at h;subst h;rw[tx];omega
 |y::r,i+1,x,h=>by
  have:=Ajc (l:=r) (i:=i) (x:=x) (by simpa using h)
  rw[tx];omega
theorem Af9: ∀ {l:List Ev} {i:Nat} {x:Ev} (t:List UInt8),l[i]? =some x→tx (l.set i (Ny x (x.text++t)))=tx l+t.length
 |[],i,x,t,h=>by simp at h
 |y::r,0,x,t,h=>by simp at h;subst h;simp only[List.set_cons_zero,tx,Ny,List.length_append];omega
 |y::r,i+1,x,t,h=>by
  have:=Af9 (l:=r) (i:=i) (x:=x) t (by simpa using h)
  simp only[List.set_cons_succ,tx,this];omega
theorem Ur {l:List Ev} {x:Ev} (h:l[l.length-1]? =some x):Nx l=x:=by unfold Nx;exact Vi h
theorem P9 (o:List Ev) (e:Ev):Nx (o++[e])=e:=Ur (by simp)
theorem F3 {o:List Ev} {e:Ev} (h:e.kind=4) (ht:e.text=[]):E2 o e=o:=by unfold E2;rw[if_pos ⟨h,ht⟩]
theorem K9 {o:List Ev} {e:Ev} (h:e.kind≠4):E2 o e=o++[e]:=by unfold E2;rw[if_neg (fun x=>h x.1),if_neg (fun x=>h x.1)]
theorem Hc {o:List Ev} {e:Ev} (ht:e.text≠[]) (hs: ¬(0<o.length∧(Nx o).kind=4)):E2 o e=o++[e]:=by unfold E2;rw[if_neg (fun x=>ht x.2),if_neg (fun x=>hs x.2)]
theorem Vx {o:List Ev} {e x:Ev} (hk:e.kind=4) (ht:e.text≠[]) (h0:0<o.length) (hx:o[o.length-1]? =some x) (hx4:x.kind=4):E2 o e=o.set (o.length-1) (Ny x (x.text++e.text)):=by
 unfold E2
 rw[if_neg (fun y=>ht y.2),if_pos ⟨hk,h0,by rw[Ur hx];exact hx4⟩,Ur hx]
theorem Vy {o:List Ev} {e f:Ev} {t:List UInt8} (hk:e.kind=4) (ht:e.text≠[]) (hf:f.kind=4):E2 (o++[Ny f t]) e=o++[Ny f (t++e.text)]:=by
 rw[Vx (x:=Ny f t) hk ht (by simp) (by simp) hf]
 have e1:(o++[Ny f t]).length-1=o.length:=by simp
 rw[e1,List.set_append_right _ _ (Nat.le_refl _)]
 simp[Ny]
def sep (o r:List Ev):Prop:= ∀x q,r=x::q→x.kind=4→¬(0<o.length∧(Nx o).kind=4)
theorem Amn {o l:List Ev} {i:Nat} {x:Ev} (h:sep o (l.drop i)) (hx:l[i]? =some x) (hk:x.kind=4): ¬(0<o.length∧(Nx o).kind=4):=h x _ (C2 hx) hk
theorem Aga {o r:List Ev} {e:Ev} (h:e.kind≠4):sep (o++[e]) r:=fun _ _ _ _ x=>h (by rw[P9] at x;exact x.2)
theorem Akg {r:List Ev} :sep [] r:=fun _ _ _ _ x=>absurd x.1 (Nat.lt_irrefl 0)
theorem Acg {o l:List Ev} {i:Nat} (h:l.length≤i∨∃x,l[i]? =some x∧x.kind≠4):sep o (l.drop i):=by
 intro x q hx hk
 exfalso
 rcases h with h|⟨y,hy,hn⟩
 ·rw[List.drop_eq_nil_of_le h] at hx;cases hx
 ·rw[C2 hy] at hx
  cases hx
  exact hn hk
theorem Aa2 {o:List Ev} {f e:Ev} {t:List UInt8} (hf:f.kind=4) (hk:e.kind=4):E2 (o++[Ny f t]) e=o++[Ny f (t++e.text)]:=by
 by_cases ht:e.text=[]
 ·rw[F3 hk ht,ht,List.append_nil]
 ·exact Vy hk ht hf
def Yo (o:List Ev) (f:Ev) (t:List UInt8) (fd:Bool) (r m:List Ev):Prop:=(fd=true→f.kind=4∧Ef (o++[Ny f t]) r=m)∧(fd=false→t=[]∧Ef o r=m)
theorem Ah7 {o r m:List Ev} {e:Ev} (hk:e.kind=4) (hs: ¬(0<o.length∧(Nx o).kind=4)) (h:Ef (E2 o e) r=m):Yo o e e.text (!decide (e.text=[])) r m:=by
 by_cases ht:e.text=[]
 ·rw[F3 hk ht] at h;exact⟨fun x=>by simp[ht] at x,fun _=>⟨ht,h⟩⟩
 ·rw[Hc ht hs] at h;exact⟨fun _=>⟨hk,h⟩,fun x=>by simp[ht] at x⟩
theorem Anv {o r m:List Ev} {f x:Ev} {t:List UInt8} {fd:Bool} (h:Yo o f t fd (x::r) m) (hk:x.kind=4) (hf:fd=true):Yo o f (t++x.text) fd r m:=by
 have h1:=h.1 hf
 refine⟨fun _=>⟨h1.1,?_⟩,fun y=>by rw[hf] at y;cases y⟩
 rw[Er,Aa2 h1.1 hk] at h1
 exact h1.2
theorem Anw {o r m:List Ev} {f x:Ev} {t:List UInt8} {fd:Bool} (h:Yo o f t fd (x::r) m) (hk:x.kind=4) (ht:x.text≠[]) (hf:fd=false) (hs: ¬(0<o.length∧(Nx o).kind=4)):Yo o x (t++x.text) true r m:=by
 have h1:=h.2 hf
 refine⟨fun _=>⟨hk,?_⟩,fun y=>by cases y⟩
 rw[Er,Hc ht hs] at h1
 rw[h1.1]
 exact h1.2
theorem Anx {o r m:List Ev} {f x:Ev} {t:List UInt8} {fd:Bool} (h:Yo o f t fd (x::r) m) (hk:x.kind=4) (ht:x.text=[]) (hf:fd=false):Yo o f (t++x.text) fd r m:=by
 have h1:=h.2 hf
 refine⟨fun y=>(by rw[hf] at y;cases y),fun _=>⟨by rw[h1.1,ht];rfl,?_⟩⟩
 rw[Er,F3 hk ht] at h1
 exact h1.2
theorem Agb: ∀(l:List Ev) (i:Nat),tx (l.drop i)≤tx l
 |[],i=>by simp[tx]
 |e::r,0=>Nat.le_refl _
 |e::r,i+1=>by have:=Agb r i;rw[List.drop_succ_cons,tx];omega
theorem Adn (o:List Ev) (e:Ev):(E2 o e).length≤o.length+1:=by
 unfold E2
 split
 ·omega
 ·split<;>simp
theorem Xp: ∀(l o:List Ev),(Ef o l).length≤o.length+l.length
 |[],o=>Nat.le_refl _
 |e::r,o=>by
  have h1:=Adn o e
  have h2:=Xp r (E2 o e)
  rw[Er,List.length_cons];omega
theorem Qa (l:List Ev):(B9 l).length≤l.length:=by have:=Xp l [];simpa [B9] using this
structure E8 where
 out:List Ev
 i:Nat
def M1 (l:List Ev):Fam:=⟨E8,fun q1=>[(0,.v (.c (.seq .ev l))),(3,.v (vO 0)),(4,.v (vI ((q1.i:Nat):Int)))],fun q1=>[.lst .ev q1.out],fun q1=>q1.i≤List.length l∧Ef q1.out (List.drop q1.i l)=B9 l∧List.length q1.out≤q1.i∧tx q1.out+tx (List.drop q1.i l)≤tx l,fun q1=>List.length l-q1.i⟩
theorem Yp (l:List Ev) (hp1:List.length l≤100000000) (hp2:tx l≤100000000):Fun Tryz.prog 40 [.c (.seq .ev l)] [] (.v (vO 0)) [.lst .ev (B9 l)]:=by
 have hN:Bb=274877906944:=rfl
 have hI:Ba=9223372036854775807:=rfl
 refine Ap Tryz.func40 Q4 Q4 (w:=let z11:=M1 l;(.seg [.ty .ev,.at 0,.keep [0,3,4],.sel [0]] (.loop z11 fun q1=>let z6:S:= .v (vI (((q1.i:Nat):Int)+1));let z7:=((List.length q1.out:Nat):Int)-1;.br (.intro (Sx (l[q1.i]?)) fun x1=> .seg [.el .ev x1] (.br (.br (.seg [.as 13 z6,.at 0,.keep [0,3,4],.sel [0]] (.next)) (.seg [.br true] (.br (.seg [.as 38 (.v (vI z7))] (.intro (Sx (q1.out[Int.toNat z7]?)) fun x2=> .seg [.el .ev x2] (.br (.seg [.ord (os 15 [14]) [],.as 46 (.v (vI z7)),.as 49 (.v (vI z7)),.el .ev x2,.el .ev x2,.as 13 z6,.at 0,.keep [0,3,4],.sel [0]] (.next)) (.seg [.ty .ev,.ty .ev,.as 13 z6,.at 0,.keep [0,3,4],.sel [3]] (.next))))) (.seg [.ty .ev,.ty .ev,.as 13 z6,.at 0,.keep [0,3,4],.sel [3]] (.next))))) (.seg [.br false,.ty .ev,.ty .ev,.as 13 z6,.at 0,.keep [0,3,4],.sel [3]] (.next)))) (.leaf () [0])),z11.Has [(0,.v (.c (.seq .ev l))),(3,.v (vO 0)),(4,.v (vI 0))] [.lst .ev ([]:List Ev)]∧∀q1,z11.inv q1→(let z8:=((List.length q1.out:Nat):Int);let z10:=((q1.i:Nat):Int);let z9:=z10+1;Bc (decide (z10<((List.length l:Nat):Int))) (El (l[q1.i]?) fun x1=>(let z4:=List.length q1.out+List.length [x1]≤Bb;let z3:=z4∧(wI z9)∧z11.Nxt q1 [(0,.v (.c (.seq .ev l))),(3,.v (vO 0)),(4,.v (vI z9))] [.lst .ev (q1.out++[x1])];let z5:=decide (x1.kind=4);(l[q1.i]? =some x1)∧((0:Int)≤z10)∧Bc z5 (Bc (decide (x1.text=[])) ((wI z9)∧z11.Nxt q1 [(0,.v (.c (.seq .ev l))),(3,.v (vO 0)),(4,.v (vI z9))] [.lst .ev q1.out]) ((z5=true)∧Bc (decide (0<z8)) ((wI (z8-1))∧El (q1.out[Int.toNat (z8-1)]?) fun x2=>(let z1:=q1.out[Int.toNat (z8-1)]? =some x2;let z2:=((List.length x2.text+List.length x1.text:Nat):Int)≤Ba;(z8-1<z8)∧((0:Int)≤z8-1)∧z1∧Bc (decide (x2.kind=4)) ((wI (z8-1))∧(wI (z8-1))∧(wI (z8-1))∧(wI (z8-1))∧(z8-1<z8)∧((0:Int)≤z8-1)∧(z8-1<z8)∧((0:Int)≤z8-1)∧z1∧z1∧z2∧z2∧(z8-1<z8)∧((0:Int)≤z8-1)∧(z8-1<z8)∧((0:Int)≤z8-1)∧z1∧(wI z9)∧z11.Nxt q1 [(0,.v (.c (.seq .ev l))),(3,.v (vO 0)),(4,.v (vI z9))] [.lst .ev (List.set q1.out (Int.toNat (z8-1)) (⟨x2.kind,x2.field,x2.bits,x2.len,x2.text++x1.text,x2.code,x2.at_⟩:Ev))]) z3)) z3)) ((z5=false)∧z4∧(wI z9)∧z11.Nxt q1 [(0,.v (.c (.seq .ev l))),(3,.v (vO 0)),(4,.v (vI z9))] [.lst .ev (q1.out++[x1])]))) (Lf (.v (vO 0)) (.v (vO 0)) [.lst .ev q1.out] [.lst .ev (B9 l)])))) Q4 ?_
 refine⟨Bf (j:=(⟨([]:List Ev),0⟩:E8)) Q9 rfl (by dsimp only[M1];exact⟨by omega,rfl,by simp,by simp[tx]⟩),fun (q1:E8) hq_q1=>?_⟩
 have hi_q1:q1.i≤List.length l∧Ef q1.out (List.drop q1.i l)=B9 l∧List.length q1.out≤q1.i∧tx q1.out+tx (List.drop q1.i l)≤tx l:=hq_q1
 obtain ⟨v1,v2,v3,v4⟩:=hi_q1
 refine dsp (fun h1 p1=>?_) fun h1 p1=>?_
 refine⟨(Bh (l:=l) (i:=q1.i) Q2),fun x1 hx1=>?_⟩
 rw[C2 hx1,Er] at v2
 rw[C2 hx1,tx] at v4
 refine⟨hx1,Q2,dsp (fun h2 p2=>?_) fun h2 p2=>?_⟩
 refine dsp (fun h3 p3=>?_) fun h3 p3=>?_
 exact⟨(Ac Q2 Q2),A3 (j:=(⟨q1.out,q1.i+1⟩:E8)) Q9 rfl Q13 Q79⟩
 refine⟨h2,dsp (fun h4 p4=>?_) fun h4 p4=>?_⟩
 refine⟨(Ac Q2 Q2),(Bh (l:=q1.out) (i:=Int.toNat (((List.length q1.out:Nat):Int)-1)) Q2),fun x2 hx2=>?_⟩
 refine⟨Q2,Q2,?_⟩
 have hle:=Ajc hx2
 have hix:Int.toNat ((q1.out.length:Int)-1)=q1.out.length-1:=by omega
 have hxe:=hix▸hx2
 refine⟨hx2,dsp (fun h5 p5=>?_) fun h5 p5=>?_⟩
 have hmm:=Vx (o:=q1.out) (e:=x1) (x:=x2) (by assumption) (by assumption) (by omega) hxe (by assumption)
 have hms:=Af9 x1.text hxe
 exact⟨(Ac Q2 Q2),(Ac Q2 Q2),(Ac Q2 Q2),(Ac Q2 Q2),Q2,Q2,Q2,Q2,hx2,hx2,Q2,Q2,Q2,Q2,Q2,Q2,hx2,(Ac Q2 Q2),A3 (j:=(⟨List.set q1.out (Int.toNat (((List.length q1.out:Nat):Int)-1)) (⟨x2.kind,x2.field,x2.bits,x2.len,x2.text++x1.text,x2.code,x2.at_⟩:Ev),q1.i+1⟩:E8)) Q9 rfl Q13 Q79⟩
 have hse: ¬(0<q1.out.length∧(Nx q1.out).kind=4):=fun h=>by rw[Ur hxe] at h;exact absurd h.2 (by assumption)
 exact⟨Q5,(Ac Q2 Q2),A3 (j:=(⟨q1.out++[x1],q1.i+1⟩:E8)) Q9 rfl Q13 Q79⟩
 have hse: ¬(0<q1.out.length∧(Nx q1.out).kind=4):=fun h=>by omega
 exact⟨Q5,(Ac Q2 Q2),A3 (j:=(⟨q1.out++[x1],q1.i+1⟩:E8)) Q9 rfl Q13 Q79⟩
 exact⟨h2,Q5,(Ac Q2 Q2),A3 (j:=(⟨q1.out++[x1],q1.i+1⟩:E8)) Q9 rfl Q13 Q79⟩
 rw[List.drop_eq_nil_of_le (by omega),Td] at v2
 refine⟨rfl,(Ah (congrArg (Blk.lst .ev) ?_) rfl)⟩
 rotate_left
 all_goals first|(exact v2)|((rw[←v2];done))
structure Es where
 out:List Ev
 i:Nat
def M2 (l:List Ev):Fam:=⟨Es,fun q1=>[(0,.v (.c (.seq .ev l))),(3,.v (vO 0)),(4,.v (vI ((q1.i:Nat):Int)))],fun q1=>[.lst .ev q1.out],fun q1=>q1.i≤List.length l∧Ef q1.out (List.drop q1.i l)=B9 l∧List.length q1.out≤q1.i∧sep q1.out (List.drop q1.i l),fun q1=>List.length l-q1.i⟩
structure Hd where
 i:Nat
 texts:List Int
 first:Ev
 found:Bool
def F4 (l:List Ev) (q1:Es):Fam:=⟨Hd,fun q2=>[(0,.v (.c (.seq .ev l))),(3,.v (vO 0)),(4,.v (vI ((q2.i:Nat):Int))),(6,.v (vO 1)),(7,.v (vP 2)),(8,.v (vB q2.found))],fun q2=>[.lst .ev q1.out,.lst .u8 q2.texts,.cells (cEv q2.first)],fun q2=>q2.i≤List.length l∧q1.i<q2.i∧Yo q1.out q2.first (List.map A9 q2.texts) q2.found (List.drop q2.i l) (B9 l)∧List.length q2.texts+tx (List.drop q2.i l)≤tx l,fun q2=>List.length l-q2.i⟩
theorem Ah8 (l:List Ev) (hp1:List.length l≤100000000) (hp2:tx l≤100000000):Fun Tryz.prog 86 [.c (.seq .ev l)] [] (.v (vO 0)) [.lst .ev (B9 l)]:=by
 have hN:Bb=274877906944:=rfl
 refine Ap Tryz.func86 Q4 Q4 (w:=let z10:=M2 l;(.seg [.ty .ev,.at 0,.keep [0,3,4],.sel [0]] (.loop z10 fun q1=> .br (.intro (Sx (l[q1.i]?)) fun x1=> .seg [.el .ev x1,.as 19 (.v (vI (((q1.i:Nat):Int)+1)))] (.br (.seg [.ty .ev,.ty .ev,.at 0,.keep [0,3,4],.sel [3]] (.next)) (.seg [.ord (os 7 [4,5]) [],.at 0,.keep [0,3,4,6,7,8],.sel [0,2,3]] (.loop (F4 l q1) fun q2=>let z4:S:= .v (vI (((q2.i:Nat):Int)+1));.br (.intro (Sx (l[q2.i]?)) fun x2=> .seg [.el .ev x2] (.br (.br (.seg [.el .ev x2] (.br (.seg [.el .ev x2,.el .ev x2,.ty .u8,.as 68 z4,.at 0,.keep [0,3,4,6,7,8],.sel [0,3,2]] (.next)) (.seg [.el .ev x2,.ty .u8,.as 68 z4,.at 0,.keep [0,3,4,6,7,8],.sel [0,3,2]] (.next)))) (.seg [.el .ev x2,.ty .u8,.as 68 z4,.at 0,.keep [0,3,4,6,7,8],.sel [0,3,2]] (.next))) (.br (.seg [.ty .ev,.ty .ev,.at 0,.keep [0,3,4],.sel [4]] (.next)) (.seg [.at 0,.keep [0,3,4],.sel [0]] (.next))))) (.br (.seg [.ty .ev,.ty .ev,.at 0,.keep [0,3,4],.sel [4]] (.next)) (.seg [.at 0,.keep [0,3,4],.sel [0]] (.next))))))) (.leaf () [0])),z10.Has [(0,.v (.c (.seq .ev l))),(3,.v (vO 0)),(4,.v (vI 0))] [.lst .ev ([]:List Ev)]∧∀q1,z10.inv q1→(let z8:=((q1.i:Nat):Int);let z9:=F4 l q1;Bc (decide (z8<((List.length l:Nat):Int))) (El (l[q1.i]?) fun x1=>((l[q1.i]? =some x1)∧((0:Int)≤z8)∧(wI (z8+1))∧Bc (!decide (x1.kind=4)) ((List.length q1.out+List.length [x1]≤Bb)∧z10.Nxt q1 [(0,.v (.c (.seq .ev l))),(3,.v (vO 0)),(4,.v (vI (z8+1)))] [.lst .ev (q1.out++[x1])]) ((List.length x1.text≤Bb)∧z9.Has [(0,.v (.c (.seq .ev l))),(3,.v (vO 0)),(4,.v (vI (z8+1))),(6,.v (vO 1)),(7,.v (vP 2)),(8,.v (vB (!decide (x1.text=[]))))] [.lst .ev q1.out,.lst .u8 (List.map (fun b=>(UInt8.toNat b:Int)) x1.text),.cells (cEv x1)]∧∀q2,z9.inv q2→(let z6:=((q2.i:Nat):Int);let z7:=(⟨q2.first.kind,q2.first.field,q2.first.bits,q2.first.len,List.map A9 q2.texts,q2.first.code,q2.first.at_⟩:Ev);let z5:=Bc q2.found ((List.length q1.out+List.length [z7]≤Bb)∧z10.Nxt q1 [(0,.v (.c (.seq .ev l))),(3,.v (vO 0)),(4,.v (vI z6))] [.lst .ev (q1.out++[z7])]) (z10.Nxt q1 [(0,.v (.c (.seq .ev l))),(3,.v (vO 0)),(4,.v (vI z6))] [.lst .ev q1.out]);Bc (decide (z6<((List.length l:Nat):Int))) (El (l[q2.i]?) fun x2=>(let z2:=List.map (fun b=>(UInt8.toNat b:Int)) x2.text;let z3:=l[q2.i]? =some x2;let z1:=z3∧((0:Int)≤z6)∧(List.length q2.texts+List.length z2≤Bb)∧(wI (z6+1))∧z9.Nxt q2 [(0,.v (.c (.seq .ev l))),(3,.v (vO 0)),(4,.v (vI (z6+1))),(6,.v (vO 1)),(7,.v (vP 2)),(8,.v (vB q2.found))] [.lst .ev q1.out,.lst .u8 (q2.texts++z2),.cells (cEv q2.first)];z3∧((0:Int)≤z6)∧Bc (decide (x2.kind=4)) (Bc (!q2.found) (z3∧((0:Int)≤z6)∧Bc (!decide (x2.text=[])) (z3∧((0:Int)≤z6)∧z3∧((0:Int)≤z6)∧(List.length q2.texts+List.length z2≤Bb)∧(wI (z6+1))∧z9.Nxt q2 [(0,.v (.c (.seq .ev l))),(3,.v (vO 0)),(4,.v (vI (z6+1))),(6,.v (vO 1)),(7,.v (vP 2)),(8,.v (vB true))] [.lst .ev q1.out,.lst .u8 (q2.texts++z2),.cells (cEv x2)]) z1) z1) z5)) z5)))) (Lf (.v (vO 0)) (.v (vO 0)) [.lst .ev q1.out] [.lst .ev (B9 l)])))) Q4 ?_
 refine⟨Bf (j:=(⟨([]:List Ev),0⟩:Es)) Q9 rfl (by dsimp only[M2];exact⟨by omega,rfl,by simp,Akg⟩),fun (q1:Es) hq_q1=>?_⟩
 have hi_q1:q1.i≤List.length l∧Ef q1.out (List.drop q1.i l)=B9 l∧List.length q1.out≤q1.i∧sep q1.out (List.drop q1.i l):=hq_q1
 obtain ⟨v1,v2,v3,v4⟩:=hi_q1
 refine dsp (fun h1 p1=>?_) fun h1 p1=>?_
 refine⟨(Bh (l:=l) (i:=q1.i) Q2),fun x1 hx1=>?_⟩
 rw[C2 hx1,Er] at v2
 have hdx:=C2 hx1
 have htl:tx (List.drop q1.i l)=x1.text.length+tx (List.drop (q1.i+1) l):=by rw[hdx,tx]
 have htl2:=Agb l q1.i
 have hse:=fun hk=>Amn v4 hx1 hk
 refine⟨hx1,Q2,(Ac Q2 Q2),fun h2=>have q2:=Ao h2;have p2:=of_decide_eq_false q2;?_,fun h2=>have q2:=An h2;have p2:=of_decide_eq_true q2;?_⟩
 exact⟨Q5,A3 (j:=(⟨q1.out++[x1],q1.i+1⟩:Es)) Q9 rfl Q21 Q80⟩
 have hse:=hse (by assumption)
 refine⟨Q2,Bf (j:=(⟨q1.i+1,List.map (fun b=>(UInt8.toNat b:Int)) x1.text,x1,!decide (x1.text=[])⟩:Hd)) Q9 rfl (by dsimp only[F4];exact(by first|(exact⟨by omega,by omega,by rw[Ey];exact Ah7 Q81 hse v2,by simp;omega⟩))),fun (q2:Hd) hq_q2=>?_⟩
 have hi_q2:q2.i≤List.length l∧q1.i<q2.i∧Yo q1.out q2.first (List.map A9 q2.texts) q2.found (List.drop q2.i l) (B9 l)∧List.length q2.texts+tx (List.drop q2.i l)≤tx l:=hq_q2
 obtain ⟨w1,w2,w3,w4⟩:=hi_q2
 refine dsp (fun h3 p3=>?_) fun h3 p3=>?_
 refine⟨(Bh (l:=l) (i:=q2.i) Q2),fun x2 hx2=>?_⟩
 have hdr:=C2 hx2
 have htx:tx (List.drop q2.i l)=x2.text.length+tx (List.drop (q2.i+1) l):=by rw[hdr,tx]
 refine⟨hx2,Q2,dsp (fun h4 p4=>?_) fun h4 p4=>?_⟩
 refine⟨fun h5=>have q5:=Ao h5;?_,fun h5=>have q5:=An h5;?_⟩
 refine⟨hx2,Q2,fun h6=>have q6:=Ao h6;have p6:=of_decide_eq_false q6;?_,fun h6=>have q6:=An h6;have p6:=of_decide_eq_true q6;?_⟩
 exact⟨hx2,Q2,hx2,Q2,Q18,(Ac Q2 Q2),A3 (j:=(⟨q2.i+1,q2.texts++(List.map (fun b=>(UInt8.toNat b:Int)) x2.text),x2,true⟩:Hd)) Q9 rfl Q24 (by dsimp only[F4];omega)⟩
 exact⟨hx2,Q2,Q18,(Ac Q2 Q2),A3 (j:=(⟨q2.i+1,q2.texts++(List.map (fun b=>(UInt8.toNat b:Int)) x2.text),q2.first,q2.found⟩:Hd)) Q9 rfl Q24 (by dsimp only[F4];omega)⟩
 exact⟨hx2,Q2,Q18,(Ac Q2 Q2),A3 (j:=(⟨q2.i+1,q2.texts++(List.map (fun b=>(UInt8.toNat b:Int)) x2.text),q2.first,q2.found⟩:Hd)) Q9 rfl Q24 (by dsimp only[F4];omega)⟩
 have hsp: ∀o,sep o (List.drop q2.i l):=fun o=>Acg (.inr ⟨x2,by assumption,by assumption⟩)
 refine⟨fun h5=>?_,fun h5=>?_⟩
 exact⟨(by simp only[List.length_map,List.length_cons,List.length_nil];omega),A3 (j:=(⟨q1.out++[(⟨q2.first.kind,q2.first.field,q2.first.bits,q2.first.len,List.map A9 q2.texts,q2.first.code,q2.first.at_⟩:Ev)],q2.i⟩:Es)) rfl rfl Q21 Q80⟩
 exact A3 (j:=(⟨q1.out,q2.i⟩:Es)) rfl rfl Q21 Q80
 have hsp: ∀o,sep o (List.drop q2.i l):=fun o=>Acg (.inl (by omega))
 refine⟨fun h4=>?_,fun h4=>?_⟩
 exact⟨(by simp only[List.length_map,List.length_cons,List.length_nil];omega),A3 (j:=(⟨q1.out++[(⟨q2.first.kind,q2.first.field,q2.first.bits,q2.first.len,List.map A9 q2.texts,q2.first.code,q2.first.at_⟩:Ev)],q2.i⟩:Es)) rfl rfl Q21 Q80⟩
 exact A3 (j:=(⟨q1.out,q2.i⟩:Es)) rfl rfl Q21 Q80
 rw[List.drop_eq_nil_of_le (by omega),Td] at v2
 refine⟨rfl,(Ah (congrArg (Blk.lst .ev) ?_) rfl)⟩
 rotate_left
 all_goals first|(exact v2)|((rw[←v2];done))
end Go.Proofs.YtijacopaadmncaaGreat.Ax
