/- The reference: lengths, numbers. The reference: bytes of numbers. A byte: the reference. Decoders that are the same. Draws of numbers, bytes, scripts. -/
import Derived.Test.YtphecbmdhbphgaaGreatKFnPure4
import Derived.Test.YtphecbmdhbphgaaGreatKFnPure3
import Derived.Test.YtphecbmdhbphgaaGreatKFnPure2
set_option linter.unusedSimpArgs false
set_option linter.unusedVariables false
namespace Go.Proofs.YtphecbmdhbphgaaGreat.Ax
open Go.RowKit
set_option maxHeartbeats 1600000 in
theorem Ae1 (d:Dcd) (u:Int) (hp1:A9 d=true) (hp2:(0:Int)≤u∧u≤18446744073709551615) (hp3:((d).field=fld0∨Hf (d).plan.shapes (d).field=true)):Fun Tryz.prog 139 [.agg (Bu d),.c (.int .u64 u)] [] (.tup [.agg (Ah 0 1 (Cm ⟨d,[]⟩ u).d),vO 2]) [.tree (Cm ⟨d,[]⟩ u).d.plan.shapes,.lst .lev (Cm ⟨d,[]⟩ u).d.stack,.lst .ev (Cm ⟨d,[]⟩ u).out]:=by
 have hN:Bj=274877906944:=rfl
 have hlv:=Bz hp1
 have hpt:=B9 hlv.1
 have htb:=F2 hp1
 have hwb:=Dx (B3 d.field.kind)
 refine Ar Tryz.func139 Q4 Q4 (w:=let zi:Int→C:= .int .i64;let z6:List C:=[zi d.end_.kind,zi d.end_.field,.int .u64 d.end_.bits,zi d.end_.len,.str d.end_.text,zi d.end_.code,zi d.end_.at_];let z5:List C:= .own 1:: .int .u64 0::zi 0::zi d.start::zi d.at_::zi d.field.number::zi d.field.kind:: .bool d.field.rep:: .bool d.field.packed::zi d.field.msg::zi d.wire::zi u::zi d.utf.want::zi d.utf.low::zi d.utf.high::z6;let z7:List C:=[zi d.field.number,.int .u64 0,zi u,.str [],zi 0,zi 0];let z13:=((List.length d.stack:Nat):Int);let z14:S:= .tup [.agg (Ah 0 1 (Cm ⟨d,[]⟩ u).d),vO 2];let z15:=Ls (Cm ⟨d,[]⟩ u).d (Cm ⟨d,[]⟩ u).out;let z23:=B3 d.field.kind;let z24:=(⟨6,d.field.number,0,u,[],0,0⟩:Ev);let z27:=(0:Int)≤z13-1;let z28:=(⟨0,0⟩:Scn);let z8:=(⟨d.plan,8,d.stack,z28,d.start,d.at_,d.field,d.wire,u,d.utf,d.end_⟩:Dcd);let z9:=Ae ⟨(⟨d.plan,6,d.stack,z28,d.start,d.at_,d.field,d.wire,u,(⟨0,0,0⟩:Utf),d.end_⟩:Dcd),[]⟩;let z10:=A7 (⟨d.plan,d.mode,d.stack,z28,d.start,d.at_,d.field,d.wire,d.want,d.utf,d.end_⟩:Dcd) 8 d.start;let z11:=Ae ⟨(⟨d.plan,7,d.stack,z28,d.start,d.at_,d.field,d.wire,u,d.utf,d.end_⟩:Dcd),[]⟩;let z12:=A7 (⟨d.plan,d.mode,d.stack,z28,d.start,d.at_,d.field,d.wire,u,d.utf,d.end_⟩:Dcd) 6 d.start;let z16:=(⟨3,d.field.number,0,u,[],0,0⟩:Ev)::z9.out;let z17:=Ae ⟨z8,[]⟩;let z18:List Blk:= .dead:: .dead::Ls z10 [A2 8 d.start];let z19:S:= .tup [.agg (Ah 2 3 z17.d),vO 4];let z20:S:= .tup [.agg (Ah 2 3 z9.d),vO 4];let z21:S:= .tup [.agg (Ah 2 3 z10),vO 4];let z22:List Blk:= .dead:: .dead::Ls z17.d z17.out;let z25:List Blk:= .dead:: .dead::Ls z9.d z16;let z26:=A7 z8 9 d.at_;let z29:=(⟨d.field.msg,u⟩:Lev);let z30:S:= .tup [.agg (Ah 2 3 z11.d),vO 4];let z31:S:= .tup [.agg (Ah 0 1 z17.d),vO 2];let z32:List Blk:= .dead:: .dead::Ls z12 [A2 6 d.start];let z33:S:= .tup [.agg (Ah 0 1 z9.d),vO 2];let z34:S:= .tup [.agg (Ah 2 3 z12),vO 4];let z35:S:= .tup [.agg (Ah 2 3 z26),vO 4];let z36:S:= .tup [.agg (Ah 0 1 z10),vO 2];let z37:List Blk:= .dead:: .dead::Ls z26 [A2 9 d.at_];(.seg [.call [] (.v (.agg (Ah 0 1 d))) (L2 d),.call [] (.v (vB (A9 d))) [],.br false,.as 22 (.v (vI (z13-1)))] (.br (.seg [.call [2,3] z21 z18] (.leaf () [5,6,7])) (.intro (Sx (d.stack[Int.toNat (z13-1)]?)) fun x1=>let z1:=Ae ⟨(⟨d.plan,2,(List.set d.stack (Int.toNat (z13-1)) (⟨x1.msg,x1.left-u⟩:Lev))++[z29],z28,d.start,d.at_,d.field,d.wire,0,d.utf,d.end_⟩:Dcd),[]⟩;.seg [.el .lev x1,.as 33 (.v (.c (.int .u64 x1.left)))] (.br (.seg [.call [2,3] z21 z18] (.leaf () [5,6,7])) (.seg [.as 45 (.v (vI u))] (.br (.seg [.call [2,3] z30 (.dead:: .dead::Ls z11.d z11.out)] (.leaf () [6,7,8])) (.br (.br (.seg [.call [2,3] z34 z32] (.leaf () [6,7,8])) (.seg [.ord (os 14 [13]) [],.el .lev x1,.as 84 (.v (vI (x1.left-u))),.el .lev x1,.ty .lev,.ty .lev,.call [2,7] (.tup [.agg (Ah 2 3 z1.d),vO 4]) (.dead:: .dead::Ls z1.d (z24::z1.out))] (.leaf () [8,9,10]))) (.br (.seg [.call [2,3] z20 z25] (.leaf () [6,7,8])) (.br (.seg [.call [2,3] z20 z25] (.leaf () [6,7,8])) (.br (.seg [.call [] (.v (vI z23)) [],.call [] (.v (vI (Ay z23))) []] (.br (.seg [.call [2,3] z35 z37] (.leaf () [6,7,8])) (.seg [.call [2,3] z19 z22] (.leaf () [6,7,8])))) (.seg [.call [2,3] z19 z22] (.leaf () [6,7,8]))))))))))),(Fp 59 [.agg (Bu d)] [] (.v (.agg (Ah 0 1 d))) (L2 d))∧(Fp 190 [.agg (Bu d)] [] (.v (vB (A9 d))) [])∧((!(A9 d))=false)∧(wI (z13-1))∧Bc (decide (z13-1<0)) ((Fp 64 [.agg (.own 0::zi d.plan.root::zi d.plan.deep::zi d.plan.most::zi d.mode:: .own 1:: .int .u64 0::zi 0::zi d.start::zi d.at_::zi d.field.number::zi d.field.kind:: .bool d.field.rep:: .bool d.field.packed::zi d.field.msg::zi d.wire::zi d.want::zi d.utf.want::zi d.utf.low::zi d.utf.high::z6),vI 8,vI d.start] (L2 d) z21 z18)∧Lf z36 z14 (Ls z10 [A2 8 d.start]) z15) (El (d.stack[Int.toNat (z13-1)]?) fun x1=>(let z3:=d.stack[Int.toNat (z13-1)]? =some x1;let z4:=List.set d.stack (Int.toNat (z13-1)) (⟨x1.msg,x1.left-u⟩:Lev);let z2:=Ae ⟨(⟨d.plan,2,z4++[z29],z28,d.start,d.at_,d.field,d.wire,0,d.utf,d.end_⟩:Dcd),[]⟩;z3∧z27∧(wU (x1.left))∧Bc (decide (x1.left<u)) ((Fp 64 [.agg (.own 0::zi d.plan.root::zi d.plan.deep::zi d.plan.most::zi d.mode:: .own 1:: .int .u64 0::zi 0::zi d.start::zi d.at_::zi d.field.number::zi d.field.kind:: .bool d.field.rep:: .bool d.field.packed::zi d.field.msg::zi d.wire::zi d.want::zi d.utf.want::zi d.utf.low::zi d.utf.high::z6),vI 8,vI d.start] (L2 d) z21 z18)∧Lf z36 z14 (Ls z10 [A2 8 d.start]) z15) ((wI (u))∧Bc (decide (d.field.number=0)&&(decide (d.field.kind=0)&&(decide (d.field.rep=false)&&(decide (d.field.packed=false)&&decide (d.field.msg=0))))) ((Fp 62 [.agg (.own 0::zi d.plan.root::zi d.plan.deep::zi d.plan.most::zi 7::z5)] (L2 d) z30 (.dead:: .dead::Ls z11.d z11.out))∧Lf (.tup [.agg (Ah 0 1 z11.d),vO 2]) z14 (Ls z11.d z11.out) z15) (Bc (decide (d.field.kind=8)) (Bc (decide (d.plan.deep≤z13)) ((Fp 64 [.agg (.own 0::zi d.plan.root::zi d.plan.deep::zi d.plan.most::zi d.mode::z5),vI 6,vI d.start] (L2 d) z34 z32)∧Lf (.tup [.agg (Ah 0 1 z12),vO 2]) z14 (Ls z12 [A2 6 d.start]) z15) (z3∧z27∧z3∧z27∧(wI (x1.left-u))∧(wI (x1.left-u))∧(z13-1<z13)∧z27∧(z13-1<z13)∧z27∧z3∧(List.length z4+List.length [z29]≤Bj)∧(Fp 65 [.agg (.own 0::zi d.plan.root::zi d.plan.deep::zi d.plan.most::zi 2:: .own 1:: .int .u64 0::zi 0::zi d.start::zi d.at_::zi d.field.number::zi d.field.kind:: .bool d.field.rep:: .bool d.field.packed::zi d.field.msg::zi d.wire::zi 0::zi d.utf.want::zi d.utf.low::zi d.utf.high::z6),.agg (zi 6::z7)] [.tree d.plan.shapes,.lst .lev (z4++[z29])] (.tup [.agg (Ah 2 3 z2.d),vO 4]) (.dead:: .dead::Ls z2.d (z24::z2.out)))∧Lf (.tup [.agg (Ah 0 1 z2.d),vO 2]) z14 (Ls z2.d (z24::z2.out)) z15)) (Bc (decide (d.field.kind=6)) ((Fp 65 [.agg (.own 0::zi d.plan.root::zi d.plan.deep::zi d.plan.most::zi 6:: .own 1:: .int .u64 0::zi 0::zi d.start::zi d.at_::zi d.field.number::zi d.field.kind:: .bool d.field.rep:: .bool d.field.packed::zi d.field.msg::zi d.wire::zi u::zi 0::zi 0::zi 0::z6),.agg (zi 3::z7)] (L2 d) z20 z25)∧Lf z33 z14 (Ls z9.d z16) z15) (Bc (decide (d.field.kind=7)) ((Fp 65 [.agg (.own 0::zi d.plan.root::zi d.plan.deep::zi d.plan.most::zi 6:: .own 1:: .int .u64 0::zi 0::zi d.start::zi d.at_::zi d.field.number::zi d.field.kind:: .bool d.field.rep:: .bool d.field.packed::zi d.field.msg::zi d.wire::zi u::zi 0::zi 0::zi 0::z6),.agg (zi 3::z7)] (L2 d) z20 z25)∧Lf z33 z14 (Ls z9.d z16) z15) (Bc (decide (0<u)) ((Fp 131 [vI d.field.kind] [] (.v (vI z23)) [])∧(Fp 127 [vI z23] [] (.v (vI (Ay z23))) [])∧Bc (decide (u<Ay z23)) ((Fp 64 [.agg (.own 0::zi d.plan.root::zi d.plan.deep::zi d.plan.most::zi 8::z5),vI 9,vI d.at_] (L2 d) z35 z37)∧Lf (.tup [.agg (Ah 0 1 z26),vO 2]) z14 (Ls z26 [A2 9 d.at_]) z15) ((Fp 62 [.agg (.own 0::zi d.plan.root::zi d.plan.deep::zi d.plan.most::zi 8::z5)] (L2 d) z19 z22)∧Lf z31 z14 (Ls z17.d z17.out) z15)) ((Fp 62 [.agg (.own 0::zi d.plan.root::zi d.plan.deep::zi d.plan.most::zi 8::z5)] (L2 d) z19 z22)∧Lf z31 z14 (Ls z17.d z17.out) z15)))))))))) Q4 ?_
 refine⟨(Qn d Q2 (D6 hpt.2.1) Q2),(Rf d Q2 Q2),(by simp[hp1]),(Ac Q2 Q2),dsp (fun h1 p1=>?_) fun h1 p1=>?_⟩
 refine zD ((Cm ⟨d,[]⟩ u).d) (A7 (⟨d.plan,d.mode,d.stack,(⟨0,0⟩:Scn),d.start,d.at_,d.field,d.wire,d.want,d.utf,d.end_⟩:Dcd) 8 d.start) ((Cm ⟨d,[]⟩ u).out) [A2 8 d.start] (fun hm1 hm2=>⟨(Cz (⟨d.plan,d.mode,d.stack,(⟨0,0⟩:Scn),d.start,d.at_,d.field,d.wire,d.want,d.utf,d.end_⟩:Dcd) _ _),Q6,Q10⟩) ?_ ?_
 rotate_left 2
 refine⟨(Bg (l:=d.stack) (i:=Int.toNat (((List.length d.stack:Nat):Int)-1)) Q2),fun x1 hx1=>?_⟩
 have hll:=Hk (d:=d) (by rw[←hx1];congr 1;omega)
 have hix:Int.toNat ((d.stack.length:Int)-1)=d.stack.length-1:=by omega
 refine⟨hx1,Q2,(Bt Q2 Q2),dsp (fun h2 p2=>?_) fun h2 p2=>?_⟩
 refine zD ((Cm ⟨d,[]⟩ u).d) (A7 (⟨d.plan,d.mode,d.stack,(⟨0,0⟩:Scn),d.start,d.at_,d.field,d.wire,d.want,d.utf,d.end_⟩:Dcd) 8 d.start) ((Cm ⟨d,[]⟩ u).out) [A2 8 d.start] (fun hm1 hm2=>⟨(Cz (⟨d.plan,d.mode,d.stack,(⟨0,0⟩:Scn),d.start,d.at_,d.field,d.wire,d.want,d.utf,d.end_⟩:Dcd) _ _),Q6,Q10⟩) ?_ ?_
 rotate_left 2
 refine⟨(Ac Q2 Q2),fun h3=>have p3:=(Cb dT (Cb dT (Cb dT (Cb dT dT)))).1 h3;?_,fun h3=>have p3:=(Cc dT (Cc dT (Cc dT (Cc dT dF)))).1 h3;?_⟩
 refine zM Mac.d Mac.out (Cm ⟨d,[]⟩ u) (Ae ⟨(⟨d.plan,7,d.stack,(⟨0,0⟩:Scn),d.start,d.at_,d.field,d.wire,u,d.utf,d.end_⟩:Dcd),[]⟩) (fun hm1 hm2=>⟨(Gx (⟨d.plan,7,d.stack,(⟨0,0⟩:Scn),d.start,d.at_,d.field,d.wire,u,d.utf,d.end_⟩:Dcd) Q7),Q6,Q10⟩) ?_ ?_
 rotate_left 2
 refine dsp (fun h4 p4=>?_) fun h4 p4=>?_
 refine dsp (fun h5 p5=>?_) fun h5 p5=>?_
 refine zD ((Cm ⟨d,[]⟩ u).d) (A7 (⟨d.plan,d.mode,d.stack,(⟨0,0⟩:Scn),d.start,d.at_,d.field,d.wire,u,d.utf,d.end_⟩:Dcd) 6 d.start) ((Cm ⟨d,[]⟩ u).out) [A2 6 d.start] (fun hm1 hm2=>⟨(Cz (⟨d.plan,d.mode,d.stack,(⟨0,0⟩:Scn),d.start,d.at_,d.field,d.wire,u,d.utf,d.end_⟩:Dcd) _ _),Q6,Q10⟩) ?_ ?_
 rotate_left 2
 refine zD ((Cm ⟨d,[]⟩ u).d) ((Ae ⟨(⟨d.plan,2,(List.set d.stack (Int.toNat (((List.length d.stack:Nat):Int)-1)) (⟨x1.msg,x1.left-u⟩:Lev))++[(⟨d.field.msg,u⟩:Lev)],(⟨0,0⟩:Scn),d.start,d.at_,d.field,d.wire,0,d.utf,d.end_⟩:Dcd),[]⟩).d) ((Cm ⟨d,[]⟩ u).out) ((⟨6,d.field.number,0,u,[],0,0⟩:Ev)::(Ae ⟨(⟨d.plan,2,(List.set d.stack (Int.toNat (((List.length d.stack:Nat):Int)-1)) (⟨x1.msg,x1.left-u⟩:Lev))++[(⟨d.field.msg,u⟩:Lev)],(⟨0,0⟩:Scn),d.start,d.at_,d.field,d.wire,0,d.utf,d.end_⟩:Dcd),[]⟩).out) (fun hm1 hm2=>⟨hx1,Q2,hx1,Q2,(Ac Q2 Q2),(Ac Q2 Q2),Q2,Q2,Q2,Q2,hx1,Q64,(Gy (⟨d.plan,2,(List.set d.stack (Int.toNat (((List.length d.stack:Nat):Int)-1)) (⟨x1.msg,x1.left-u⟩:Lev))++[(⟨d.field.msg,u⟩:Lev)],(⟨0,0⟩:Scn),d.start,d.at_,d.field,d.wire,0,d.utf,d.end_⟩:Dcd) (⟨6,d.field.number,0,u,[],0,0⟩:Ev) Q17),Q6,Q10⟩) ?_ ?_
 rotate_left 2
 refine dsp (fun h5 p5=>?_) fun h5 p5=>?_
 refine zD ((Cm ⟨d,[]⟩ u).d) ((Ae ⟨(⟨d.plan,6,d.stack,(⟨0,0⟩:Scn),d.start,d.at_,d.field,d.wire,u,(⟨0,0,0⟩:Utf),d.end_⟩:Dcd),[]⟩).d) ((Cm ⟨d,[]⟩ u).out) ((⟨3,d.field.number,0,u,[],0,0⟩:Ev)::(Ae ⟨(⟨d.plan,6,d.stack,(⟨0,0⟩:Scn),d.start,d.at_,d.field,d.wire,u,(⟨0,0,0⟩:Utf),d.end_⟩:Dcd),[]⟩).out) (fun hm1 hm2=>⟨(Gy (⟨d.plan,6,d.stack,(⟨0,0⟩:Scn),d.start,d.at_,d.field,d.wire,u,(⟨0,0,0⟩:Utf),d.end_⟩:Dcd) (⟨3,d.field.number,0,u,[],0,0⟩:Ev) Q7),Q6,Q10⟩) ?_ ?_
 rotate_left 2
 refine dsp (fun h6 p6=>?_) fun h6 p6=>?_
 refine zD ((Cm ⟨d,[]⟩ u).d) ((Ae ⟨(⟨d.plan,6,d.stack,(⟨0,0⟩:Scn),d.start,d.at_,d.field,d.wire,u,(⟨0,0,0⟩:Utf),d.end_⟩:Dcd),[]⟩).d) ((Cm ⟨d,[]⟩ u).out) ((⟨3,d.field.number,0,u,[],0,0⟩:Ev)::(Ae ⟨(⟨d.plan,6,d.stack,(⟨0,0⟩:Scn),d.start,d.at_,d.field,d.wire,u,(⟨0,0,0⟩:Utf),d.end_⟩:Dcd),[]⟩).out) (fun hm1 hm2=>⟨(Gy (⟨d.plan,6,d.stack,(⟨0,0⟩:Scn),d.start,d.at_,d.field,d.wire,u,(⟨0,0,0⟩:Utf),d.end_⟩:Dcd) (⟨3,d.field.number,0,u,[],0,0⟩:Ev) Q7),Q6,Q10⟩) ?_ ?_
 rotate_left 2
 refine dsp (fun h7 p7=>?_) fun h7 p7=>?_
 refine⟨(Nu _),(Dm _),dsp (fun h8 p8=>?_) fun h8 p8=>?_⟩
 refine zD ((Cm ⟨d,[]⟩ u).d) (A7 (⟨d.plan,8,d.stack,(⟨0,0⟩:Scn),d.start,d.at_,d.field,d.wire,u,d.utf,d.end_⟩:Dcd) 9 d.at_) ((Cm ⟨d,[]⟩ u).out) [A2 9 d.at_] (fun hm1 hm2=>⟨(Cz (⟨d.plan,8,d.stack,(⟨0,0⟩:Scn),d.start,d.at_,d.field,d.wire,u,d.utf,d.end_⟩:Dcd) _ _),Q6,Q10⟩) ?_ ?_
 rotate_left 2
 refine zM Mac.d Mac.out (Cm ⟨d,[]⟩ u) (Ae ⟨(⟨d.plan,8,d.stack,(⟨0,0⟩:Scn),d.start,d.at_,d.field,d.wire,u,d.utf,d.end_⟩:Dcd),[]⟩) (fun hm1 hm2=>⟨(Gx (⟨d.plan,8,d.stack,(⟨0,0⟩:Scn),d.start,d.at_,d.field,d.wire,u,d.utf,d.end_⟩:Dcd) Q7),Q6,Q10⟩) ?_ ?_
 rotate_left 2
 refine zM Mac.d Mac.out (Cm ⟨d,[]⟩ u) (Ae ⟨(⟨d.plan,8,d.stack,(⟨0,0⟩:Scn),d.start,d.at_,d.field,d.wire,u,d.utf,d.end_⟩:Dcd),[]⟩) (fun hm1 hm2=>⟨(Gx (⟨d.plan,8,d.stack,(⟨0,0⟩:Scn),d.start,d.at_,d.field,d.wire,u,d.utf,d.end_⟩:Dcd) Q7),Q6,Q10⟩) ?_ ?_
 rotate_left 2
 all_goals first|(simp_all[Cm,X9,Ya,Cs,Fh,A0,A7,scn0,utf0,Ca];done)|((have e0:d.field≠fld0:=(fun h=>by have:=congrArg Fld.kind h;simp only[fld0] at this;omega);have e1: ¬(d.stack.length=0∨Dj d<u):=(by omega);have e2: ¬d.plan.deep≤(d.stack.length:Int):=(by omega);unfold Cm;simp only;rw[if_neg e1,if_neg e0,if_pos (by assumption),if_neg e2,hll.1,hll.2];simp only[List.nil_append,Ca,hix];rfl))|((unfold Cm;simp only[hll.1,hll.2,hix,List.nil_append,Ca,Cs,Fh];(repeat' split)<;>first|rfl|(exfalso;omega)|(simp_all[X9,Ya,A0,A7,scn0,utf0,Ca];done)|(exfalso;simp_all;omega)|(exfalso;grind)|grind[X9,Ya,A0,A7,scn0,utf0,Ca]))|(grind[Cm,X9,Ya,Cs,Fh,A0,A7,scn0,utf0,Ca])
theorem Tw (d:Dcd) (u:Int) (hp1:List.length (d).stack≤1000) (hp2:(0:Int)≤u∧u≤18446744073709551615):Fun Tryz.prog 135 [.agg (Ah 0 1 d),.c (.int .u64 u)] [.tree d.plan.shapes,.lst .lev d.stack] (.tup [.agg (Ah 2 3 (Ae (Bs ⟨d,[]⟩ u)).d),vO 4]) [.dead,.dead,.tree (Ae (Bs ⟨d,[]⟩ u)).d.plan.shapes,.lst .lev (Ae (Bs ⟨d,[]⟩ u)).d.stack,.lst .ev (Ae (Bs ⟨d,[]⟩ u)).out]:=by
 have hN:Bj=274877906944:=rfl
 refine Ar Tryz.func135 Q4 Q4 (w:=let zi:Int→C:= .int .i64;let z1:List C:=[.own 0,zi d.plan.root,zi d.plan.deep,zi d.plan.most,zi 2,.own 1,.int .u64 d.scan.bits,zi d.scan.have_,zi d.start,zi d.at_,zi d.field.number,zi d.field.kind,.bool d.field.rep,.bool d.field.packed,zi d.field.msg,zi d.wire,zi d.want,zi d.utf.want,zi d.utf.low,zi d.utf.high,zi d.end_.kind,zi d.end_.field,.int .u64 d.end_.bits,zi d.end_.len,.str d.end_.text,zi d.end_.code,zi d.end_.at_];let z2:=Ae ⟨(⟨d.plan,2,d.stack,d.scan,d.start,d.at_,d.field,d.wire,d.want,d.utf,d.end_⟩:Dcd),[]⟩;let z3:=Ae (Bs ⟨d,[]⟩ u);let z5:S:= .tup [.agg (Ah 2 3 z2.d),vO 4];let z6:=Ae ⟨d,[]⟩;let z4:S:= .tup [.agg (Ah 2 3 z6.d),vO 4];let z7:=decide (d.field.number=0)&&(decide (d.field.kind=0)&&(decide (d.field.rep=false)&&(decide (d.field.packed=false)&&decide (d.field.msg=0))));let z8:=Gg d.field u;let z9:S:= .tup [.agg (Ah 2 3 z3.d),vO 4];let z10:List Blk:= .dead:: .dead::Ls z3.d z3.out;let z11:=fr (.one 4 (.one 5 (.first 6 (.first 7 (.one 8 (.first 9 (.done))))))) 0 4;let z12:List Blk:= .dead:: .dead::Ls z2.d (z8::z2.out);let z13:List Blk:= .dead:: .dead::Ls z6.d (z8::z6.out);let z14:List Blk:= .dead:: .dead::Ls z2.d z2.out;let z15:List Blk:= .dead:: .dead::Ls z6.d z6.out;let z16:S:= .v (.agg (cEv z8));(.br (.br (.seg [.call [0,1] z5 z14] (.leaf () [0,1,4,5,6])) (.seg [.tree z11 8 [0,1],.call [] z16 [],.call [0,1] z5 z12] (.leaf () [0,1,4,5,6]))) (.br (.seg [.call [0,1] z4 z15] (.leaf () [0,1,4,5,6])) (.seg [.tree z11 8 [0,1],.call [] z16 [],.call [0,1] z4 z13] (.leaf () [0,1,4,5,6]))),Bc (!decide (d.mode=8)) (Bc z7 ((Fp 62 [.agg z1] (L2 d) z5 z14)∧Lf z5 z9 z14 z10) ((Fp 134 [.agg (E6 d.field),.c (.int .u64 u)] [] z16 [])∧(Fp 65 [.agg z1,.agg (cEv z8)] (L2 d) z5 z12)∧Lf z5 z9 z12 z10)) (Bc z7 ((Fp 62 [.agg (Ah 0 1 d)] (L2 d) z4 z15)∧Lf z4 z9 z15 z10) ((Fp 134 [.agg (E6 d.field),.c (.int .u64 u)] [] z16 [])∧(Fp 65 [.agg (Ah 0 1 d),.agg (cEv z8)] (L2 d) z4 z13)∧Lf z4 z9 z13 z10)))) Q4 ?_
 refine⟨fun h1=>have q1:=Ao h1;have p1:=of_decide_eq_false q1;?_,fun h1=>have q1:=An h1;have p1:=of_decide_eq_true q1;?_⟩
 refine⟨fun h2=>have p2:=(Cb dT (Cb dT (Cb dT (Cb dT dT)))).1 h2;?_,fun h2=>have p2:=(Cc dT (Cc dT (Cc dT (Cc dT dF)))).1 h2;?_⟩
 refine zM Mac.d Mac.out (Ae (Bs ⟨d,[]⟩ u)) (Ae ⟨(⟨d.plan,2,d.stack,d.scan,d.start,d.at_,d.field,d.wire,d.want,d.utf,d.end_⟩:Dcd),[]⟩) (fun hm1 hm2=>⟨(Gx (⟨d.plan,2,d.stack,d.scan,d.start,d.at_,d.field,d.wire,d.want,d.utf,d.end_⟩:Dcd) Q7),Q6,Q10⟩) ?_ ?_
 rotate_left 2
 refine zD ((Ae (Bs ⟨d,[]⟩ u)).d) ((Ae ⟨(⟨d.plan,2,d.stack,d.scan,d.start,d.at_,d.field,d.wire,d.want,d.utf,d.end_⟩:Dcd),[]⟩).d) ((Ae (Bs ⟨d,[]⟩ u)).out) ((Gg d.field u)::(Ae ⟨(⟨d.plan,2,d.stack,d.scan,d.start,d.at_,d.field,d.wire,d.want,d.utf,d.end_⟩:Dcd),[]⟩).out) (fun hm1 hm2=>⟨(Rb d.field _ Q2),(Gy (⟨d.plan,2,d.stack,d.scan,d.start,d.at_,d.field,d.wire,d.want,d.utf,d.end_⟩:Dcd) (Gg d.field u) Q7),Q6,Q10⟩) ?_ ?_
 rotate_left 2
 refine⟨fun h2=>have p2:=(Cb dT (Cb dT (Cb dT (Cb dT dT)))).1 h2;?_,fun h2=>have p2:=(Cc dT (Cc dT (Cc dT (Cc dT dF)))).1 h2;?_⟩
 refine zM Mac.d Mac.out (Ae (Bs ⟨d,[]⟩ u)) (Ae ⟨d,[]⟩) (fun hm1 hm2=>⟨(Gx d Q2),Q6,Q10⟩) ?_ ?_
 rotate_left 2
 refine zD ((Ae (Bs ⟨d,[]⟩ u)).d) ((Ae ⟨d,[]⟩).d) ((Ae (Bs ⟨d,[]⟩ u)).out) ((Gg d.field u)::(Ae ⟨d,[]⟩).out) (fun hm1 hm2=>⟨(Rb d.field _ Q2),(Gy d (Gg d.field u) Q2),Q6,Q10⟩) ?_ ?_
 rotate_left 2
 all_goals first|((rw[Abw (by assumption) (Abt (f:=fld0) (by assumption))];simp[Ca];done))|((rw[Abx (by assumption) (Vy (by assumption))];done))|(simp_all[Bs,Cs,Ca];done)|((cases d;simp_all[Bs,Cs,Ca];done))|(grind[Bs,Cs,Ca])
set_option maxHeartbeats 1600000 in
theorem Sr (d:Dcd) (b:Int) (a:Int) (hp1:MW d) (hp2:(0:Int)≤b∧b≤255):Fun Tryz.prog 67 [.agg (Ah 0 1 d),vI b,vI a] [.tree d.plan.shapes,.lst .lev d.stack] (.tup [.agg (Ah 2 3 (Br ⟨d,[]⟩ b a).d),vO 4]) [.dead,.dead,.tree (Br ⟨d,[]⟩ b a).d.plan.shapes,.lst .lev (Br ⟨d,[]⟩ b a).d.stack,.lst .ev (Br ⟨d,[]⟩ b a).out]:=by
 have hN:Bj=274877906944:=rfl
 have hlv:=Bz hp1.lv
 have hpt:=B9 hlv.1
 have htb:=F2 hp1.lv
 have hbb:=hp1.b0
 have hat:=hp1.at_
 have hwt:=hp1.want
 have hwd:=Gw d
 have hsb:=Nt (b:=b) hbb.1 hbb.2
 refine Ar Tryz.func67 Q4 Q4 (w:=let zi:Int→C:= .int .i64;let z1:List C:=[zi d.at_,zi d.field.number,zi d.field.kind,.bool d.field.rep,.bool d.field.packed,zi d.field.msg,zi d.wire,zi d.want,zi d.utf.want,zi d.utf.low,zi d.utf.high,zi d.end_.kind,zi d.end_.field,.int .u64 d.end_.bits,zi d.end_.len,.str d.end_.text,zi d.end_.code,zi d.end_.at_];let z3:=(⟨d.plan,d.mode,d.stack,(⟨0,0⟩:Scn),d.start,d.at_,d.field,d.wire,d.want,d.utf,d.end_⟩:Dcd);let z7:=(⟨d.plan,d.mode,d.stack,(⟨0,0⟩:Scn),a,d.at_,d.field,d.wire,d.want,d.utf,d.end_⟩:Dcd);let z8:=Af d.scan b;let z2:=A7 (⟨d.plan,d.mode,d.stack,z8.1,a,d.at_,d.field,d.wire,d.want,d.utf,d.end_⟩:Dcd) 9 d.at_;let z5:=A7 (⟨d.plan,d.mode,d.stack,z8.1,d.start,d.at_,d.field,d.wire,d.want,d.utf,d.end_⟩:Dcd) 9 d.at_;let z10:=A7 (⟨d.plan,d.mode,d.stack,d.scan,a,d.at_,d.field,d.wire,d.want,d.utf,d.end_⟩:Dcd) 1 a;let z12:List Blk:= .dead:: .dead::Ls z2 [A2 9 d.at_];let z13:S:= .tup [.agg (Ah 2 3 z2),vO 4];let z14:List Blk:= .dead:: .dead::Ls z5 [A2 9 d.at_];let z15:=Ae (Bs ⟨z3,[]⟩ z8.1.bits);let z16:S:= .tup [.agg (Ah 2 3 z5),vO 4];let z17:List Blk:= .dead:: .dead::Ls z10 [A2 1 a];let z18:S:= .tup [.agg (Jt z8.1),vI z8.2];let z19:S:= .tup [.agg (Ah 2 3 z10),vO 4];let z20:List Blk:= .dead:: .dead::Ls (A7 d 1 a) [A2 1 a];let z21:S:= .tup [.agg (Ah 2 3 (A7 d 1 a)),vO 4];let z22:=C2 ⟨z7,[]⟩ z8.1.bits;let z23:=C2 ⟨z3,[]⟩ z8.1.bits;let z24:=Cm ⟨z7,[]⟩ z8.1.bits;let z25:=Cm ⟨z3,[]⟩ z8.1.bits;let z26:S:= .tup [.agg (Ah 2 3 z15.d),vO 4];let z27:=D8 ⟨z7,[]⟩ z8.1.bits;let z28:=D8 ⟨z3,[]⟩ z8.1.bits;let z29:=decide (d.mode=8);let z30:=decide (d.want=0);let z31:List Blk:= .dead:: .dead::Ls z15.d z15.out;let z32:S:= .v (vI (Dj d));let z33:=d.mode=1;let z34:=decide (Dj d=0);let z35:=decide (d.mode=2);let z36:=decide (z8.2=2);let z37:=decide (z8.2=0);let z38:=decide (d.mode=4);let z39:=decide z33;let z40:=Jt d.scan;let z41:= !decide z33;let z42:S:= .tup [.agg (Ah 0 1 z22.d),vO 2];let z43:S:= .tup [.agg (Ah 0 1 z27.d),vO 2];let z44:S:= .tup [.agg (Ah 0 1 z24.d),vO 2];let z45:S:= .tup [.agg (Ah 0 1 z23.d),vO 2];let z46:S:= .tup [.agg (Ah 0 1 z28.d),vO 2];let z47:S:= .tup [.agg (Ah 0 1 z25.d),vO 2];let z48:=Br ⟨d,[]⟩ b a;let z9:List Blk:= .dead:: .dead::Ls z48.d z48.out;let z11:S:= .tup [.agg (Ah 2 3 z48.d),vO 4];let z4:=Lf (.tup [.agg (.own 2::zi d.plan.root::zi d.plan.deep::zi d.plan.most::zi d.mode:: .own 3:: .int .u64 z8.1.bits::zi z8.1.have_::zi a::z1),vO 4]) z11 (.dead:: .dead::Ls d ([]:List Ev)) z9;let z6:=Lf (.tup [.agg (.own 2::zi d.plan.root::zi d.plan.deep::zi d.plan.most::zi d.mode:: .own 3:: .int .u64 z8.1.bits::zi z8.1.have_::zi d.start::z1),vO 4]) z11 (.dead:: .dead::Ls d ([]:List Ev)) z9;(.br (.br (.seg [.call [] z18 []] (.br (.seg [.call [0,1] z19 z17] (.leaf () [0,1,5,6,7])) (.br (.br (.seg [.call [] z32 []] (.br (.seg [.call [0,1] z13 z12] (.leaf () [0,1,5,6,7])) (.br (.br (.seg [.call [0,1] z13 z12] (.leaf () [0,1,5,6,7])) (.seg [.ty .ev,.at 0,.cut 3 0,.cut 3 5] (.leaf () [0,1,6,7,5]))) (.seg [.ty .ev,.at 0,.cut 3 0,.cut 3 5] (.leaf () [0,1,6,7,5]))))) (.br (.br (.seg [.call [0,1] z13 z12] (.leaf () [0,1,5,6,7])) (.seg [.ty .ev,.at 0,.cut 3 0,.cut 3 5] (.leaf () [0,1,6,7,5]))) (.seg [.ty .ev,.at 0,.cut 3 0,.cut 3 5] (.leaf () [0,1,6,7,5])))) (.seg [.br true,.call [] z42 (Ls z22.d z22.out),.at 0,.kill 0,.kill 1] (.leaf () [0,1,5,6,7]))))) (.br (.seg [.call [] z18 []] (.br (.seg [.call [0,1] z19 z17] (.leaf () [0,1,5,6,7])) (.br (.br (.seg [.call [] z32 []] (.br (.seg [.call [0,1] z13 z12] (.leaf () [0,1,5,6,7])) (.br (.br (.seg [.call [0,1] z13 z12] (.leaf () [0,1,5,6,7])) (.seg [.ty .ev,.at 0,.cut 3 0,.cut 3 5] (.leaf () [0,1,6,7,5]))) (.seg [.ty .ev,.at 0,.cut 3 0,.cut 3 5] (.leaf () [0,1,6,7,5]))))) (.br (.br (.seg [.call [0,1] z13 z12] (.leaf () [0,1,5,6,7])) (.seg [.ty .ev,.at 0,.cut 3 0,.cut 3 5] (.leaf () [0,1,6,7,5]))) (.seg [.ty .ev,.at 0,.cut 3 0,.cut 3 5] (.leaf () [0,1,6,7,5])))) (.seg [.br false,.br true,.call [] z43 (Ls z27.d z27.out),.at 0,.kill 0,.kill 1] (.leaf () [0,1,5,6,7]))))) (.br (.seg [.call [] z18 []] (.br (.seg [.call [0,1] z19 z17] (.leaf () [0,1,5,6,7])) (.br (.br (.seg [.call [] z32 []] (.br (.seg [.call [0,1] z13 z12] (.leaf () [0,1,5,6,7])) (.br (.br (.seg [.call [0,1] z13 z12] (.leaf () [0,1,5,6,7])) (.seg [.ty .ev,.at 0,.cut 3 0,.cut 3 5] (.leaf () [0,1,6,7,5]))) (.seg [.ty .ev,.at 0,.cut 3 0,.cut 3 5] (.leaf () [0,1,6,7,5]))))) (.br (.br (.seg [.call [0,1] z13 z12] (.leaf () [0,1,5,6,7])) (.seg [.ty .ev,.at 0,.cut 3 0,.cut 3 5] (.leaf () [0,1,6,7,5]))) (.seg [.ty .ev,.at 0,.cut 3 0,.cut 3 5] (.leaf () [0,1,6,7,5])))) (.seg [.br false,.br false,.br true,.call [] z44 (Ls z24.d z24.out),.at 0,.kill 0,.kill 1] (.leaf () [0,1,5,6,7]))))) (.seg [.call [] z18 []] (.br (.seg [.call [0,1] z21 z20] (.leaf () [0,1,5,6,7])) (.br (.br (.seg [.call [] z32 []] (.br (.seg [.call [0,1] z16 z14] (.leaf () [0,1,5,6,7])) (.br (.br (.seg [.call [0,1] z16 z14] (.leaf () [0,1,5,6,7])) (.seg [.ty .ev,.at 0,.cut 3 0,.cut 3 5] (.leaf () [0,1,6,7,5]))) (.seg [.ty .ev,.at 0,.cut 3 0,.cut 3 5] (.leaf () [0,1,6,7,5]))))) (.br (.br (.seg [.call [0,1] z16 z14] (.leaf () [0,1,5,6,7])) (.seg [.ty .ev,.at 0,.cut 3 0,.cut 3 5] (.leaf () [0,1,6,7,5]))) (.seg [.ty .ev,.at 0,.cut 3 0,.cut 3 5] (.leaf () [0,1,6,7,5])))) (.seg [.br false,.br false,.br false,.call [0,1] z26 z31] (.leaf () [0,1,5,6,7])))))))) (.seg [.call [] z18 []] (.br (.seg [.call [0,1] z21 z20] (.leaf () [0,1,5,6,7])) (.br (.br (.seg [.call [] z32 []] (.br (.seg [.call [0,1] z16 z14] (.leaf () [0,1,5,6,7])) (.br (.br (.seg [.call [0,1] z16 z14] (.leaf () [0,1,5,6,7])) (.seg [.ty .ev,.at 0,.cut 3 0,.cut 3 5] (.leaf () [0,1,6,7,5]))) (.seg [.ty .ev,.at 0,.cut 3 0,.cut 3 5] (.leaf () [0,1,6,7,5]))))) (.br (.br (.seg [.call [0,1] z16 z14] (.leaf () [0,1,5,6,7])) (.seg [.ty .ev,.at 0,.cut 3 0,.cut 3 5] (.leaf () [0,1,6,7,5]))) (.seg [.ty .ev,.at 0,.cut 3 0,.cut 3 5] (.leaf () [0,1,6,7,5])))) (.br (.seg [.call [] z45 (Ls z23.d z23.out),.at 0,.kill 0,.kill 1] (.leaf () [0,1,5,6,7])) (.br (.seg [.call [] z46 (Ls z28.d z28.out),.at 0,.kill 0,.kill 1] (.leaf () [0,1,5,6,7])) (.br (.seg [.call [] z47 (Ls z25.d z25.out),.at 0,.kill 0,.kill 1] (.leaf () [0,1,5,6,7])) (.seg [.call [0,1] z26 z31] (.leaf () [0,1,5,6,7])))))))),Bc (decide (d.scan.have_=0)) (Bc z39 ((Fp 136 [.agg z40,vI b] [] z18 [])∧Bc z36 ((Fp 64 [.agg (.own 0::zi d.plan.root::zi d.plan.deep::zi d.plan.most::zi d.mode:: .own 1:: .int .u64 d.scan.bits::zi d.scan.have_::zi a::z1),vI 1,vI a] (L2 d) z19 z17)∧Lf z19 z11 z17 z9) (Bc z37 (Bc z41 ((Fp 126 [.agg (.seq .shp d.plan.shapes::zi d.plan.root::zi d.plan.deep::zi d.plan.most::zi d.mode:: .seq .lev d.stack:: .int .u64 z8.1.bits::zi z8.1.have_::zi a::z1)] [] z32 [])∧Bc z34 ((Fp 64 [.agg (.own 0::zi d.plan.root::zi d.plan.deep::zi d.plan.most::zi d.mode:: .own 1:: .int .u64 z8.1.bits::zi z8.1.have_::zi a::z1),vI 9,vI d.at_] (L2 d) z13 z12)∧Lf z13 z11 z12 z9) (Bc z29 (Bc z30 ((Fp 64 [.agg (.own 0::zi d.plan.root::zi d.plan.deep::zi d.plan.most::zi d.mode:: .own 1:: .int .u64 z8.1.bits::zi z8.1.have_::zi a::z1),vI 9,vI d.at_] (L2 d) z13 z12)∧Lf z13 z11 z12 z9) z4) z4)) (Bc z29 (Bc z30 ((Fp 64 [.agg (.own 0::zi d.plan.root::zi d.plan.deep::zi d.plan.most::zi d.mode:: .own 1:: .int .u64 z8.1.bits::zi z8.1.have_::zi a::z1),vI 9,vI d.at_] (L2 d) z13 z12)∧Lf z13 z11 z12 z9) z4) z4)) ((z39=true)∧(Fp 137 [.agg (.seq .shp d.plan.shapes::zi d.plan.root::zi d.plan.deep::zi d.plan.most::zi d.mode:: .seq .lev d.stack:: .int .u64 0::zi 0::zi a::z1),.c (.int .u64 z8.1.bits)] [] z42 (Ls z22.d z22.out))∧Lf (.tup [.agg (Ah 2 3 z22.d),vO 4]) z11 (.dead:: .dead::Ls z22.d z22.out) z9))) (Bc z35 ((Fp 136 [.agg z40,vI b] [] z18 [])∧Bc z36 ((Fp 64 [.agg (.own 0::zi d.plan.root::zi d.plan.deep::zi d.plan.most::zi d.mode:: .own 1:: .int .u64 d.scan.bits::zi d.scan.have_::zi a::z1),vI 1,vI a] (L2 d) z19 z17)∧Lf z19 z11 z17 z9) (Bc z37 (Bc z41 ((Fp 126 [.agg (.seq .shp d.plan.shapes::zi d.plan.root::zi d.plan.deep::zi d.plan.most::zi d.mode:: .seq .lev d.stack:: .int .u64 z8.1.bits::zi z8.1.have_::zi a::z1)] [] z32 [])∧Bc z34 ((Fp 64 [.agg (.own 0::zi d.plan.root::zi d.plan.deep::zi d.plan.most::zi d.mode:: .own 1:: .int .u64 z8.1.bits::zi z8.1.have_::zi a::z1),vI 9,vI d.at_] (L2 d) z13 z12)∧Lf z13 z11 z12 z9) (Bc z29 (Bc z30 ((Fp 64 [.agg (.own 0::zi d.plan.root::zi d.plan.deep::zi d.plan.most::zi d.mode:: .own 1:: .int .u64 z8.1.bits::zi z8.1.have_::zi a::z1),vI 9,vI d.at_] (L2 d) z13 z12)∧Lf z13 z11 z12 z9) z4) z4)) (Bc z29 (Bc z30 ((Fp 64 [.agg (.own 0::zi d.plan.root::zi d.plan.deep::zi d.plan.most::zi d.mode:: .own 1:: .int .u64 z8.1.bits::zi z8.1.have_::zi a::z1),vI 9,vI d.at_] (L2 d) z13 z12)∧Lf z13 z11 z12 z9) z4) z4)) ((z39=false)∧(z35=true)∧(Fp 138 [.agg (.seq .shp d.plan.shapes::zi d.plan.root::zi d.plan.deep::zi d.plan.most::zi d.mode:: .seq .lev d.stack:: .int .u64 0::zi 0::zi a::z1),.c (.int .u64 z8.1.bits)] [] z43 (Ls z27.d z27.out))∧Lf (.tup [.agg (Ah 2 3 z27.d),vO 4]) z11 (.dead:: .dead::Ls z27.d z27.out) z9))) (Bc z38 ((Fp 136 [.agg z40,vI b] [] z18 [])∧Bc z36 ((Fp 64 [.agg (.own 0::zi d.plan.root::zi d.plan.deep::zi d.plan.most::zi d.mode:: .own 1:: .int .u64 d.scan.bits::zi d.scan.have_::zi a::z1),vI 1,vI a] (L2 d) z19 z17)∧Lf z19 z11 z17 z9) (Bc z37 (Bc z41 ((Fp 126 [.agg (.seq .shp d.plan.shapes::zi d.plan.root::zi d.plan.deep::zi d.plan.most::zi d.mode:: .seq .lev d.stack:: .int .u64 z8.1.bits::zi z8.1.have_::zi a::z1)] [] z32 [])∧Bc z34 ((Fp 64 [.agg (.own 0::zi d.plan.root::zi d.plan.deep::zi d.plan.most::zi d.mode:: .own 1:: .int .u64 z8.1.bits::zi z8.1.have_::zi a::z1),vI 9,vI d.at_] (L2 d) z13 z12)∧Lf z13 z11 z12 z9) (Bc z29 (Bc z30 ((Fp 64 [.agg (.own 0::zi d.plan.root::zi d.plan.deep::zi d.plan.most::zi d.mode:: .own 1:: .int .u64 z8.1.bits::zi z8.1.have_::zi a::z1),vI 9,vI d.at_] (L2 d) z13 z12)∧Lf z13 z11 z12 z9) z4) z4)) (Bc z29 (Bc z30 ((Fp 64 [.agg (.own 0::zi d.plan.root::zi d.plan.deep::zi d.plan.most::zi d.mode:: .own 1:: .int .u64 z8.1.bits::zi z8.1.have_::zi a::z1),vI 9,vI d.at_] (L2 d) z13 z12)∧Lf z13 z11 z12 z9) z4) z4)) ((z39=false)∧(z35=false)∧(z38=true)∧(Fp 139 [.agg (.seq .shp d.plan.shapes::zi d.plan.root::zi d.plan.deep::zi d.plan.most::zi d.mode:: .seq .lev d.stack:: .int .u64 0::zi 0::zi a::z1),.c (.int .u64 z8.1.bits)] [] z44 (Ls z24.d z24.out))∧Lf (.tup [.agg (Ah 2 3 z24.d),vO 4]) z11 (.dead:: .dead::Ls z24.d z24.out) z9))) ((Fp 136 [.agg z40,vI b] [] z18 [])∧Bc z36 ((Fp 64 [.agg (Ah 0 1 d),vI 1,vI a] (L2 d) z21 z20)∧Lf z21 z11 z20 z9) (Bc z37 (Bc z41 ((Fp 126 [.agg (.seq .shp d.plan.shapes::zi d.plan.root::zi d.plan.deep::zi d.plan.most::zi d.mode:: .seq .lev d.stack:: .int .u64 z8.1.bits::zi z8.1.have_::zi d.start::z1)] [] z32 [])∧Bc z34 ((Fp 64 [.agg (.own 0::zi d.plan.root::zi d.plan.deep::zi d.plan.most::zi d.mode:: .own 1:: .int .u64 z8.1.bits::zi z8.1.have_::zi d.start::z1),vI 9,vI d.at_] (L2 d) z16 z14)∧Lf z16 z11 z14 z9) (Bc z29 (Bc z30 ((Fp 64 [.agg (.own 0::zi d.plan.root::zi d.plan.deep::zi d.plan.most::zi d.mode:: .own 1:: .int .u64 z8.1.bits::zi z8.1.have_::zi d.start::z1),vI 9,vI d.at_] (L2 d) z16 z14)∧Lf z16 z11 z14 z9) z6) z6)) (Bc z29 (Bc z30 ((Fp 64 [.agg (.own 0::zi d.plan.root::zi d.plan.deep::zi d.plan.most::zi d.mode:: .own 1:: .int .u64 z8.1.bits::zi z8.1.have_::zi d.start::z1),vI 9,vI d.at_] (L2 d) z16 z14)∧Lf z16 z11 z14 z9) z6) z6)) ((z39=false)∧(z35=false)∧(z38=false)∧(Fp 135 [.agg (.own 0::zi d.plan.root::zi d.plan.deep::zi d.plan.most::zi d.mode:: .own 1:: .int .u64 0::zi 0::zi d.start::z1),.c (.int .u64 z8.1.bits)] (L2 d) z26 z31)∧Lf z26 z11 z31 z9)))))) ((Fp 136 [.agg z40,vI b] [] z18 [])∧Bc z36 ((Fp 64 [.agg (Ah 0 1 d),vI 1,vI a] (L2 d) z21 z20)∧Lf z21 z11 z20 z9) (Bc z37 (Bc z41 ((Fp 126 [.agg (.seq .shp d.plan.shapes::zi d.plan.root::zi d.plan.deep::zi d.plan.most::zi d.mode:: .seq .lev d.stack:: .int .u64 z8.1.bits::zi z8.1.have_::zi d.start::z1)] [] z32 [])∧Bc z34 ((Fp 64 [.agg (.own 0::zi d.plan.root::zi d.plan.deep::zi d.plan.most::zi d.mode:: .own 1:: .int .u64 z8.1.bits::zi z8.1.have_::zi d.start::z1),vI 9,vI d.at_] (L2 d) z16 z14)∧Lf z16 z11 z14 z9) (Bc z29 (Bc z30 ((Fp 64 [.agg (.own 0::zi d.plan.root::zi d.plan.deep::zi d.plan.most::zi d.mode:: .own 1:: .int .u64 z8.1.bits::zi z8.1.have_::zi d.start::z1),vI 9,vI d.at_] (L2 d) z16 z14)∧Lf z16 z11 z14 z9) z6) z6)) (Bc z29 (Bc z30 ((Fp 64 [.agg (.own 0::zi d.plan.root::zi d.plan.deep::zi d.plan.most::zi d.mode:: .own 1:: .int .u64 z8.1.bits::zi z8.1.have_::zi d.start::z1),vI 9,vI d.at_] (L2 d) z16 z14)∧Lf z16 z11 z14 z9) z6) z6)) (Bc z39 ((Fp 137 [.agg (.seq .shp d.plan.shapes::zi d.plan.root::zi d.plan.deep::zi d.plan.most::zi d.mode:: .seq .lev d.stack:: .int .u64 0::zi 0::zi d.start::z1),.c (.int .u64 z8.1.bits)] [] z45 (Ls z23.d z23.out))∧Lf (.tup [.agg (Ah 2 3 z23.d),vO 4]) z11 (.dead:: .dead::Ls z23.d z23.out) z9) (Bc z35 ((Fp 138 [.agg (.seq .shp d.plan.shapes::zi d.plan.root::zi d.plan.deep::zi d.plan.most::zi d.mode:: .seq .lev d.stack:: .int .u64 0::zi 0::zi d.start::z1),.c (.int .u64 z8.1.bits)] [] z46 (Ls z28.d z28.out))∧Lf (.tup [.agg (Ah 2 3 z28.d),vO 4]) z11 (.dead:: .dead::Ls z28.d z28.out) z9) (Bc z38 ((Fp 139 [.agg (.seq .shp d.plan.shapes::zi d.plan.root::zi d.plan.deep::zi d.plan.most::zi d.mode:: .seq .lev d.stack:: .int .u64 0::zi 0::zi d.start::z1),.c (.int .u64 z8.1.bits)] [] z47 (Ls z25.d z25.out))∧Lf (.tup [.agg (Ah 2 3 z25.d),vO 4]) z11 (.dead:: .dead::Ls z25.d z25.out) z9) ((Fp 135 [.agg (.own 0::zi d.plan.root::zi d.plan.deep::zi d.plan.most::zi d.mode:: .own 1:: .int .u64 0::zi 0::zi d.start::z1),.c (.int .u64 z8.1.bits)] (L2 d) z26 z31)∧Lf z26 z11 z31 z9)))))))) Q4 ?_
 refine dsp (fun h1 p1=>?_) fun h1 p1=>?_
 refine dsp (fun h2 p2=>?_) fun h2 p2=>?_
 refine⟨(H5 d.scan _ Q2),dsp (fun h3 p3=>?_) fun h3 p3=>?_⟩
 refine zD ((Br ⟨d,[]⟩ b a).d) (A7 (⟨d.plan,d.mode,d.stack,d.scan,a,d.at_,d.field,d.wire,d.want,d.utf,d.end_⟩:Dcd) 1 a) ((Br ⟨d,[]⟩ b a).out) [A2 1 a] (fun hm1 hm2=>⟨(Cz (⟨d.plan,d.mode,d.stack,d.scan,a,d.at_,d.field,d.wire,d.want,d.utf,d.end_⟩:Dcd) _ _),Q6,Q10⟩) ?_ ?_
 rotate_left 2
 refine dsp (fun h4 p4=>?_) fun h4 p4=>?_
 refine⟨fun h5=>have q5:=Ao h5;have p5:=of_decide_eq_false q5;?_,fun h5=>have q5:=An h5;have p5:=of_decide_eq_true q5;?_⟩
 refine⟨(Mo (⟨d.plan,d.mode,d.stack,(Af d.scan b).1,a,d.at_,d.field,d.wire,d.want,d.utf,d.end_⟩:Dcd) Q7),dsp (fun h6 p6=>?_) fun h6 p6=>?_⟩
 refine zD ((Br ⟨d,[]⟩ b a).d) (A7 (⟨d.plan,d.mode,d.stack,(Af d.scan b).1,a,d.at_,d.field,d.wire,d.want,d.utf,d.end_⟩:Dcd) 9 d.at_) ((Br ⟨d,[]⟩ b a).out) [A2 9 d.at_] (fun hm1 hm2=>⟨(Cz (⟨d.plan,d.mode,d.stack,(Af d.scan b).1,a,d.at_,d.field,d.wire,d.want,d.utf,d.end_⟩:Dcd) _ _),Q6,Q10⟩) ?_ ?_
 rotate_left 2
 refine dsp (fun h7 p7=>?_) fun h7 p7=>?_
 refine dsp (fun h8 p8=>?_) fun h8 p8=>?_
 refine zD ((Br ⟨d,[]⟩ b a).d) (A7 (⟨d.plan,d.mode,d.stack,(Af d.scan b).1,a,d.at_,d.field,d.wire,d.want,d.utf,d.end_⟩:Dcd) 9 d.at_) ((Br ⟨d,[]⟩ b a).out) [A2 9 d.at_] (fun hm1 hm2=>⟨(Cz (⟨d.plan,d.mode,d.stack,(Af d.scan b).1,a,d.at_,d.field,d.wire,d.want,d.utf,d.end_⟩:Dcd) _ _),Q6,Q10⟩) ?_ ?_
 rotate_left 2
 refine zD ((Br ⟨d,[]⟩ b a).d) (⟨d.plan,d.mode,d.stack,(Af d.scan b).1,a,d.at_,d.field,d.wire,d.want,d.utf,d.end_⟩:Dcd) ((Br ⟨d,[]⟩ b a).out) ([]:List Ev) (fun hm1 hm2=>⟨Q6,Q10⟩) ?_ ?_
 rotate_left 2
 refine zD ((Br ⟨d,[]⟩ b a).d) (⟨d.plan,d.mode,d.stack,(Af d.scan b).1,a,d.at_,d.field,d.wire,d.want,d.utf,d.end_⟩:Dcd) ((Br ⟨d,[]⟩ b a).out) ([]:List Ev) (fun hm1 hm2=>⟨Q6,Q10⟩) ?_ ?_
 rotate_left 2
 refine dsp (fun h6 p6=>?_) fun h6 p6=>?_
 refine dsp (fun h7 p7=>?_) fun h7 p7=>?_
 refine zD ((Br ⟨d,[]⟩ b a).d) (A7 (⟨d.plan,d.mode,d.stack,(Af d.scan b).1,a,d.at_,d.field,d.wire,d.want,d.utf,d.end_⟩:Dcd) 9 d.at_) ((Br ⟨d,[]⟩ b a).out) [A2 9 d.at_] (fun hm1 hm2=>⟨(Cz (⟨d.plan,d.mode,d.stack,(Af d.scan b).1,a,d.at_,d.field,d.wire,d.want,d.utf,d.end_⟩:Dcd) _ _),Q6,Q10⟩) ?_ ?_
 rotate_left 2
 refine zD ((Br ⟨d,[]⟩ b a).d) (⟨d.plan,d.mode,d.stack,(Af d.scan b).1,a,d.at_,d.field,d.wire,d.want,d.utf,d.end_⟩:Dcd) ((Br ⟨d,[]⟩ b a).out) ([]:List Ev) (fun hm1 hm2=>⟨Q6,Q10⟩) ?_ ?_
 rotate_left 2
 refine zD ((Br ⟨d,[]⟩ b a).d) (⟨d.plan,d.mode,d.stack,(Af d.scan b).1,a,d.at_,d.field,d.wire,d.want,d.utf,d.end_⟩:Dcd) ((Br ⟨d,[]⟩ b a).out) ([]:List Ev) (fun hm1 hm2=>⟨Q6,Q10⟩) ?_ ?_
 rotate_left 2
 refine zM Mac.d Mac.out (Br ⟨d,[]⟩ b a) (C2 ⟨(⟨d.plan,d.mode,d.stack,(⟨0,0⟩:Scn),a,d.at_,d.field,d.wire,d.want,d.utf,d.end_⟩:Dcd),[]⟩ (Af d.scan b).1.bits) (fun hm1 hm2=>⟨h2,(Acf (⟨d.plan,d.mode,d.stack,(⟨0,0⟩:Scn),a,d.at_,d.field,d.wire,d.want,d.utf,d.end_⟩:Dcd) _ (Q19) Q2),Q6,Q10⟩) ?_ ?_
 rotate_left 2
 refine dsp (fun h3 p3=>?_) fun h3 p3=>?_
 refine⟨(H5 d.scan _ Q2),dsp (fun h4 p4=>?_) fun h4 p4=>?_⟩
 refine zD ((Br ⟨d,[]⟩ b a).d) (A7 (⟨d.plan,d.mode,d.stack,d.scan,a,d.at_,d.field,d.wire,d.want,d.utf,d.end_⟩:Dcd) 1 a) ((Br ⟨d,[]⟩ b a).out) [A2 1 a] (fun hm1 hm2=>⟨(Cz (⟨d.plan,d.mode,d.stack,d.scan,a,d.at_,d.field,d.wire,d.want,d.utf,d.end_⟩:Dcd) _ _),Q6,Q10⟩) ?_ ?_
 rotate_left 2
 refine dsp (fun h5 p5=>?_) fun h5 p5=>?_
 refine⟨fun h6=>have q6:=Ao h6;have p6:=of_decide_eq_false q6;?_,fun h6=>have q6:=An h6;have p6:=of_decide_eq_true q6;?_⟩
 refine⟨(Mo (⟨d.plan,d.mode,d.stack,(Af d.scan b).1,a,d.at_,d.field,d.wire,d.want,d.utf,d.end_⟩:Dcd) Q7),dsp (fun h7 p7=>?_) fun h7 p7=>?_⟩
 refine zD ((Br ⟨d,[]⟩ b a).d) (A7 (⟨d.plan,d.mode,d.stack,(Af d.scan b).1,a,d.at_,d.field,d.wire,d.want,d.utf,d.end_⟩:Dcd) 9 d.at_) ((Br ⟨d,[]⟩ b a).out) [A2 9 d.at_] (fun hm1 hm2=>⟨(Cz (⟨d.plan,d.mode,d.stack,(Af d.scan b).1,a,d.at_,d.field,d.wire,d.want,d.utf,d.end_⟩:Dcd) _ _),Q6,Q10⟩) ?_ ?_
 rotate_left 2
 refine dsp (fun h8 p8=>?_) fun h8 p8=>?_
 refine dsp (fun h9 p9=>?_) fun h9 p9=>?_
 refine zD ((Br ⟨d,[]⟩ b a).d) (A7 (⟨d.plan,d.mode,d.stack,(Af d.scan b).1,a,d.at_,d.field,d.wire,d.want,d.utf,d.end_⟩:Dcd) 9 d.at_) ((Br ⟨d,[]⟩ b a).out) [A2 9 d.at_] (fun hm1 hm2=>⟨(Cz (⟨d.plan,d.mode,d.stack,(Af d.scan b).1,a,d.at_,d.field,d.wire,d.want,d.utf,d.end_⟩:Dcd) _ _),Q6,Q10⟩) ?_ ?_
 rotate_left 2
 refine zD ((Br ⟨d,[]⟩ b a).d) (⟨d.plan,d.mode,d.stack,(Af d.scan b).1,a,d.at_,d.field,d.wire,d.want,d.utf,d.end_⟩:Dcd) ((Br ⟨d,[]⟩ b a).out) ([]:List Ev) (fun hm1 hm2=>⟨Q6,Q10⟩) ?_ ?_
 rotate_left 2
 refine zD ((Br ⟨d,[]⟩ b a).d) (⟨d.plan,d.mode,d.stack,(Af d.scan b).1,a,d.at_,d.field,d.wire,d.want,d.utf,d.end_⟩:Dcd) ((Br ⟨d,[]⟩ b a).out) ([]:List Ev) (fun hm1 hm2=>⟨Q6,Q10⟩) ?_ ?_
 rotate_left 2
 refine dsp (fun h7 p7=>?_) fun h7 p7=>?_
 refine dsp (fun h8 p8=>?_) fun h8 p8=>?_
 refine zD ((Br ⟨d,[]⟩ b a).d) (A7 (⟨d.plan,d.mode,d.stack,(Af d.scan b).1,a,d.at_,d.field,d.wire,d.want,d.utf,d.end_⟩:Dcd) 9 d.at_) ((Br ⟨d,[]⟩ b a).out) [A2 9 d.at_] (fun hm1 hm2=>⟨(Cz (⟨d.plan,d.mode,d.stack,(Af d.scan b).1,a,d.at_,d.field,d.wire,d.want,d.utf,d.end_⟩:Dcd) _ _),Q6,Q10⟩) ?_ ?_
 rotate_left 2
 refine zD ((Br ⟨d,[]⟩ b a).d) (⟨d.plan,d.mode,d.stack,(Af d.scan b).1,a,d.at_,d.field,d.wire,d.want,d.utf,d.end_⟩:Dcd) ((Br ⟨d,[]⟩ b a).out) ([]:List Ev) (fun hm1 hm2=>⟨Q6,Q10⟩) ?_ ?_
 rotate_left 2
 refine zD ((Br ⟨d,[]⟩ b a).d) (⟨d.plan,d.mode,d.stack,(Af d.scan b).1,a,d.at_,d.field,d.wire,d.want,d.utf,d.end_⟩:Dcd) ((Br ⟨d,[]⟩ b a).out) ([]:List Ev) (fun hm1 hm2=>⟨Q6,Q10⟩) ?_ ?_
 rotate_left 2
 refine zM Mac.d Mac.out (Br ⟨d,[]⟩ b a) (D8 ⟨(⟨d.plan,d.mode,d.stack,(⟨0,0⟩:Scn),a,d.at_,d.field,d.wire,d.want,d.utf,d.end_⟩:Dcd),[]⟩ (Af d.scan b).1.bits) (fun hm1 hm2=>⟨h2,h3,(Agy (⟨d.plan,d.mode,d.stack,(⟨0,0⟩:Scn),a,d.at_,d.field,d.wire,d.want,d.utf,d.end_⟩:Dcd) _ (Q19) Q2),Q6,Q10⟩) ?_ ?_
 rotate_left 2
 refine dsp (fun h4 p4=>?_) fun h4 p4=>?_
 refine⟨(H5 d.scan _ Q2),dsp (fun h5 p5=>?_) fun h5 p5=>?_⟩
 refine zD ((Br ⟨d,[]⟩ b a).d) (A7 (⟨d.plan,d.mode,d.stack,d.scan,a,d.at_,d.field,d.wire,d.want,d.utf,d.end_⟩:Dcd) 1 a) ((Br ⟨d,[]⟩ b a).out) [A2 1 a] (fun hm1 hm2=>⟨(Cz (⟨d.plan,d.mode,d.stack,d.scan,a,d.at_,d.field,d.wire,d.want,d.utf,d.end_⟩:Dcd) _ _),Q6,Q10⟩) ?_ ?_
 rotate_left 2
 refine dsp (fun h6 p6=>?_) fun h6 p6=>?_
 refine⟨fun h7=>have q7:=Ao h7;have p7:=of_decide_eq_false q7;?_,fun h7=>have q7:=An h7;have p7:=of_decide_eq_true q7;?_⟩
 refine⟨(Mo (⟨d.plan,d.mode,d.stack,(Af d.scan b).1,a,d.at_,d.field,d.wire,d.want,d.utf,d.end_⟩:Dcd) Q7),dsp (fun h8 p8=>?_) fun h8 p8=>?_⟩
 refine zD ((Br ⟨d,[]⟩ b a).d) (A7 (⟨d.plan,d.mode,d.stack,(Af d.scan b).1,a,d.at_,d.field,d.wire,d.want,d.utf,d.end_⟩:Dcd) 9 d.at_) ((Br ⟨d,[]⟩ b a).out) [A2 9 d.at_] (fun hm1 hm2=>⟨(Cz (⟨d.plan,d.mode,d.stack,(Af d.scan b).1,a,d.at_,d.field,d.wire,d.want,d.utf,d.end_⟩:Dcd) _ _),Q6,Q10⟩) ?_ ?_
 rotate_left 2
 refine dsp (fun h9 p9=>?_) fun h9 p9=>?_
 refine dsp (fun h10 p10=>?_) fun h10 p10=>?_
 refine zD ((Br ⟨d,[]⟩ b a).d) (A7 (⟨d.plan,d.mode,d.stack,(Af d.scan b).1,a,d.at_,d.field,d.wire,d.want,d.utf,d.end_⟩:Dcd) 9 d.at_) ((Br ⟨d,[]⟩ b a).out) [A2 9 d.at_] (fun hm1 hm2=>⟨(Cz (⟨d.plan,d.mode,d.stack,(Af d.scan b).1,a,d.at_,d.field,d.wire,d.want,d.utf,d.end_⟩:Dcd) _ _),Q6,Q10⟩) ?_ ?_
 rotate_left 2
 refine zD ((Br ⟨d,[]⟩ b a).d) (⟨d.plan,d.mode,d.stack,(Af d.scan b).1,a,d.at_,d.field,d.wire,d.want,d.utf,d.end_⟩:Dcd) ((Br ⟨d,[]⟩ b a).out) ([]:List Ev) (fun hm1 hm2=>⟨Q6,Q10⟩) ?_ ?_
 rotate_left 2
 refine zD ((Br ⟨d,[]⟩ b a).d) (⟨d.plan,d.mode,d.stack,(Af d.scan b).1,a,d.at_,d.field,d.wire,d.want,d.utf,d.end_⟩:Dcd) ((Br ⟨d,[]⟩ b a).out) ([]:List Ev) (fun hm1 hm2=>⟨Q6,Q10⟩) ?_ ?_
 rotate_left 2
 refine dsp (fun h8 p8=>?_) fun h8 p8=>?_
 refine dsp (fun h9 p9=>?_) fun h9 p9=>?_
 refine zD ((Br ⟨d,[]⟩ b a).d) (A7 (⟨d.plan,d.mode,d.stack,(Af d.scan b).1,a,d.at_,d.field,d.wire,d.want,d.utf,d.end_⟩:Dcd) 9 d.at_) ((Br ⟨d,[]⟩ b a).out) [A2 9 d.at_] (fun hm1 hm2=>⟨(Cz (⟨d.plan,d.mode,d.stack,(Af d.scan b).1,a,d.at_,d.field,d.wire,d.want,d.utf,d.end_⟩:Dcd) _ _),Q6,Q10⟩) ?_ ?_
 rotate_left 2
 refine zD ((Br ⟨d,[]⟩ b a).d) (⟨d.plan,d.mode,d.stack,(Af d.scan b).1,a,d.at_,d.field,d.wire,d.want,d.utf,d.end_⟩:Dcd) ((Br ⟨d,[]⟩ b a).out) ([]:List Ev) (fun hm1 hm2=>⟨Q6,Q10⟩) ?_ ?_
 rotate_left 2
 refine zD ((Br ⟨d,[]⟩ b a).d) (⟨d.plan,d.mode,d.stack,(Af d.scan b).1,a,d.at_,d.field,d.wire,d.want,d.utf,d.end_⟩:Dcd) ((Br ⟨d,[]⟩ b a).out) ([]:List Ev) (fun hm1 hm2=>⟨Q6,Q10⟩) ?_ ?_
 rotate_left 2
 refine zM Mac.d Mac.out (Br ⟨d,[]⟩ b a) (Cm ⟨(⟨d.plan,d.mode,d.stack,(⟨0,0⟩:Scn),a,d.at_,d.field,d.wire,d.want,d.utf,d.end_⟩:Dcd),[]⟩ (Af d.scan b).1.bits) (fun hm1 hm2=>⟨h2,h3,h4,(Ae1 (⟨d.plan,d.mode,d.stack,(⟨0,0⟩:Scn),a,d.at_,d.field,d.wire,d.want,d.utf,d.end_⟩:Dcd) _ (Q19) Q2 (hp1.kn)),Q6,Q10⟩) ?_ ?_
 rotate_left 2
 refine⟨(H5 d.scan _ Q2),dsp (fun h5 p5=>?_) fun h5 p5=>?_⟩
 refine zD ((Br ⟨d,[]⟩ b a).d) (A7 d 1 a) ((Br ⟨d,[]⟩ b a).out) [A2 1 a] (fun hm1 hm2=>⟨(Cz d _ _),Q6,Q10⟩) ?_ ?_
 rotate_left 2
 refine dsp (fun h6 p6=>?_) fun h6 p6=>?_
 refine⟨fun h7=>have q7:=Ao h7;have p7:=of_decide_eq_false q7;?_,fun h7=>have q7:=An h7;have p7:=of_decide_eq_true q7;?_⟩
 refine⟨(Mo (⟨d.plan,d.mode,d.stack,(Af d.scan b).1,d.start,d.at_,d.field,d.wire,d.want,d.utf,d.end_⟩:Dcd) Q7),dsp (fun h8 p8=>?_) fun h8 p8=>?_⟩
 refine zD ((Br ⟨d,[]⟩ b a).d) (A7 (⟨d.plan,d.mode,d.stack,(Af d.scan b).1,d.start,d.at_,d.field,d.wire,d.want,d.utf,d.end_⟩:Dcd) 9 d.at_) ((Br ⟨d,[]⟩ b a).out) [A2 9 d.at_] (fun hm1 hm2=>⟨(Cz (⟨d.plan,d.mode,d.stack,(Af d.scan b).1,d.start,d.at_,d.field,d.wire,d.want,d.utf,d.end_⟩:Dcd) _ _),Q6,Q10⟩) ?_ ?_
 rotate_left 2
 refine dsp (fun h9 p9=>?_) fun h9 p9=>?_
 refine dsp (fun h10 p10=>?_) fun h10 p10=>?_
 refine zD ((Br ⟨d,[]⟩ b a).d) (A7 (⟨d.plan,d.mode,d.stack,(Af d.scan b).1,d.start,d.at_,d.field,d.wire,d.want,d.utf,d.end_⟩:Dcd) 9 d.at_) ((Br ⟨d,[]⟩ b a).out) [A2 9 d.at_] (fun hm1 hm2=>⟨(Cz (⟨d.plan,d.mode,d.stack,(Af d.scan b).1,d.start,d.at_,d.field,d.wire,d.want,d.utf,d.end_⟩:Dcd) _ _),Q6,Q10⟩) ?_ ?_
 rotate_left 2
 refine zD ((Br ⟨d,[]⟩ b a).d) (⟨d.plan,d.mode,d.stack,(Af d.scan b).1,d.start,d.at_,d.field,d.wire,d.want,d.utf,d.end_⟩:Dcd) ((Br ⟨d,[]⟩ b a).out) ([]:List Ev) (fun hm1 hm2=>⟨Q6,Q10⟩) ?_ ?_
 rotate_left 2
 refine zD ((Br ⟨d,[]⟩ b a).d) (⟨d.plan,d.mode,d.stack,(Af d.scan b).1,d.start,d.at_,d.field,d.wire,d.want,d.utf,d.end_⟩:Dcd) ((Br ⟨d,[]⟩ b a).out) ([]:List Ev) (fun hm1 hm2=>⟨Q6,Q10⟩) ?_ ?_
 rotate_left 2
 refine dsp (fun h8 p8=>?_) fun h8 p8=>?_
 refine dsp (fun h9 p9=>?_) fun h9 p9=>?_
 refine zD ((Br ⟨d,[]⟩ b a).d) (A7 (⟨d.plan,d.mode,d.stack,(Af d.scan b).1,d.start,d.at_,d.field,d.wire,d.want,d.utf,d.end_⟩:Dcd) 9 d.at_) ((Br ⟨d,[]⟩ b a).out) [A2 9 d.at_] (fun hm1 hm2=>⟨(Cz (⟨d.plan,d.mode,d.stack,(Af d.scan b).1,d.start,d.at_,d.field,d.wire,d.want,d.utf,d.end_⟩:Dcd) _ _),Q6,Q10⟩) ?_ ?_
 rotate_left 2
 refine zD ((Br ⟨d,[]⟩ b a).d) (⟨d.plan,d.mode,d.stack,(Af d.scan b).1,d.start,d.at_,d.field,d.wire,d.want,d.utf,d.end_⟩:Dcd) ((Br ⟨d,[]⟩ b a).out) ([]:List Ev) (fun hm1 hm2=>⟨Q6,Q10⟩) ?_ ?_
 rotate_left 2
 refine zD ((Br ⟨d,[]⟩ b a).d) (⟨d.plan,d.mode,d.stack,(Af d.scan b).1,d.start,d.at_,d.field,d.wire,d.want,d.utf,d.end_⟩:Dcd) ((Br ⟨d,[]⟩ b a).out) ([]:List Ev) (fun hm1 hm2=>⟨Q6,Q10⟩) ?_ ?_
 rotate_left 2
 refine zM Mac.d Mac.out (Br ⟨d,[]⟩ b a) (Ae (Bs ⟨(⟨d.plan,d.mode,d.stack,(⟨0,0⟩:Scn),d.start,d.at_,d.field,d.wire,d.want,d.utf,d.end_⟩:Dcd),[]⟩ (Af d.scan b).1.bits)) (fun hm1 hm2=>⟨h2,h3,h4,(Tw (⟨d.plan,d.mode,d.stack,(⟨0,0⟩:Scn),d.start,d.at_,d.field,d.wire,d.want,d.utf,d.end_⟩:Dcd) _ Q7 Q2),Q6,Q10⟩) ?_ ?_
 rotate_left 2
 refine⟨(H5 d.scan _ Q2),dsp (fun h2 p2=>?_) fun h2 p2=>?_⟩
 refine zD ((Br ⟨d,[]⟩ b a).d) (A7 d 1 a) ((Br ⟨d,[]⟩ b a).out) [A2 1 a] (fun hm1 hm2=>⟨(Cz d _ _),Q6,Q10⟩) ?_ ?_
 rotate_left 2
 refine dsp (fun h3 p3=>?_) fun h3 p3=>?_
 refine⟨fun h4=>have q4:=Ao h4;have p4:=of_decide_eq_false q4;?_,fun h4=>have q4:=An h4;have p4:=of_decide_eq_true q4;?_⟩
 refine⟨(Mo (⟨d.plan,d.mode,d.stack,(Af d.scan b).1,d.start,d.at_,d.field,d.wire,d.want,d.utf,d.end_⟩:Dcd) Q7),dsp (fun h5 p5=>?_) fun h5 p5=>?_⟩
 refine zD ((Br ⟨d,[]⟩ b a).d) (A7 (⟨d.plan,d.mode,d.stack,(Af d.scan b).1,d.start,d.at_,d.field,d.wire,d.want,d.utf,d.end_⟩:Dcd) 9 d.at_) ((Br ⟨d,[]⟩ b a).out) [A2 9 d.at_] (fun hm1 hm2=>⟨(Cz (⟨d.plan,d.mode,d.stack,(Af d.scan b).1,d.start,d.at_,d.field,d.wire,d.want,d.utf,d.end_⟩:Dcd) _ _),Q6,Q10⟩) ?_ ?_
 rotate_left 2
 refine dsp (fun h6 p6=>?_) fun h6 p6=>?_
 refine dsp (fun h7 p7=>?_) fun h7 p7=>?_
 refine zD ((Br ⟨d,[]⟩ b a).d) (A7 (⟨d.plan,d.mode,d.stack,(Af d.scan b).1,d.start,d.at_,d.field,d.wire,d.want,d.utf,d.end_⟩:Dcd) 9 d.at_) ((Br ⟨d,[]⟩ b a).out) [A2 9 d.at_] (fun hm1 hm2=>⟨(Cz (⟨d.plan,d.mode,d.stack,(Af d.scan b).1,d.start,d.at_,d.field,d.wire,d.want,d.utf,d.end_⟩:Dcd) _ _),Q6,Q10⟩) ?_ ?_
 rotate_left 2
 refine zD ((Br ⟨d,[]⟩ b a).d) (⟨d.plan,d.mode,d.stack,(Af d.scan b).1,d.start,d.at_,d.field,d.wire,d.want,d.utf,d.end_⟩:Dcd) ((Br ⟨d,[]⟩ b a).out) ([]:List Ev) (fun hm1 hm2=>⟨Q6,Q10⟩) ?_ ?_
 rotate_left 2
 refine zD ((Br ⟨d,[]⟩ b a).d) (⟨d.plan,d.mode,d.stack,(Af d.scan b).1,d.start,d.at_,d.field,d.wire,d.want,d.utf,d.end_⟩:Dcd) ((Br ⟨d,[]⟩ b a).out) ([]:List Ev) (fun hm1 hm2=>⟨Q6,Q10⟩) ?_ ?_
 rotate_left 2
 refine dsp (fun h5 p5=>?_) fun h5 p5=>?_
 refine dsp (fun h6 p6=>?_) fun h6 p6=>?_
 refine zD ((Br ⟨d,[]⟩ b a).d) (A7 (⟨d.plan,d.mode,d.stack,(Af d.scan b).1,d.start,d.at_,d.field,d.wire,d.want,d.utf,d.end_⟩:Dcd) 9 d.at_) ((Br ⟨d,[]⟩ b a).out) [A2 9 d.at_] (fun hm1 hm2=>⟨(Cz (⟨d.plan,d.mode,d.stack,(Af d.scan b).1,d.start,d.at_,d.field,d.wire,d.want,d.utf,d.end_⟩:Dcd) _ _),Q6,Q10⟩) ?_ ?_
 rotate_left 2
 refine zD ((Br ⟨d,[]⟩ b a).d) (⟨d.plan,d.mode,d.stack,(Af d.scan b).1,d.start,d.at_,d.field,d.wire,d.want,d.utf,d.end_⟩:Dcd) ((Br ⟨d,[]⟩ b a).out) ([]:List Ev) (fun hm1 hm2=>⟨Q6,Q10⟩) ?_ ?_
 rotate_left 2
 refine zD ((Br ⟨d,[]⟩ b a).d) (⟨d.plan,d.mode,d.stack,(Af d.scan b).1,d.start,d.at_,d.field,d.wire,d.want,d.utf,d.end_⟩:Dcd) ((Br ⟨d,[]⟩ b a).out) ([]:List Ev) (fun hm1 hm2=>⟨Q6,Q10⟩) ?_ ?_
 rotate_left 2
 refine dsp (fun h4 p4=>?_) fun h4 p4=>?_
 refine zM Mac.d Mac.out (Br ⟨d,[]⟩ b a) (C2 ⟨(⟨d.plan,d.mode,d.stack,(⟨0,0⟩:Scn),d.start,d.at_,d.field,d.wire,d.want,d.utf,d.end_⟩:Dcd),[]⟩ (Af d.scan b).1.bits) (fun hm1 hm2=>⟨(Acf (⟨d.plan,d.mode,d.stack,(⟨0,0⟩:Scn),d.start,d.at_,d.field,d.wire,d.want,d.utf,d.end_⟩:Dcd) _ (Q19) Q2),Q6,Q10⟩) ?_ ?_
 rotate_left 2
 refine dsp (fun h5 p5=>?_) fun h5 p5=>?_
 refine zM Mac.d Mac.out (Br ⟨d,[]⟩ b a) (D8 ⟨(⟨d.plan,d.mode,d.stack,(⟨0,0⟩:Scn),d.start,d.at_,d.field,d.wire,d.want,d.utf,d.end_⟩:Dcd),[]⟩ (Af d.scan b).1.bits) (fun hm1 hm2=>⟨(Agy (⟨d.plan,d.mode,d.stack,(⟨0,0⟩:Scn),d.start,d.at_,d.field,d.wire,d.want,d.utf,d.end_⟩:Dcd) _ (Q19) Q2),Q6,Q10⟩) ?_ ?_
 rotate_left 2
 refine dsp (fun h6 p6=>?_) fun h6 p6=>?_
 refine zM Mac.d Mac.out (Br ⟨d,[]⟩ b a) (Cm ⟨(⟨d.plan,d.mode,d.stack,(⟨0,0⟩:Scn),d.start,d.at_,d.field,d.wire,d.want,d.utf,d.end_⟩:Dcd),[]⟩ (Af d.scan b).1.bits) (fun hm1 hm2=>⟨(Ae1 (⟨d.plan,d.mode,d.stack,(⟨0,0⟩:Scn),d.start,d.at_,d.field,d.wire,d.want,d.utf,d.end_⟩:Dcd) _ (Q19) Q2 (hp1.kn)),Q6,Q10⟩) ?_ ?_
 rotate_left 2
 refine zM Mac.d Mac.out (Br ⟨d,[]⟩ b a) (Ae (Bs ⟨(⟨d.plan,d.mode,d.stack,(⟨0,0⟩:Scn),d.start,d.at_,d.field,d.wire,d.want,d.utf,d.end_⟩:Dcd),[]⟩ (Af d.scan b).1.bits)) (fun hm1 hm2=>⟨(Tw (⟨d.plan,d.mode,d.stack,(⟨0,0⟩:Scn),d.start,d.at_,d.field,d.wire,d.want,d.utf,d.end_⟩:Dcd) _ Q7 Q2),Q6,Q10⟩) ?_ ?_
 rotate_left 2
 all_goals first|(simp_all[Br,Kq,G3,W5,A0,A7,scn0];done)|((unfold Br;simp_all[Kq,G3,W5,A0,A7,scn0];done))|(grind[Br,Kq,G3,W5,A0,A7,scn0])
set_option maxHeartbeats 1600000 in
theorem V9 (d:Dcd) (b:Int) (w:Int) (hp1:MW d) (hp2:(0:Int)≤b∧b≤255) (hp3:w=Bp d) (hp4:(d).mode=8→Rx (d).field=true):Fun Tryz.prog 66 [.agg (Ah 0 1 d),vI b,vI w] [.tree d.plan.shapes,.lst .lev d.stack] (.tup [.agg (Ah 2 3 (Dq ⟨d,[]⟩ b).d),vO 4]) [.dead,.dead,.tree (Dq ⟨d,[]⟩ b).d.plan.shapes,.lst .lev (Dq ⟨d,[]⟩ b).d.stack,.lst .ev (Dq ⟨d,[]⟩ b).out]:=by
 have hN:Bj=274877906944:=rfl
 have hlv:=Bz hp1.lv
 have hpt:=B9 hlv.1
 have htb:=F2 hp1.lv
 have hbb:=hp1.b0
 have hat:=hp1.at_
 have hwt:=hp1.want
 have hwd:=Gw d
 have hfb:=W7 (b:=b) hbb
 refine Ar Tryz.func66 Q4 Q4 (w:=let zi:Int→C:= .int .i64;let z1:List C:=[zi d.start,zi d.at_,zi d.field.number,zi d.field.kind,.bool d.field.rep,.bool d.field.packed,zi d.field.msg,zi d.wire,zi d.want,zi d.utf.want,zi d.utf.low,zi d.utf.high,zi d.end_.kind,zi d.end_.field,.int .u64 d.end_.bits,zi d.end_.len,.str d.end_.text,zi d.end_.code,zi d.end_.at_];let z3:=(⟨d.plan,d.mode,d.stack,(⟨0,0⟩:Scn),d.start,d.at_,d.field,d.wire,d.want,d.utf,d.end_⟩:Dcd);let z6:List Blk:= .dead:: .dead::Ls (Dq ⟨d,[]⟩ b).d (Dq ⟨d,[]⟩ b).out;let z7:=Bq d.scan b;let z2:=Ae (Bs ⟨z3,[]⟩ z7.bits);let z4:S:= .tup [.agg (Ah 2 3 z2.d),vO 4];let z5:List Blk:= .dead:: .dead::Ls z2.d z2.out;let z8:S:= .tup [.agg (Ah 2 3 (Dq ⟨d,[]⟩ b).d),vO 4];let z10:=Gg d.field z7.bits;let z12:=A7 z3 9 d.at_;let z9:S:= .tup [.agg (Ah 2 3 z12),vO 4];let z11:List Blk:= .dead:: .dead::Ls z12 [A2 9 d.at_];(.seg [.call [] (.v (.agg (Jt z7))) []] (.br (.seg [.ty .ev,.at 0,.cut 3 0,.cut 3 5] (.leaf () [0,1,6,7,5])) (.br (.br (.br (.seg [.call [] (.v (.agg (cEv z10))) [],.call [0,1] z9 z11,.tree (.first 0 (.first 1 (.first 3 (.one 2 (.one 4 (.one 5 (.first 6 (.done)))))))) 5 [8],.ty .ev,.ty .ev] (.leaf () [0,1,6,7,11])) (.seg [.call [0,1] z4 z5] (.leaf () [0,1,5,6,7]))) (.seg [.call [0,1] z4 z5] (.leaf () [0,1,5,6,7]))) (.seg [.call [0,1] z4 z5] (.leaf () [0,1,5,6,7])))),(Fp 133 [.agg (Jt d.scan),vI b] [] (.v (.agg (Jt z7))) [])∧Bc (decide (z7.have_<w)) (Lf (.tup [.agg (.own 2::zi d.plan.root::zi d.plan.deep::zi d.plan.most::zi d.mode:: .own 3:: .int .u64 z7.bits::zi z7.have_::z1),vO 4]) z8 (.dead:: .dead::Ls d ([]:List Ev)) z6) (Bc (decide (d.mode=8)) (Bc (decide (0<d.want)) (Bc (decide (d.want<w)) ((Fp 134 [.agg (E6 d.field),.c (.int .u64 z7.bits)] [] (.v (.agg (cEv z10))) [])∧(Fp 64 [.agg (.own 0::zi d.plan.root::zi d.plan.deep::zi d.plan.most::zi d.mode:: .own 1:: .int .u64 0::zi 0::z1),vI 9,vI d.at_] (L2 d) z9 z11)∧(List.length [z10]+List.length [A2 9 d.at_]≤Bj)∧Lf z9 z8 (.dead:: .dead::Ls z12 ([z10]++[A2 9 d.at_])) z6) ((Fp 135 [.agg (.own 0::zi d.plan.root::zi d.plan.deep::zi d.plan.most::zi d.mode:: .own 1:: .int .u64 0::zi 0::z1),.c (.int .u64 z7.bits)] (L2 d) z4 z5)∧Lf z4 z8 z5 z6)) ((Fp 135 [.agg (.own 0::zi d.plan.root::zi d.plan.deep::zi d.plan.most::zi d.mode:: .own 1:: .int .u64 0::zi 0::z1),.c (.int .u64 z7.bits)] (L2 d) z4 z5)∧Lf z4 z8 z5 z6)) ((Fp 135 [.agg (.own 0::zi d.plan.root::zi d.plan.deep::zi d.plan.most::zi d.mode:: .own 1:: .int .u64 0::zi 0::z1),.c (.int .u64 z7.bits)] (L2 d) z4 z5)∧Lf z4 z8 z5 z6)))) Q4 ?_
 refine⟨(Ace d.scan _),dsp (fun h1 p1=>?_) fun h1 p1=>?_⟩
 refine zD ((Dq ⟨d,[]⟩ b).d) (⟨d.plan,d.mode,d.stack,(Bq d.scan b),d.start,d.at_,d.field,d.wire,d.want,d.utf,d.end_⟩:Dcd) ((Dq ⟨d,[]⟩ b).out) ([]:List Ev) (fun hm1 hm2=>⟨Q6,Q10⟩) ?_ ?_
 rotate_left 2
 refine dsp (fun h2 p2=>?_) fun h2 p2=>?_
 refine dsp (fun h3 p3=>?_) fun h3 p3=>?_
 refine dsp (fun h4 p4=>?_) fun h4 p4=>?_
 refine zD ((Dq ⟨d,[]⟩ b).d) (A7 (⟨d.plan,d.mode,d.stack,(⟨0,0⟩:Scn),d.start,d.at_,d.field,d.wire,d.want,d.utf,d.end_⟩:Dcd) 9 d.at_) ((Dq ⟨d,[]⟩ b).out) ([(Gg d.field (Bq d.scan b).bits)]++[A2 9 d.at_]) (fun hm1 hm2=>⟨(Rb d.field _ Q2),(Cz (⟨d.plan,d.mode,d.stack,(⟨0,0⟩:Scn),d.start,d.at_,d.field,d.wire,d.want,d.utf,d.end_⟩:Dcd) _ _),Q5,Q6,Q10⟩) ?_ ?_
 rotate_left 2
 refine zM Mac.d Mac.out (Dq ⟨d,[]⟩ b) (Ae (Bs ⟨(⟨d.plan,d.mode,d.stack,(⟨0,0⟩:Scn),d.start,d.at_,d.field,d.wire,d.want,d.utf,d.end_⟩:Dcd),[]⟩ (Bq d.scan b).bits)) (fun hm1 hm2=>⟨(Tw (⟨d.plan,d.mode,d.stack,(⟨0,0⟩:Scn),d.start,d.at_,d.field,d.wire,d.want,d.utf,d.end_⟩:Dcd) _ Q7 Q2),Q6,Q10⟩) ?_ ?_
 rotate_left 2
 refine zM Mac.d Mac.out (Dq ⟨d,[]⟩ b) (Ae (Bs ⟨(⟨d.plan,d.mode,d.stack,(⟨0,0⟩:Scn),d.start,d.at_,d.field,d.wire,d.want,d.utf,d.end_⟩:Dcd),[]⟩ (Bq d.scan b).bits)) (fun hm1 hm2=>⟨(Tw (⟨d.plan,d.mode,d.stack,(⟨0,0⟩:Scn),d.start,d.at_,d.field,d.wire,d.want,d.utf,d.end_⟩:Dcd) _ Q7 Q2),Q6,Q10⟩) ?_ ?_
 rotate_left 2
 refine zM Mac.d Mac.out (Dq ⟨d,[]⟩ b) (Ae (Bs ⟨(⟨d.plan,d.mode,d.stack,(⟨0,0⟩:Scn),d.start,d.at_,d.field,d.wire,d.want,d.utf,d.end_⟩:Dcd),[]⟩ (Bq d.scan b).bits)) (fun hm1 hm2=>⟨(Tw (⟨d.plan,d.mode,d.stack,(⟨0,0⟩:Scn),d.start,d.at_,d.field,d.wire,d.want,d.utf,d.end_⟩:Dcd) _ Q7 Q2),Q6,Q10⟩) ?_ ?_
 rotate_left 2
 all_goals first|(simp_all[Dq,G3,A0,A7,scn0,Qh,Lo];done)|((have hne:d.field≠fld0:=Afi (hp4 (by assumption));have hff:Dq ⟨d,[]⟩ b=A0 (Bs ⟨G3 d scn0,[]⟩ (Bq d.scan b).bits) 9 d.at_:=(by unfold Dq;simp only;rw[if_neg (by omega),if_pos ⟨by assumption,by assumption,by omega⟩]);rw[hff];simp[A0,A7,Bs,G3,scn0,hne];done))|(grind[Dq,G3,A0,A7,scn0,Bs,Qh,Lo])
set_option maxHeartbeats 3200000 in
theorem Yf (d:Dcd) (b:Int) (hp1:List.length (d).plan.shapes≤1048576) (hp2: ∀e∈(d).plan.shapes,List.length e.fields≤1048576) (hp3:List.length (d).stack≤1048576) (hp4:(0:Int)≤(d).scan.bits∧(d).scan.bits≤18446744073709551615):Fun Tryz.prog 24 [.agg (Bu d),vI b] [] (.tup [.agg (Ah 0 1 (B5 d b).d),vO 2]) [.tree (B5 d b).d.plan.shapes,.lst .lev (B5 d b).d.stack,.lst .ev (B5 d b).out]:=by
 have hN:Bj=274877906944:=rfl
 refine Ar Tryz.func24 Q4 Q4 (w:=let zi:Int→C:= .int .i64;let z14:List C:=[zi 4,zi 0,.int .u64 0,zi 0,.str (List.map Bf [b]),zi 0,zi 0];let z15:List C:=[zi d.end_.kind,zi d.end_.field,.int .u64 d.end_.bits,zi d.end_.len,.str d.end_.text,zi d.end_.code,zi d.end_.at_];let z16:=(⟨d.plan,d.mode,d.stack,d.scan,d.start,d.at_+1,d.field,d.wire,d.want-1,d.utf,d.end_⟩:Dcd);let z17:=(⟨d.plan,d.mode,d.stack,d.scan,d.start,d.at_+1,d.field,d.wire,d.want,d.utf,d.end_⟩:Dcd);let z19:S:= .tup [.agg (Ah 0 1 (B5 d b).d),vO 2];let z20:=((List.length d.stack:Nat):Int);let z21:=Ls (B5 d b).d (B5 d b).out;let z22:=(⟨4,0,0,0,List.map Bf [b],0,0⟩:Ev);let z23:=Ae ⟨z16,[]⟩;let z24:S:= .v (vI (Bp d));let z26:=(.v (.c (.int .u8 (IntKind.u8.wrap (b)))):S)= .v (.c (.int .u8 b));let z27:=Lf (.tup [.agg (Ah 0 1 d),vO 2]) z19 (Ls d ([]:List Ev)) z21;let z28:S:= .tup [.agg (Ah 2 3 z23.d),vO 4];let z29:=Br ⟨z16,[]⟩ b d.at_;let z30:=Br ⟨z17,[]⟩ b d.at_;let z31:=decide (d.mode=7);let z33:=decide (d.mode=6);let z34:=Dq ⟨z16,[]⟩ b;let z35:=Dq ⟨z17,[]⟩ b;let z36:=d.want-1;let z37:=Int.toNat (z20-1);let z38:List Blk:= .dead:: .dead::Ls z23.d z23.out;let z39:=A7 z16 5 d.at_;let z40:S:= .tup [.agg (Ah 0 1 z23.d),vO 2];let z41:=decide (0<Bp d);let z42:S:= .v (.c (.int .u8 b));let z43:=(0:Int)≤z20-1;let z44:S:= .v (vI z36);let z45:=Bo d.utf b;let z25:=z45.getD d.utf;let z18:=Ae ⟨(⟨d.plan,d.mode,d.stack,d.scan,d.start,d.at_+1,d.field,d.wire,d.want-1,z25,d.end_⟩:Dcd),[]⟩;let z32:S:= .tup [.agg (Jg z25),vB z45.isSome];let z46:=z20-1<z20;let z47:S:= .tup [.agg (Ah 2 3 z18.d),vO 4];let z48:S:= .tup [.agg (Ah 2 3 z34.d),vO 4];let z49:S:= .tup [.agg (Ah 2 3 z29.d),vO 4];let z50:S:= .tup [.agg (Ah 2 3 z35.d),vO 4];let z51:S:= .tup [.agg (Ah 2 3 z30.d),vO 4];let z52:List Blk:= .dead:: .dead::Ls z18.d (z22::z18.out);let z53:List Blk:= .dead:: .dead::Ls z23.d (z22::z23.out);let z54:S:= .tup [.agg (Ah 2 3 z39),vO 4];let z55:=wI (z20-1);let z56:=d.at_+1;let z11:List C:= .own 0::zi d.plan.root::zi d.plan.deep::zi d.plan.most::zi d.mode:: .own 1:: .int .u64 d.scan.bits::zi d.scan.have_::zi d.start::zi z56::zi d.field.number::zi d.field.kind:: .bool d.field.rep:: .bool d.field.packed::zi d.field.msg::zi d.wire::zi z36::zi d.utf.want::zi d.utf.low::zi d.utf.high::z15;let z12:List C:= .own 0::zi d.plan.root::zi d.plan.deep::zi d.plan.most::zi d.mode:: .own 1:: .int .u64 d.scan.bits::zi d.scan.have_::zi d.start::zi z56::zi d.field.number::zi d.field.kind:: .bool d.field.rep:: .bool d.field.packed::zi d.field.msg::zi d.wire::zi d.want::zi d.utf.want::zi d.utf.low::zi d.utf.high::z15;let z13:List C:= .own 0::zi d.plan.root::zi d.plan.deep::zi d.plan.most::zi d.mode:: .own 1:: .int .u64 d.scan.bits::zi d.scan.have_::zi d.start::zi z56::zi d.field.number::zi d.field.kind:: .bool d.field.rep:: .bool d.field.packed::zi d.field.msg::zi d.wire::zi z36::zi z25.want::zi z25.low::zi z25.high::z15;let z57:List Blk:= .dead:: .dead::Ls z39 [A2 5 d.at_];let z58:=z31=false;let z59:=z33=false;(.seg [.call [] (.v (.agg (Ah 0 1 d))) (L2 d),.call [] (.v (vB (D2 d))) []] (.br (.seg [.ty .ev] (.leaf () [2,3,5])) (.br (.seg [.ty .ev] (.leaf () [2,3,5])) (.seg [.call [] (.v (vB (Ak b 0 255))) []] (.br (.seg [.ty .ev] (.leaf () [2,3,5])) (.br (.seg [.ty .ev] (.leaf () [2,3,5])) (.seg [.as 35 (.v (vI z56))] (.br (.intro (Sx (d.stack[Int.toNat (z20-1)]?)) fun x1=>let z4:=(⟨x1.msg,x1.left-1⟩:Lev);let z1:=(⟨d.plan,d.mode,List.set d.stack z37 z4,d.scan,d.start,d.at_+1,d.field,d.wire,d.want-1,d.utf,d.end_⟩:Dcd);let z2:=(⟨d.plan,d.mode,List.set d.stack z37 z4,d.scan,d.start,d.at_+1,d.field,d.wire,d.want,d.utf,d.end_⟩:Dcd);let z3:=Ae ⟨(⟨d.plan,d.mode,List.set d.stack z37 z4,d.scan,d.start,d.at_+1,d.field,d.wire,d.want-1,z25,d.end_⟩:Dcd),[]⟩;.seg [.ord (os 15 [14]) [],.as 45 (.v (vI (z20-1))),.as 49 (.v (vI (z20-1))),.el .lev x1,.as 53 (.v (vI (x1.left-1))),.el .lev x1] (.br (.seg [.as 71 z44,.call [] z24 []] (.br (.seg [.call [2,3] (.tup [.agg (Ah 2 3 (Ae ⟨z1,[]⟩).d),vO 4]) (.dead:: .dead::Ls (Ae ⟨z1,[]⟩).d (Ae ⟨z1,[]⟩).out)] (.leaf () [5,6,7])) (.seg [.br true] (.br (.seg [.call [] z32 []] (.br (.seg [.call [2,3] (.tup [.agg (Ah 2 3 (A7 z1 5 d.at_)),vO 4]) (.dead:: .dead::Ls (A7 z1 5 d.at_) [A2 5 d.at_])] (.leaf () [6,7,8])) (.seg [.as 110 z42,.ty .u8,.call [2,3] (.tup [.agg (Ah 2 3 z3.d),vO 4]) (.dead:: .dead::Ls z3.d (z22::z3.out))] (.leaf () [7,8,9])))) (.seg [.as 110 z42,.ty .u8,.call [2,3] (.tup [.agg (Ah 2 3 (Ae ⟨z1,[]⟩).d),vO 4]) (.dead:: .dead::Ls (Ae ⟨z1,[]⟩).d (z22::(Ae ⟨z1,[]⟩).out))] (.leaf () [6,7,8])))))) (.br (.seg [.as 71 z44,.call [] z24 [],.br true,.call [2,3] (.tup [.agg (Ah 2 3 (Ae ⟨z1,[]⟩).d),vO 4]) (.dead:: .dead::Ls (Ae ⟨z1,[]⟩).d (Ae ⟨z1,[]⟩).out)] (.leaf () [5,6,7])) (.br (.seg [.as 71 z44,.call [] z24 [],.br false,.br false] (.br (.seg [.call [2,3] (.tup [.agg (Ah 2 3 (Dq ⟨z1,[]⟩ b).d),vO 4]) (.dead:: .dead::Ls (Dq ⟨z1,[]⟩ b).d (Dq ⟨z1,[]⟩ b).out)] (.leaf () [5,6,7])) (.seg [.call [2,3] (.tup [.agg (Ah 2 3 (Br ⟨z1,[]⟩ b d.at_).d),vO 4]) (.dead:: .dead::Ls (Br ⟨z1,[]⟩ b d.at_).d (Br ⟨z1,[]⟩ b d.at_).out)] (.leaf () [5,6,7])))) (.seg [.call [] z24 [],.br false,.br false] (.br (.seg [.call [2,3] (.tup [.agg (Ah 2 3 (Dq ⟨z2,[]⟩ b).d),vO 4]) (.dead:: .dead::Ls (Dq ⟨z2,[]⟩ b).d (Dq ⟨z2,[]⟩ b).out)] (.leaf () [5,6,7])) (.seg [.call [2,3] (.tup [.agg (Ah 2 3 (Br ⟨z2,[]⟩ b d.at_).d),vO 4]) (.dead:: .dead::Ls (Br ⟨z2,[]⟩ b d.at_).d (Br ⟨z2,[]⟩ b d.at_).out)] (.leaf () [5,6,7])))))))) (.br (.seg [.as 71 z44,.call [] z24 []] (.br (.seg [.call [2,3] z28 z38] (.leaf () [5,6,7])) (.seg [.br true] (.br (.seg [.call [] z32 []] (.br (.seg [.call [2,3] z54 z57] (.leaf () [6,7,8])) (.seg [.as 110 z42,.ty .u8,.call [2,3] z47 z52] (.leaf () [7,8,9])))) (.seg [.as 110 z42,.ty .u8,.call [2,3] z28 z53] (.leaf () [6,7,8])))))) (.br (.seg [.as 71 z44,.call [] z24 [],.br true,.call [2,3] z28 z38] (.leaf () [5,6,7])) (.br (.seg [.as 71 z44,.call [] z24 [],.br false,.br false] (.br (.seg [.call [2,3] z48 (.dead:: .dead::Ls z34.d z34.out)] (.leaf () [5,6,7])) (.seg [.call [2,3] z49 (.dead:: .dead::Ls z29.d z29.out)] (.leaf () [5,6,7])))) (.seg [.call [] z24 [],.br false,.br false] (.br (.seg [.call [2,3] z50 (.dead:: .dead::Ls z35.d z35.out)] (.leaf () [5,6,7])) (.seg [.call [2,3] z51 (.dead:: .dead::Ls z30.d z30.out)] (.leaf () [5,6,7])))))))))))))),(Fp 59 [.agg (Bu d)] [] (.v (.agg (Ah 0 1 d))) (L2 d))∧(Fp 60 [.agg (Bu d)] [] (.v (vB (D2 d))) [])∧Bc (!(D2 d)) z27 (Bc (decide (d.mode=9)) z27 ((Fp 44 [vI b,vI 0,vI 255] [] (.v (vB (Ak b 0 255))) [])∧Bc (!(Ak b 0 255)) z27 (Bc (decide (d.at_=1000000000)) z27 ((wI z56)∧Bc (decide (0<z20)) (El (d.stack[Int.toNat (z20-1)]?) fun x1=>(let z9:=d.stack[Int.toNat (z20-1)]? =some x1;let z10:=(⟨x1.msg,x1.left-1⟩:Lev);let z5:=(⟨d.plan,d.mode,List.set d.stack z37 z10,d.scan,d.start,d.at_+1,d.field,d.wire,d.want-1,d.utf,d.end_⟩:Dcd);let z6:=(⟨d.plan,d.mode,List.set d.stack z37 z10,d.scan,d.start,d.at_+1,d.field,d.wire,d.want,d.utf,d.end_⟩:Dcd);let z7:=Ae ⟨(⟨d.plan,d.mode,List.set d.stack z37 z10,d.scan,d.start,d.at_+1,d.field,d.wire,d.want-1,z25,d.end_⟩:Dcd),[]⟩;let z8:=List.set d.stack z37 z10;z55∧z55∧z55∧z55∧z46∧z43∧z46∧z43∧z9∧z9∧(wI (x1.left-1))∧(wI (x1.left-1))∧z46∧z43∧z46∧z43∧z9∧Bc z33 ((wI z36)∧(Fp 61 [.agg (Bu d)] [] z24 [])∧Bc z31 ((Fp 62 [.agg z11] [.tree d.plan.shapes,.lst .lev z8] (.tup [.agg (Ah 2 3 (Ae ⟨z5,[]⟩).d),vO 4]) (.dead:: .dead::Ls (Ae ⟨z5,[]⟩).d (Ae ⟨z5,[]⟩).out))∧Lf (.tup [.agg (Ah 0 1 (Ae ⟨z5,[]⟩).d),vO 2]) z19 (Ls (Ae ⟨z5,[]⟩).d (Ae ⟨z5,[]⟩).out) z21) ((z33=true)∧Bc (decide (d.field.kind=6)) ((Fp 63 [.agg (Jg d.utf),vI b] [] z32 [])∧Bc (!z45.isSome) ((Fp 64 [.agg z11,vI 5,vI d.at_] [.tree d.plan.shapes,.lst .lev z8] (.tup [.agg (Ah 2 3 (A7 z5 5 d.at_)),vO 4]) (.dead:: .dead::Ls (A7 z5 5 d.at_) [A2 5 d.at_]))∧Lf (.tup [.agg (Ah 0 1 (A7 z5 5 d.at_)),vO 2]) z19 (Ls (A7 z5 5 d.at_) [A2 5 d.at_]) z21) (z26∧(Fp 65 [.agg z13,.agg z14] [.tree d.plan.shapes,.lst .lev z8] (.tup [.agg (Ah 2 3 z7.d),vO 4]) (.dead:: .dead::Ls z7.d (z22::z7.out)))∧Lf (.tup [.agg (Ah 0 1 z7.d),vO 2]) z19 (Ls z7.d (z22::z7.out)) z21)) (z26∧(Fp 65 [.agg z11,.agg z14] [.tree d.plan.shapes,.lst .lev z8] (.tup [.agg (Ah 2 3 (Ae ⟨z5,[]⟩).d),vO 4]) (.dead:: .dead::Ls (Ae ⟨z5,[]⟩).d (z22::(Ae ⟨z5,[]⟩).out)))∧Lf (.tup [.agg (Ah 0 1 (Ae ⟨z5,[]⟩).d),vO 2]) z19 (Ls (Ae ⟨z5,[]⟩).d (z22::(Ae ⟨z5,[]⟩).out)) z21))) (Bc z31 ((wI z36)∧(Fp 61 [.agg (Bu d)] [] z24 [])∧(z31=true)∧(Fp 62 [.agg z11] [.tree d.plan.shapes,.lst .lev z8] (.tup [.agg (Ah 2 3 (Ae ⟨z5,[]⟩).d),vO 4]) (.dead:: .dead::Ls (Ae ⟨z5,[]⟩).d (Ae ⟨z5,[]⟩).out))∧Lf (.tup [.agg (Ah 0 1 (Ae ⟨z5,[]⟩).d),vO 2]) z19 (Ls (Ae ⟨z5,[]⟩).d (Ae ⟨z5,[]⟩).out) z21) (Bc (decide (d.mode=8)) ((wI z36)∧(Fp 61 [.agg (Bu d)] [] z24 [])∧z58∧z59∧Bc z41 ((Fp 66 [.agg z11,vI b,vI (Bp d)] [.tree d.plan.shapes,.lst .lev z8] (.tup [.agg (Ah 2 3 (Dq ⟨z5,[]⟩ b).d),vO 4]) (.dead:: .dead::Ls (Dq ⟨z5,[]⟩ b).d (Dq ⟨z5,[]⟩ b).out))∧Lf (.tup [.agg (Ah 0 1 (Dq ⟨z5,[]⟩ b).d),vO 2]) z19 (Ls (Dq ⟨z5,[]⟩ b).d (Dq ⟨z5,[]⟩ b).out) z21) ((Fp 67 [.agg z11,vI b,vI d.at_] [.tree d.plan.shapes,.lst .lev z8] (.tup [.agg (Ah 2 3 (Br ⟨z5,[]⟩ b d.at_).d),vO 4]) (.dead:: .dead::Ls (Br ⟨z5,[]⟩ b d.at_).d (Br ⟨z5,[]⟩ b d.at_).out))∧Lf (.tup [.agg (Ah 0 1 (Br ⟨z5,[]⟩ b d.at_).d),vO 2]) z19 (Ls (Br ⟨z5,[]⟩ b d.at_).d (Br ⟨z5,[]⟩ b d.at_).out) z21)) ((Fp 61 [.agg (Bu d)] [] z24 [])∧z58∧z59∧Bc z41 ((Fp 66 [.agg z12,vI b,vI (Bp d)] [.tree d.plan.shapes,.lst .lev z8] (.tup [.agg (Ah 2 3 (Dq ⟨z6,[]⟩ b).d),vO 4]) (.dead:: .dead::Ls (Dq ⟨z6,[]⟩ b).d (Dq ⟨z6,[]⟩ b).out))∧Lf (.tup [.agg (Ah 0 1 (Dq ⟨z6,[]⟩ b).d),vO 2]) z19 (Ls (Dq ⟨z6,[]⟩ b).d (Dq ⟨z6,[]⟩ b).out) z21) ((Fp 67 [.agg z12,vI b,vI d.at_] [.tree d.plan.shapes,.lst .lev z8] (.tup [.agg (Ah 2 3 (Br ⟨z6,[]⟩ b d.at_).d),vO 4]) (.dead:: .dead::Ls (Br ⟨z6,[]⟩ b d.at_).d (Br ⟨z6,[]⟩ b d.at_).out))∧Lf (.tup [.agg (Ah 0 1 (Br ⟨z6,[]⟩ b d.at_).d),vO 2]) z19 (Ls (Br ⟨z6,[]⟩ b d.at_).d (Br ⟨z6,[]⟩ b d.at_).out) z21)))))) (Bc z33 ((wI z36)∧(Fp 61 [.agg (Bu d)] [] z24 [])∧Bc z31 ((Fp 62 [.agg z11] (L2 d) z28 z38)∧Lf z40 z19 (Ls z23.d z23.out) z21) ((z33=true)∧Bc (decide (d.field.kind=6)) ((Fp 63 [.agg (Jg d.utf),vI b] [] z32 [])∧Bc (!z45.isSome) ((Fp 64 [.agg z11,vI 5,vI d.at_] (L2 d) z54 z57)∧Lf (.tup [.agg (Ah 0 1 z39),vO 2]) z19 (Ls z39 [A2 5 d.at_]) z21) (z26∧(Fp 65 [.agg z13,.agg z14] (L2 d) z47 z52)∧Lf (.tup [.agg (Ah 0 1 z18.d),vO 2]) z19 (Ls z18.d (z22::z18.out)) z21)) (z26∧(Fp 65 [.agg z11,.agg z14] (L2 d) z28 z53)∧Lf z40 z19 (Ls z23.d (z22::z23.out)) z21))) (Bc z31 ((wI z36)∧(Fp 61 [.agg (Bu d)] [] z24 [])∧(z31=true)∧(Fp 62 [.agg z11] (L2 d) z28 z38)∧Lf z40 z19 (Ls z23.d z23.out) z21) (Bc (decide (d.mode=8)) ((wI z36)∧(Fp 61 [.agg (Bu d)] [] z24 [])∧z58∧z59∧Bc z41 ((Fp 66 [.agg z11,vI b,vI (Bp d)] (L2 d) z48 (.dead:: .dead::Ls z34.d z34.out))∧Lf (.tup [.agg (Ah 0 1 z34.d),vO 2]) z19 (Ls z34.d z34.out) z21) ((Fp 67 [.agg z11,vI b,vI d.at_] (L2 d) z49 (.dead:: .dead::Ls z29.d z29.out))∧Lf (.tup [.agg (Ah 0 1 z29.d),vO 2]) z19 (Ls z29.d z29.out) z21)) ((Fp 61 [.agg (Bu d)] [] z24 [])∧z58∧z59∧Bc z41 ((Fp 66 [.agg z12,vI b,vI (Bp d)] (L2 d) z50 (.dead:: .dead::Ls z35.d z35.out))∧Lf (.tup [.agg (Ah 0 1 z35.d),vO 2]) z19 (Ls z35.d z35.out) z21) ((Fp 67 [.agg z12,vI b,vI d.at_] (L2 d) z51 (.dead:: .dead::Ls z30.d z30.out))∧Lf (.tup [.agg (Ah 0 1 z30.d),vO 2]) z19 (Ls z30.d z30.out) z21))))))))))) Q4 ?_
 refine⟨(Qn d Q2 (hp2) Q2),(Afu d Q2 Q2),fun h1=>have q1:=Ao h1;?_,fun h1=>have q1:=An h1;?_⟩
 refine zD ((B5 d b).d) d ((B5 d b).out) ([]:List Ev) (fun hm1 hm2=>⟨Q6,Q10⟩) ?_ ?_
 rotate_left 2
 have hok:D2 d=true:=q1
 have hmw:=V0 hok hp4
 have hlv:=Bz hmw.lv
 have hpt:=B9 hlv.1
 have htb:=F2 hmw.lv
 have hbb:=hmw.b0
 have hat:=hmw.at_
 have hwt:=hmw.want
 have hwd:=Gw d
 refine dsp (fun h2 p2=>?_) fun h2 p2=>?_
 refine zD ((B5 d b).d) d ((B5 d b).out) ([]:List Ev) (fun hm1 hm2=>⟨Q6,Q10⟩) ?_ ?_
 rotate_left 2
 have hst:=V2 hok (by simpa using h2)
 refine⟨(Ba _ _ _),fun h3=>have q3:=Ao h3;have p3:=Aw q3;?_,fun h3=>have q3:=An h3;have p3:=Aq q3;?_⟩
 refine zD ((B5 d b).d) d ((B5 d b).out) ([]:List Ev) (fun hm1 hm2=>⟨Q6,Q10⟩) ?_ ?_
 rotate_left 2
 have hwi:=Aq q3
 refine dsp (fun h4 p4=>?_) fun h4 p4=>?_
 refine zD ((B5 d b).d) d ((B5 d b).out) ([]:List Ev) (fun hm1 hm2=>⟨Q6,Q10⟩) ?_ ?_
 rotate_left 2
 have hms:=hmw.step hst.1 hst.2.1 hst.2.2.1
 have htk:Gi d=true:=by simp only[Gi,Bool.and_eq_true,Bool.not_eq_true',decide_eq_false_iff_not,decide_eq_true_eq];omega
 have hsb:B5 d b=Ew ⟨d,[]⟩ b:=by unfold B5;rw[if_pos ⟨hok,htk,by assumption⟩]
 refine⟨(Ac Q2 Q2),dsp (fun h5 p5=>?_) fun h5 p5=>?_⟩
 have hne:d.stack≠[]:=fun e=>by have:=congrArg List.length e;simp only[List.length_nil] at this;omega
 refine⟨(Bg (l:=d.stack) (i:=Int.toNat (((List.length d.stack:Nat):Int)-1)) Q2),fun x1 hx1=>?_⟩
 have hll:=Hk (d:=d) (by rw[←hx1];congr 1;omega)
 have hix:Int.toNat ((d.stack.length:Int)-1)=d.stack.length-1:=by omega
 refine⟨(Ac Q2 Q2),(Ac Q2 Q2),(Ac Q2 Q2),(Ac Q2 Q2),Q2,Q2,Q2,Q2,hx1,hx1,(Ac Q2 Q2),(Ac Q2 Q2),Q2,Q2,Q2,Q2,hx1,dsp (fun h6 p6=>?_) fun h6 p6=>?_⟩
 refine⟨(Ac Q2 Q2),(Ho d),dsp (fun h7 p7=>?_) fun h7 p7=>?_⟩
 refine zM Mac.d Mac.out (B5 d b) (Ae ⟨(⟨d.plan,d.mode,List.set d.stack (Int.toNat (((List.length d.stack:Nat):Int)-1)) (⟨x1.msg,x1.left-1⟩:Lev),d.scan,d.start,d.at_+1,d.field,d.wire,d.want-1,d.utf,d.end_⟩:Dcd),[]⟩) (fun hm1 hm2=>⟨(Gx (⟨d.plan,d.mode,List.set d.stack (Int.toNat (((List.length d.stack:Nat):Int)-1)) (⟨x1.msg,x1.left-1⟩:Lev),d.scan,d.start,d.at_+1,d.field,d.wire,d.want-1,d.utf,d.end_⟩:Dcd) Q17),Q6,Q10⟩) ?_ ?_
 rotate_left 2
 refine⟨h6,dsp (fun h8 p8=>?_) fun h8 p8=>?_⟩
 refine⟨(Qi d.utf _),fun h9=>have q9:=Ao h9;?_,fun h9=>have q9:=An h9;?_⟩
 have hu:Bo d.utf b=none:=by simpa using q9
 refine zD ((B5 d b).d) (A7 (⟨d.plan,d.mode,List.set d.stack (Int.toNat (((List.length d.stack:Nat):Int)-1)) (⟨x1.msg,x1.left-1⟩:Lev),d.scan,d.start,d.at_+1,d.field,d.wire,d.want-1,d.utf,d.end_⟩:Dcd) 5 d.at_) ((B5 d b).out) [A2 5 d.at_] (fun hm1 hm2=>⟨(Cz (⟨d.plan,d.mode,List.set d.stack (Int.toNat (((List.length d.stack:Nat):Int)-1)) (⟨x1.msg,x1.left-1⟩:Lev),d.scan,d.start,d.at_+1,d.field,d.wire,d.want-1,d.utf,d.end_⟩:Dcd) _ _),Q6,Q10⟩) ?_ ?_
 rotate_left 2
 obtain ⟨u,hu⟩:=Option.isSome_iff_exists.1 q9
 have hug:(Bo d.utf b).getD d.utf=u:=by rw[hu];rfl
 refine zD ((B5 d b).d) ((Ae ⟨(⟨d.plan,d.mode,List.set d.stack (Int.toNat (((List.length d.stack:Nat):Int)-1)) (⟨x1.msg,x1.left-1⟩:Lev),d.scan,d.start,d.at_+1,d.field,d.wire,d.want-1,((Bo d.utf b).getD d.utf),d.end_⟩:Dcd),[]⟩).d) ((B5 d b).out) ((⟨4,0,0,0,List.map Bf [b],0,0⟩:Ev)::(Ae ⟨(⟨d.plan,d.mode,List.set d.stack (Int.toNat (((List.length d.stack:Nat):Int)-1)) (⟨x1.msg,x1.left-1⟩:Lev),d.scan,d.start,d.at_+1,d.field,d.wire,d.want-1,((Bo d.utf b).getD d.utf),d.end_⟩:Dcd),[]⟩).out) (fun hm1 hm2=>⟨(Ko Q2 Q2),(Gy (⟨d.plan,d.mode,List.set d.stack (Int.toNat (((List.length d.stack:Nat):Int)-1)) (⟨x1.msg,x1.left-1⟩:Lev),d.scan,d.start,d.at_+1,d.field,d.wire,d.want-1,((Bo d.utf b).getD d.utf),d.end_⟩:Dcd) (⟨4,0,0,0,List.map Bf [b],0,0⟩:Ev) Q17),Q6,Q10⟩) ?_ ?_
 rotate_left 2
 refine zD ((B5 d b).d) ((Ae ⟨(⟨d.plan,d.mode,List.set d.stack (Int.toNat (((List.length d.stack:Nat):Int)-1)) (⟨x1.msg,x1.left-1⟩:Lev),d.scan,d.start,d.at_+1,d.field,d.wire,d.want-1,d.utf,d.end_⟩:Dcd),[]⟩).d) ((B5 d b).out) ((⟨4,0,0,0,List.map Bf [b],0,0⟩:Ev)::(Ae ⟨(⟨d.plan,d.mode,List.set d.stack (Int.toNat (((List.length d.stack:Nat):Int)-1)) (⟨x1.msg,x1.left-1⟩:Lev),d.scan,d.start,d.at_+1,d.field,d.wire,d.want-1,d.utf,d.end_⟩:Dcd),[]⟩).out) (fun hm1 hm2=>⟨(Ko Q2 Q2),(Gy (⟨d.plan,d.mode,List.set d.stack (Int.toNat (((List.length d.stack:Nat):Int)-1)) (⟨x1.msg,x1.left-1⟩:Lev),d.scan,d.start,d.at_+1,d.field,d.wire,d.want-1,d.utf,d.end_⟩:Dcd) (⟨4,0,0,0,List.map Bf [b],0,0⟩:Ev) Q17),Q6,Q10⟩) ?_ ?_
 rotate_left 2
 refine dsp (fun h7 p7=>?_) fun h7 p7=>?_
 refine zM Mac.d Mac.out (B5 d b) (Ae ⟨(⟨d.plan,d.mode,List.set d.stack (Int.toNat (((List.length d.stack:Nat):Int)-1)) (⟨x1.msg,x1.left-1⟩:Lev),d.scan,d.start,d.at_+1,d.field,d.wire,d.want-1,d.utf,d.end_⟩:Dcd),[]⟩) (fun hm1 hm2=>⟨(Ac Q2 Q2),(Ho d),h7,(Gx (⟨d.plan,d.mode,List.set d.stack (Int.toNat (((List.length d.stack:Nat):Int)-1)) (⟨x1.msg,x1.left-1⟩:Lev),d.scan,d.start,d.at_+1,d.field,d.wire,d.want-1,d.utf,d.end_⟩:Dcd) Q17),Q6,Q10⟩) ?_ ?_
 rotate_left 2
 refine dsp (fun h8 p8=>?_) fun h8 p8=>?_
 refine⟨(Ac Q2 Q2),(Ho d),h7,h6,dsp (fun h9 p9=>?_) fun h9 p9=>?_⟩
 refine zM Mac.d Mac.out (B5 d b) (Dq ⟨(⟨d.plan,d.mode,List.set d.stack (Int.toNat (((List.length d.stack:Nat):Int)-1)) (⟨x1.msg,x1.left-1⟩:Lev),d.scan,d.start,d.at_+1,d.field,d.wire,d.want-1,d.utf,d.end_⟩:Dcd),[]⟩ b) (fun hm1 hm2=>⟨(V9 (⟨d.plan,d.mode,List.set d.stack (Int.toNat (((List.length d.stack:Nat):Int)-1)) (⟨x1.msg,x1.left-1⟩:Lev),d.scan,d.start,d.at_+1,d.field,d.wire,d.want-1,d.utf,d.end_⟩:Dcd) _ _ (Q38) Q2 Q7 (hst.2.2.2.1)),Q6,Q10⟩) ?_ ?_
 rotate_left 2
 refine zM Mac.d Mac.out (B5 d b) (Br ⟨(⟨d.plan,d.mode,List.set d.stack (Int.toNat (((List.length d.stack:Nat):Int)-1)) (⟨x1.msg,x1.left-1⟩:Lev),d.scan,d.start,d.at_+1,d.field,d.wire,d.want-1,d.utf,d.end_⟩:Dcd),[]⟩ b d.at_) (fun hm1 hm2=>⟨(Sr (⟨d.plan,d.mode,List.set d.stack (Int.toNat (((List.length d.stack:Nat):Int)-1)) (⟨x1.msg,x1.left-1⟩:Lev),d.scan,d.start,d.at_+1,d.field,d.wire,d.want-1,d.utf,d.end_⟩:Dcd) _ _ (Q38) Q2),Q6,Q10⟩) ?_ ?_
 rotate_left 2
 refine⟨(Ho d),h7,h6,dsp (fun h9 p9=>?_) fun h9 p9=>?_⟩
 refine zM Mac.d Mac.out (B5 d b) (Dq ⟨(⟨d.plan,d.mode,List.set d.stack (Int.toNat (((List.length d.stack:Nat):Int)-1)) (⟨x1.msg,x1.left-1⟩:Lev),d.scan,d.start,d.at_+1,d.field,d.wire,d.want,d.utf,d.end_⟩:Dcd),[]⟩ b) (fun hm1 hm2=>⟨(V9 (⟨d.plan,d.mode,List.set d.stack (Int.toNat (((List.length d.stack:Nat):Int)-1)) (⟨x1.msg,x1.left-1⟩:Lev),d.scan,d.start,d.at_+1,d.field,d.wire,d.want,d.utf,d.end_⟩:Dcd) _ _ (Q39) Q2 Q7 (hst.2.2.2.1)),Q6,Q10⟩) ?_ ?_
 rotate_left 2
 refine zM Mac.d Mac.out (B5 d b) (Br ⟨(⟨d.plan,d.mode,List.set d.stack (Int.toNat (((List.length d.stack:Nat):Int)-1)) (⟨x1.msg,x1.left-1⟩:Lev),d.scan,d.start,d.at_+1,d.field,d.wire,d.want,d.utf,d.end_⟩:Dcd),[]⟩ b d.at_) (fun hm1 hm2=>⟨(Sr (⟨d.plan,d.mode,List.set d.stack (Int.toNat (((List.length d.stack:Nat):Int)-1)) (⟨x1.msg,x1.left-1⟩:Lev),d.scan,d.start,d.at_+1,d.field,d.wire,d.want,d.utf,d.end_⟩:Dcd) _ _ (Q39) Q2),Q6,Q10⟩) ?_ ?_
 rotate_left 2
 have hne:d.stack=[]:=List.eq_nil_of_length_eq_zero (by omega)
 refine dsp (fun h6 p6=>?_) fun h6 p6=>?_
 refine⟨(Ac Q2 Q2),(Ho d),dsp (fun h7 p7=>?_) fun h7 p7=>?_⟩
 refine zM Mac.d Mac.out (B5 d b) (Ae ⟨(⟨d.plan,d.mode,d.stack,d.scan,d.start,d.at_+1,d.field,d.wire,d.want-1,d.utf,d.end_⟩:Dcd),[]⟩) (fun hm1 hm2=>⟨(Gx (⟨d.plan,d.mode,d.stack,d.scan,d.start,d.at_+1,d.field,d.wire,d.want-1,d.utf,d.end_⟩:Dcd) Q7),Q6,Q10⟩) ?_ ?_
 rotate_left 2
 refine⟨h6,dsp (fun h8 p8=>?_) fun h8 p8=>?_⟩
 refine⟨(Qi d.utf _),fun h9=>have q9:=Ao h9;?_,fun h9=>have q9:=An h9;?_⟩
 have hu:Bo d.utf b=none:=by simpa using q9
 refine zD ((B5 d b).d) (A7 (⟨d.plan,d.mode,d.stack,d.scan,d.start,d.at_+1,d.field,d.wire,d.want-1,d.utf,d.end_⟩:Dcd) 5 d.at_) ((B5 d b).out) [A2 5 d.at_] (fun hm1 hm2=>⟨(Cz (⟨d.plan,d.mode,d.stack,d.scan,d.start,d.at_+1,d.field,d.wire,d.want-1,d.utf,d.end_⟩:Dcd) _ _),Q6,Q10⟩) ?_ ?_
 rotate_left 2
 obtain ⟨u,hu⟩:=Option.isSome_iff_exists.1 q9
 have hug:(Bo d.utf b).getD d.utf=u:=by rw[hu];rfl
 refine zD ((B5 d b).d) ((Ae ⟨(⟨d.plan,d.mode,d.stack,d.scan,d.start,d.at_+1,d.field,d.wire,d.want-1,((Bo d.utf b).getD d.utf),d.end_⟩:Dcd),[]⟩).d) ((B5 d b).out) ((⟨4,0,0,0,List.map Bf [b],0,0⟩:Ev)::(Ae ⟨(⟨d.plan,d.mode,d.stack,d.scan,d.start,d.at_+1,d.field,d.wire,d.want-1,((Bo d.utf b).getD d.utf),d.end_⟩:Dcd),[]⟩).out) (fun hm1 hm2=>⟨(Ko Q2 Q2),(Gy (⟨d.plan,d.mode,d.stack,d.scan,d.start,d.at_+1,d.field,d.wire,d.want-1,((Bo d.utf b).getD d.utf),d.end_⟩:Dcd) (⟨4,0,0,0,List.map Bf [b],0,0⟩:Ev) Q7),Q6,Q10⟩) ?_ ?_
 rotate_left 2
 refine zD ((B5 d b).d) ((Ae ⟨(⟨d.plan,d.mode,d.stack,d.scan,d.start,d.at_+1,d.field,d.wire,d.want-1,d.utf,d.end_⟩:Dcd),[]⟩).d) ((B5 d b).out) ((⟨4,0,0,0,List.map Bf [b],0,0⟩:Ev)::(Ae ⟨(⟨d.plan,d.mode,d.stack,d.scan,d.start,d.at_+1,d.field,d.wire,d.want-1,d.utf,d.end_⟩:Dcd),[]⟩).out) (fun hm1 hm2=>⟨(Ko Q2 Q2),(Gy (⟨d.plan,d.mode,d.stack,d.scan,d.start,d.at_+1,d.field,d.wire,d.want-1,d.utf,d.end_⟩:Dcd) (⟨4,0,0,0,List.map Bf [b],0,0⟩:Ev) Q7),Q6,Q10⟩) ?_ ?_
 rotate_left 2
 refine dsp (fun h7 p7=>?_) fun h7 p7=>?_
 refine zM Mac.d Mac.out (B5 d b) (Ae ⟨(⟨d.plan,d.mode,d.stack,d.scan,d.start,d.at_+1,d.field,d.wire,d.want-1,d.utf,d.end_⟩:Dcd),[]⟩) (fun hm1 hm2=>⟨(Ac Q2 Q2),(Ho d),h7,(Gx (⟨d.plan,d.mode,d.stack,d.scan,d.start,d.at_+1,d.field,d.wire,d.want-1,d.utf,d.end_⟩:Dcd) Q7),Q6,Q10⟩) ?_ ?_
 rotate_left 2
 refine dsp (fun h8 p8=>?_) fun h8 p8=>?_
 refine⟨(Ac Q2 Q2),(Ho d),h7,h6,dsp (fun h9 p9=>?_) fun h9 p9=>?_⟩
 refine zM Mac.d Mac.out (B5 d b) (Dq ⟨(⟨d.plan,d.mode,d.stack,d.scan,d.start,d.at_+1,d.field,d.wire,d.want-1,d.utf,d.end_⟩:Dcd),[]⟩ b) (fun hm1 hm2=>⟨(V9 (⟨d.plan,d.mode,d.stack,d.scan,d.start,d.at_+1,d.field,d.wire,d.want-1,d.utf,d.end_⟩:Dcd) _ _ (Q52) Q2 Q7 (hst.2.2.2.1)),Q6,Q10⟩) ?_ ?_
 rotate_left 2
 refine zM Mac.d Mac.out (B5 d b) (Br ⟨(⟨d.plan,d.mode,d.stack,d.scan,d.start,d.at_+1,d.field,d.wire,d.want-1,d.utf,d.end_⟩:Dcd),[]⟩ b d.at_) (fun hm1 hm2=>⟨(Sr (⟨d.plan,d.mode,d.stack,d.scan,d.start,d.at_+1,d.field,d.wire,d.want-1,d.utf,d.end_⟩:Dcd) _ _ (Q52) Q2),Q6,Q10⟩) ?_ ?_
 rotate_left 2
 refine⟨(Ho d),h7,h6,dsp (fun h9 p9=>?_) fun h9 p9=>?_⟩
 refine zM Mac.d Mac.out (B5 d b) (Dq ⟨(⟨d.plan,d.mode,d.stack,d.scan,d.start,d.at_+1,d.field,d.wire,d.want,d.utf,d.end_⟩:Dcd),[]⟩ b) (fun hm1 hm2=>⟨(V9 (⟨d.plan,d.mode,d.stack,d.scan,d.start,d.at_+1,d.field,d.wire,d.want,d.utf,d.end_⟩:Dcd) _ _ (Q53) Q2 Q7 (hst.2.2.2.1)),Q6,Q10⟩) ?_ ?_
 rotate_left 2
 refine zM Mac.d Mac.out (B5 d b) (Br ⟨(⟨d.plan,d.mode,d.stack,d.scan,d.start,d.at_+1,d.field,d.wire,d.want,d.utf,d.end_⟩:Dcd),[]⟩ b d.at_) (fun hm1 hm2=>⟨(Sr (⟨d.plan,d.mode,d.stack,d.scan,d.start,d.at_+1,d.field,d.wire,d.want,d.utf,d.end_⟩:Dcd) _ _ (Q53) Q2),Q6,Q10⟩) ?_ ?_
 rotate_left 2
 all_goals first|((rw[hsb];simp_all[Ew,Di,Em,Age,A0,A7,Yb,Ca];done))|((rw[hsb];have hw0:Bp d=0:=(by omega);simp_all[Ew,Di,Em,Age,A0,A7,Yb,Ca];done))|((rw[hsb];grind[Ew,Di,Em,Age,A0,A7,Yb,Ca]))|(simp_all[B5,Gi];done)|(grind[B5,Gi])
structure F8 where
 i:Nat
def Hr (l:List Shp):Fam:=⟨F8,fun q1=>[(2,.v (vP 0)),(3,.v (vP 1)),(5,.v (vI ((q1.i:Nat):Int)))],fun _=>[.cells [.seq .shp l],.cells [.seq .shp l]],fun q1=>q1.i≤List.length l,fun q1=>List.length l-q1.i⟩
structure Hs where
 k:Nat
def F9 (l:List Shp) (q1:F8) (x1:Shp):Fam:=⟨Hs,fun q2=>[(2,.v (vP 0)),(3,.v (vP 1)),(5,.v (vI ((q1.i:Nat):Int))),(6,.v (vP 2)),(7,.v (vP 3)),(8,.v (vI ((q2.k:Nat):Int)))],fun _=>[.cells [.seq .shp l],.cells [.seq .shp l],.cells (Aew x1),.cells (Aew x1)],fun q2=>q2.k≤List.length x1.fields,fun q2=>List.length x1.fields-q2.k⟩
theorem Aaa (l:List Shp) (hp1:List.length l≤Bj) (hp2: ∀e∈l,List.length e.fields≤Bj):Fun Tryz.prog 68 [.agg [.seq .shp l],.agg [.seq .shp l]] [] (.v (vB true)) []:=by
 have hN:Bj=274877906944:=rfl
 refine Ar Tryz.func68 Q4 Q4 (w:=let z7:=((List.length l:Nat):Int);let z8:=Hr l;let z9:List Blk:=[.cells [.seq .shp l],.cells [.seq .shp l]];(.seg [.br false,.at 0,.keep [2,3,5],.sel [0,1]] (.loop z8 fun q1=> .br (.intro (Sx (l[q1.i]?)) fun x1=> .seg [.el .shp x1,.el .shp x1,.br false,.br false,.at 0,.keep [2,3,5,6,7,8],.sel [0,1,2,3]] (.loop (F9 l q1 x1) fun q2=> .br (.intro (Sx (x1.fields[q2.k]?)) fun x2=> .seg [.ord (os 11 []) [],.el .fld x2,.el .fld x2] (.br (.leaf () []) (.seg [.as 53 (.v (vI (((q2.k:Nat):Int)+1))),.at 0,.keep [2,3,5,6,7,8],.sel [0,1,2,3]] (.next)))) (.seg [.as 22 (.v (vI (((q1.i:Nat):Int)+1))),.at 0,.keep [2,3,5],.sel [0,1]] (.next)))) (.leaf () [])),((!decide (z7=z7))=false)∧z8.Has [(2,.v (vP 0)),(3,.v (vP 1)),(5,.v (vI 0))] z9∧∀q1,z8.inv q1→(let z6:=((q1.i:Nat):Int);Bc (decide (z6<z7)) (El (l[q1.i]?) fun x1=>(let z3:List Blk:=[.cells [.seq .shp l],.cells [.seq .shp l],.cells (Aew x1),.cells (Aew x1)];let z4:=((List.length x1.fields:Nat):Int);let z5:=F9 l q1 x1;(l[q1.i]? =some x1)∧((0:Int)≤z6)∧(l[q1.i]? =some x1)∧((0:Int)≤z6)∧((!decide (x1.id=x1.id))=false)∧((!decide (z4=z4))=false)∧z5.Has [(2,.v (vP 0)),(3,.v (vP 1)),(5,.v (vI z6)),(6,.v (vP 2)),(7,.v (vP 3)),(8,.v (vI 0))] z3∧∀q2,z5.inv q2→(let z2:=((q2.k:Nat):Int);Bc (decide (z2<z4)) (El (x1.fields[q2.k]?) fun x2=>(let z1:=x1.fields[q2.k]? =some x2;z1∧((0:Int)≤z2)∧z1∧((0:Int)≤z2)∧z1∧((0:Int)≤z2)∧z1∧((0:Int)≤z2)∧Bc (!(decide (x2.number=x2.number)&&(decide (x2.kind=x2.kind)&&(decide (x2.rep=x2.rep)&&(decide (x2.packed=x2.packed)&&decide (x2.msg=x2.msg)))))) (Lf (.v (vB false)) (.v (vB true)) [] []) ((wI (z2+1))∧z5.Nxt q2 [(2,.v (vP 0)),(3,.v (vP 1)),(5,.v (vI z6)),(6,.v (vP 2)),(7,.v (vP 3)),(8,.v (vI (z2+1)))] z3))) ((wI (z6+1))∧z8.Nxt q1 [(2,.v (vP 0)),(3,.v (vP 1)),(5,.v (vI (z6+1)))] z9)))) (Lf (.v (vB true)) (.v (vB true)) [] [])))) Q4 ?_
 refine⟨Q68,Bh (j:=(⟨0⟩:F8)) Q9 rfl (by dsimp only[Hr];omega),fun (q1:F8) hq_q1=>?_⟩
 have hi_q1:q1.i≤List.length l:=hq_q1
 refine dsp (fun h1 p1=>?_) fun h1 p1=>?_
 refine⟨(Bg (l:=l) (i:=q1.i) Q2),fun x1 hx1=>?_⟩
 have hfx:=hp2 x1 (List.mem_of_getElem? hx1)
 refine⟨hx1,Q2,hx1,Q2,Q68,Q68,Bh (j:=(⟨0⟩:Hs)) Q9 rfl (by dsimp only[F9];omega),fun (q2:Hs) hq_q2=>?_⟩
 have hi_q2:q2.k≤List.length x1.fields:=hq_q2
 refine dsp (fun h2 p2=>?_) fun h2 p2=>?_
 refine⟨(Bg (l:=x1.fields) (i:=q2.k) Q2),fun x2 hx2=>?_⟩
 refine⟨hx2,Q2,hx2,Q2,hx2,Q2,hx2,Q2,fun h3=>have q3:=Ao h3;have p3:=(Cc dT (Cc dT (Cc dT (Cc dT dF)))).1 q3;?_,fun h3=>have q3:=An h3;have p3:=(Cb dT (Cb dT (Cb dT (Cb dT dT)))).1 q3;?_⟩
 refine⟨(sB ?_),rfl⟩
 rotate_left
 exact⟨(Ac Q2 Q2),Bb (j:=(⟨q2.k+1⟩:Hs)) Q9 rfl (by dsimp only[F9];omega) (by dsimp only[F9];omega)⟩
 exact⟨(Ac Q2 Q2),Bb (j:=(⟨q1.i+1⟩:F8)) Q9 rfl (by dsimp only[Hr];omega) (by dsimp only[Hr];omega)⟩
 exact⟨rfl,rfl⟩
 all_goals first|(rfl)|((simp;done))|((exfalso;simp_all;done))
structure Ht where
 i:Nat
def Hu (d:Dcd):Fam:=⟨Ht,fun q1=>[(2,.v (vP 0)),(3,.v (vP 1)),(5,.v (vI ((q1.i:Nat):Int)))],fun _=>[.cells (Bu d),.cells (Bu d)],fun q1=>q1.i≤List.length d.stack,fun q1=>List.length d.stack-q1.i⟩
theorem Aab (d:Dcd) (hp1:List.length (d).plan.shapes≤Bj) (hp2: ∀e∈(d).plan.shapes,List.length e.fields≤Bj) (hp3:List.length (d).stack≤Bj):Fun Tryz.prog 25 [.agg (Bu d),.agg (Bu d)] [] (.v (vB true)) []:=by
 have hN:Bj=274877906944:=rfl
 refine Ar Tryz.func25 Q4 Q4 (w:=let z4:=((List.length d.stack:Nat):Int);let z5:=Hu d;let z6:S:= .v (vB true);let z3:=Lf (.v (vB false)) z6 [] [];(.seg [.call [] z6 [],.br false,.br false,.br false,.br false,.br false,.at 0,.keep [2,3,5],.sel [0,1]] (.loop z5 fun q1=> .br (.intro (Sx (d.stack[q1.i]?)) fun x1=> .seg [.ord (os 11 []) [],.el .lev x1,.el .lev x1] (.br (.leaf () []) (.seg [.as 56 (.v (vI (((q1.i:Nat):Int)+1))),.at 0,.keep [2,3,5],.sel [0,1]] (.next)))) (.seg [.br true] (.br (.seg [.br true,.br true] (.br (.seg [.br true,.br true] (.br (.leaf () []) (.leaf () []))) (.leaf () []))) (.leaf () [])))),(Fp 68 [.agg [.seq .shp d.plan.shapes],.agg [.seq .shp d.plan.shapes]] [] z6 [])∧((!true)=false)∧((!decide (d.plan.root=d.plan.root))=false)∧((!decide (d.plan.deep=d.plan.deep))=false)∧((!decide (d.plan.most=d.plan.most))=false)∧((!decide (z4=z4))=false)∧z5.Has [(2,.v (vP 0)),(3,.v (vP 1)),(5,.v (vI 0))] [.cells (Bu d),.cells (Bu d)]∧∀q1,z5.inv q1→(let z2:=((q1.i:Nat):Int);Bc (decide (z2<z4)) (El (d.stack[q1.i]?) fun x1=>(let z1:=d.stack[q1.i]? =some x1;z1∧((0:Int)≤z2)∧z1∧((0:Int)≤z2)∧z1∧((0:Int)≤z2)∧z1∧((0:Int)≤z2)∧Bc (!(decide (x1.msg=x1.msg)&&decide (x1.left=x1.left))) z3 ((wI (z2+1))∧z5.Nxt q1 [(2,.v (vP 0)),(3,.v (vP 1)),(5,.v (vI (z2+1)))] [.cells (Bu d),.cells (Bu d)]))) (((decide (d.mode=d.mode))=true)∧Bc (decide (d.scan.bits=d.scan.bits)&&decide (d.scan.have_=d.scan.have_)) (((decide (d.start=d.start))=true)∧((decide (d.at_=d.at_))=true)∧Bc (decide (d.field.number=d.field.number)&&(decide (d.field.kind=d.field.kind)&&(decide (d.field.rep=d.field.rep)&&(decide (d.field.packed=d.field.packed)&&decide (d.field.msg=d.field.msg))))) (((decide (d.wire=d.wire))=true)∧((decide (d.want=d.want))=true)∧Bc (decide (d.utf.want=d.utf.want)&&(decide (d.utf.low=d.utf.low)&&decide (d.utf.high=d.utf.high))) (Lf (.v (vB (decide (d.end_.kind=d.end_.kind)&&(decide (d.end_.field=d.end_.field)&&(decide (d.end_.bits=d.end_.bits)&&(decide (d.end_.len=d.end_.len)&&(decide (d.end_.text=d.end_.text)&&(decide (d.end_.code=d.end_.code)&&decide (d.end_.at_=d.end_.at_))))))))) z6 [] []) z3) z3) z3)))) Q4 ?_
 refine⟨(Aaa d.plan.shapes Q2 (hp2)),Q25,Q68,Q68,Q68,Q68,Bh (j:=(⟨0⟩:Ht)) Q9 rfl (by dsimp only[Hu];omega),fun (q1:Ht) hq_q1=>?_⟩
 have hi_q1:q1.i≤List.length d.stack:=hq_q1
 refine dsp (fun h1 p1=>?_) fun h1 p1=>?_
 refine⟨(Bg (l:=d.stack) (i:=q1.i) Q2),fun x1 hx1=>?_⟩
 refine⟨hx1,Q2,hx1,Q2,hx1,Q2,hx1,Q2,fun h2=>have q2:=Ao h2;have p2:=(Cc dT dF).1 q2;?_,fun h2=>have q2:=An h2;have p2:=(Cb dT dT).1 q2;?_⟩
 refine⟨(sB ?_),rfl⟩
 rotate_left
 exact⟨(Ac Q2 Q2),Bb (j:=(⟨q1.i+1⟩:Ht)) Q9 rfl (by dsimp only[Hu];omega) (by dsimp only[Hu];omega)⟩
 refine⟨Q68,fun h2=>have p2:=(Cb dT dT).1 h2;?_,fun h2=>have p2:=(Cc dT dF).1 h2;?_⟩
 refine⟨Q68,Q68,fun h3=>have p3:=(Cb dT (Cb dT (Cb dT (Cb dT dT)))).1 h3;?_,fun h3=>have p3:=(Cc dT (Cc dT (Cc dT (Cc dT dF)))).1 h3;?_⟩
 refine⟨Q68,Q68,fun h4=>have p4:=(Cb dT (Cb dT dT)).1 h4;?_,fun h4=>have p4:=(Cc dT (Cc dT dF)).1 h4;?_⟩
 refine⟨(sB ?_),rfl⟩
 rotate_left
 refine⟨(sB ?_),rfl⟩
 rotate_left
 refine⟨(sB ?_),rfl⟩
 rotate_left
 refine⟨(sB ?_),rfl⟩
 rotate_left
 all_goals first|(rfl)|((simp;done))|((exfalso;simp_all;done))
theorem Acg (a:Dcd) (b:Dcd) (hp1:a=b) (hp2:List.length (a).plan.shapes≤Bj) (hp3: ∀e∈(a).plan.shapes,List.length e.fields≤Bj) (hp4:List.length (a).stack≤Bj):Fun Tryz.prog 25 [.agg (Bu a),.agg (Bu b)] [] (.v (vB true)) []:=by subst hp1;exact Aab a hp2 hp3 hp4
theorem Agz {x y:Ev} (h:x.kind=y.kind∧x.field=y.field∧x.bits=y.bits∧x.len=y.len∧x.text=y.text∧x.code=y.code∧x.at_=y.at_):x=y:=by
 cases x;cases y;simp at h ⊢;exact h
theorem Ach {a b:List Ev} {i:Nat} {x y:Ev} (h:a.take i=b.take i) (hx:a[i]? =some x) (hy:b[i]? =some y) (e:x=y):a.take (i+1)=b.take (i+1):=by
 rw[List.take_add_one,List.take_add_one,h,hx,hy,e]
theorem Ady {a b:List Ev} {i:Nat} (h:a.take i=b.take i) (hl:a.length=b.length) (hi:a.length≤i):a=b:=by
 rwa [List.take_of_length_le hi,List.take_of_length_le (by omega)] at h
structure Ke where
 i:Nat
def Kf (a:List Ev) (b:List Ev):Fam:=⟨Ke,fun q1=>[(0,.v (.c (.seq .ev a))),(1,.v (.c (.seq .ev b))),(5,.v (vI ((q1.i:Nat):Int)))],fun _=>[],fun q1=>q1.i≤List.length a∧List.length a=List.length b∧List.take q1.i a=List.take q1.i b,fun q1=>List.length a-q1.i⟩
theorem Aci (a:List Ev) (b:List Ev) (hp1:List.length a≤Bj) (hp2:List.length b≤Bj):Fun Tryz.prog 14 [.c (.seq .ev a),.c (.seq .ev b)] [] (.v (vB (decide (a=b)))) []:=by
 have hN:Bj=274877906944:=rfl
 refine Ar Tryz.func14 Q4 Q4 (w:=let z2:=Lf (.v (vB false)) (.v (vB (decide (a=b)))) [] [];let z3:=Kf a b;(.br (.leaf () []) (.seg [.at 0,.keep [0,1,5],.sel []] (.loop z3 fun q1=> .br (.intro (Sx (a[q1.i]?)) fun x1=> .intro (Sx (b[q1.i]?)) fun x2=> .seg [.ord (os 9 []) [],.el .ev x1,.el .ev x2] (.br (.leaf () []) (.seg [.as 16 (.v (vI (((q1.i:Nat):Int)+1))),.at 0,.keep [0,1,5],.sel []] (.next)))) (.leaf () []))),Bc (!decide (((List.length a:Nat):Int)=((List.length b:Nat):Int))) z2 (z3.Has [(0,.v (.c (.seq .ev a))),(1,.v (.c (.seq .ev b))),(5,.v (vI 0))] []∧∀q1,z3.inv q1→(let z1:=((q1.i:Nat):Int);Bc (decide (z1<((List.length a:Nat):Int))) (El (a[q1.i]?) fun x1=>(El (b[q1.i]?) fun x2=>((a[q1.i]? =some x1)∧((0:Int)≤z1)∧(a[q1.i]? =some x1)∧((0:Int)≤z1)∧(b[q1.i]? =some x2)∧((0:Int)≤z1)∧(b[q1.i]? =some x2)∧((0:Int)≤z1)∧Bc (!(decide (x1.kind=x2.kind)&&(decide (x1.field=x2.field)&&(decide (x1.bits=x2.bits)&&(decide (x1.len=x2.len)&&(decide (x1.text=x2.text)&&(decide (x1.code=x2.code)&&decide (x1.at_=x2.at_)))))))) z2 ((wI (z1+1))∧z3.Nxt q1 [(0,.v (.c (.seq .ev a))),(1,.v (.c (.seq .ev b))),(5,.v (vI (z1+1)))] [])))) (Lf (.v (vB true)) (.v (vB (decide (a=b)))) [] []))))) Q4 ?_
 refine⟨fun h1=>have q1:=Ao h1;have p1:=of_decide_eq_false q1;?_,fun h1=>have q1:=An h1;have p1:=of_decide_eq_true q1;?_⟩
 refine⟨(sB ?_),rfl⟩
 rotate_left
 refine⟨Bh (j:=(⟨0⟩:Ke)) Q9 rfl (by dsimp only[Kf];exact⟨by omega,by omega,by simp⟩),fun (q1:Ke) hq_q1=>?_⟩
 have hi_q1:q1.i≤List.length a∧List.length a=List.length b∧List.take q1.i a=List.take q1.i b:=hq_q1
 obtain ⟨v1,v2,v3⟩:=hi_q1
 refine dsp (fun h2 p2=>?_) fun h2 p2=>?_
 refine⟨(Bg (l:=a) (i:=q1.i) Q2),fun x1 hx1=>?_⟩
 refine⟨(Bg (l:=b) (i:=q1.i) Q2),fun x2 hx2=>?_⟩
 refine⟨hx1,Q2,hx1,Q2,hx2,Q2,hx2,Q2,fun h3=>have q3:=Ao h3;have p3:=(Cc dT (Cc dT (Cc dT (Cc dT (Cc dT (Cc dT dF)))))).1 q3;?_,fun h3=>have q3:=An h3;have p3:=(Cb dT (Cb dT (Cb dT (Cb dT (Cb dT (Cb dT dT)))))).1 q3;?_⟩
 refine⟨(sB ?_),rfl⟩
 rotate_left
 exact⟨(Ac Q2 Q2),Bb (j:=(⟨q1.i+1⟩:Ke)) Q9 rfl (by dsimp only[Kf];exact⟨by omega,v2,Ach v3 hx1 hx2 (Agz p3)⟩) (by dsimp only[Kf];omega)⟩
 refine⟨(sB ?_),rfl⟩
 rotate_left
 all_goals first|(exact(decide_eq_true (Ady v3 v2 (by omega))).symm)|(exact(decide_eq_false (fun h=>by subst h;omega)).symm)|(exact(decide_eq_false (fun h=>by subst h;rw[hx1] at hx2;cases hx2;simp at p3)).symm)
structure Cur where
 b:List Int
 i:Int
 h:Int
def Av (c:Cur):Prop:=0≤c.i∧c.b.length≤1048576
def B0 (x:Cur):List C:=[.seq .u8 x.b,.int .i64 x.i,.int .i64 x.h]
abbrev Kc (c:Cur):List Blk:=[.cells (B0 c)]
structure Ku where
 x:Int
 c1:Cur
def Fv (c:Cur) (o:Ku):Prop:=Fun Tryz.prog 154 [vP 0] [.cells (B0 c)] (.v (vI o.x)) [.cells (B0 o.c1)]
def Dt (c:Cur) (o:Ku):Prop:=(((0:Int)≤o.x∧o.x≤255)∧(Av o.c1))∧Fv c o
theorem Lx (c:Cur) (hp1:Av c): ∃o:Ku,Dt c o:=by
 have hN:Bj=274877906944:=rfl
 have hcb:=hp1.1
 have hcl:=hp1.2
 refine Bv Tryz.func154 Q4 Q4 (w:=let z5:=(IntKind.i64.wrap (c.h*6364136223846793005))+1442695040888963407;let z3:=IntKind.i64.wrap z5;let z8:=(.v (vI (Int.fdiv z3 (2 ^ 33))):S)= .v (vI (z3 / 8589934592));let z10:List Blk:=[.cells [.seq .u8 c.b,.int .i64 (c.i+1),.int .i64 z3]];let z11:List Blk:=[.cells [.seq .u8 c.b,.int .i64 c.i,.int .i64 z3]];let z12:=z3 / 35184372088832;let z4:=IntKind.i64.wrap (((BitVec.ofInt 64 (z3 / 8589934592) ^^^ BitVec.ofInt 64 z12).toNat:Nat));let z7:=(.v (vI (Int.fdiv z3 (2 ^ 45))):S)= .v (vI z12);let z9:=z4 % 256;let z6:=(.v (vI (IntKind.i64.wrap (((BitVec.ofInt 64 z4&&&BitVec.ofInt 64 255).toNat:Nat)))):S)= .v (vI z9);(.seg [.ord (os 13 []) [],.as 17 (.v (vI (z3 / 8589934592))),.as 22 (.v (vI z12)),.as 24 (.v (vI z9)),.ord (os 10 []) []] (.br (.intro (Sx (c.b[Int.toNat c.i]?)) fun x1=>let z1:=IntKind.i64.wrap (z9+(IntKind.i64.wrap (x1)));.seg [.ord (os 15 []) [],.el .u8 x1,.as 48 (.v (vI (z1 % 256))),.as 54 (.v (vI (c.i+1)))] (.leaf (⟨z1 % 256,(⟨c.b,c.i+1,IntKind.i64.wrap z5⟩:Cur)⟩:Ku) [0])) (.leaf (⟨z4 % 256,(⟨c.b,c.i,IntKind.i64.wrap z5⟩:Cur)⟩:Ku) [0])),((0:Int)≤33)∧((0:Int)≤33)∧z8∧z8∧((0:Int)≤45)∧((0:Int)≤45)∧z7∧z7∧z6∧z6∧Bc (decide (c.i<((List.length c.b:Nat):Int))) (El (c.b[Int.toNat c.i]?) fun x1=>(let z2:=IntKind.i64.wrap (z9+(IntKind.i64.wrap (x1)));(c.b[Int.toNat c.i]? =some x1)∧((0:Int)≤c.i)∧(c.b[Int.toNat c.i]? =some x1)∧((0:Int)≤c.i)∧((.v (vI (IntKind.i64.wrap (((BitVec.ofInt 64 z2&&&BitVec.ofInt 64 255).toNat:Nat)))):S)= .v (vI (z2 % 256)))∧((.v (vI (IntKind.i64.wrap (((BitVec.ofInt 64 z2&&&BitVec.ofInt 64 255).toNat:Nat)))):S)= .v (vI (z2 % 256)))∧(wI (c.i+1))∧(((0:Int)≤(z2 % 256)∧(z2 % 256)≤255)∧(Av (⟨c.b,c.i+1,IntKind.i64.wrap z5⟩:Cur)))∧Lf (.v (vI (z2 % 256))) (.v (vI (z2 % 256))) z10 z10)) ((((0:Int)≤z9∧z9≤255)∧(Av (⟨c.b,c.i,IntKind.i64.wrap z5⟩:Cur)))∧Lf (.v (vI z9)) (.v (vI z9)) z11 z11))) Q4 ?_
 refine⟨Q25,Q25,(U0 (k:=33) Q25 Q25),(U0 (k:=33) Q25 Q25),Q25,Q25,(U0 (k:=45) Q25 Q25),(U0 (k:=45) Q25 Q25),(Fe (k:=8) Q25 Q25),(Fe (k:=8) Q25 Q25),dsp (fun h1 p1=>?_) fun h1 p1=>?_⟩
 refine⟨(Bg (l:=c.b) (i:=Int.toNat c.i) Q2),fun x1 hx1=>?_⟩
 exact⟨hx1,Q2,hx1,Q2,(Fe (k:=8) Q25 Q25),(Fe (k:=8) Q25 Q25),(Ac Q2 Q2),⟨Q2,Q0⟩,rfl,rfl⟩
 exact⟨⟨Q2,Q0⟩,rfl,rfl⟩
structure Cn where
 x:Int
 c1:Cur
def Ai (c:Cur) (n:Int) (o:Cn):Prop:=Fun Tryz.prog 85 [vP 0,vI n] [.cells (B0 c)] (.v (vI o.x)) [.cells (B0 o.c1)]
def Aa (c:Cur) (n:Int) (o:Cn):Prop:=(((0:Int)≤o.x)∧((1:Int)≤n→o.x<n)∧(n≤(0:Int)→o.x=(0:Int))∧(Av o.c1))∧Ai c n o
theorem Am (c:Cur) (n:Int) (hp1:Av c): ∃o:Cn,Aa c n o:=by
 have hN:Bj=274877906944:=rfl
 refine Bv Tryz.func85 Q4 Q4 (w:=let z8:=Dt c;(.br (.leaf (⟨0,c⟩:Cn) [0]) (.br (.intro z8 fun o1=> .seg [.call [0] (.v (vI o1.x)) (Kc o1.c1)] (.leaf (⟨Int.tmod o1.x n,o1.c1⟩:Cn) [0])) (.intro z8 fun o1=> .seg [.call [0] (.v (vI o1.x)) (Kc o1.c1)] (.intro (Dt o1.c1) fun o2=>let z6:=(o1.x*16777216)+(o2.x*65536);.seg [.call [0] (.v (vI o2.x)) (Kc o2.c1)] (.intro (Dt o2.c1) fun o3=>let z4:=z6+(o3.x*256);.seg [.call [0] (.v (vI o3.x)) (Kc o3.c1)] (.intro (Dt o3.c1) fun o4=>let z2:=z4+o4.x;.seg [.call [0] (.v (vI o4.x)) (Kc o4.c1),.as 26 (.v (vI (o1.x*16777216))),.as 28 (.v (vI (o2.x*65536))),.as 29 (.v (vI z6)),.as 31 (.v (vI (o3.x*256))),.as 32 (.v (vI z4)),.as 34 (.v (vI z2))] (.leaf (⟨Int.tmod z2 n,o4.c1⟩:Cn) [0])))))),Bc (decide (n≤0)) ((((0:Int)≤0)∧((1:Int)≤n→0<n)∧(n≤(0:Int)→0=(0:Int))∧(Av c))∧Lf (.v (vI 0)) (.v (vI 0)) (Kc c) (Kc c)) (Bc (decide (n≤256)) (In z8 fun o1=>(let z1:=Int.tmod o1.x n;(Fv c o1)∧(n≠0)∧(((0:Int)≤z1)∧((1:Int)≤n→z1<n)∧(n≤(0:Int)→z1=(0:Int))∧(Av o1.c1))∧Lf (.v (vI z1)) (.v (vI z1)) (Kc o1.c1) (Kc o1.c1))) (In z8 fun o1=>((Fv c o1)∧In (Dt o1.c1) fun o2=>(let z7:=(o1.x*16777216)+(o2.x*65536);(Fv o1.c1 o2)∧In (Dt o2.c1) fun o3=>(let z5:=z7+(o3.x*256);(Fv o2.c1 o3)∧In (Dt o3.c1) fun o4=>(let z3:=z5+o4.x;(Fv o3.c1 o4)∧(wI (o1.x*16777216))∧(wI (o2.x*65536))∧(wI z7)∧(wI (o3.x*256))∧(wI z5)∧(wI z3)∧(n≠0)∧(((0:Int)≤(Int.tmod z3 n))∧((1:Int)≤n→(Int.tmod z3 n)<n)∧(n≤(0:Int)→(Int.tmod z3 n)=(0:Int))∧(Av o4.c1))∧Lf (.v (vI (Int.tmod z3 n))) (.v (vI (Int.tmod z3 n))) (Kc o4.c1) (Kc o4.c1))))))))) Q4 ?_
 refine dsp (fun h1 p1=>?_) fun h1 p1=>?_
 exact⟨⟨Q2,Q2,Q2,Q0⟩,rfl,rfl⟩
 refine dsp (fun h2 p2=>?_) fun h2 p2=>?_
 refine⟨(Lx c Q0),fun o1 ho_o1=>?_⟩
 obtain ⟨⟨hp_o1_0,hp_o1_1⟩,hf_o1⟩:=ho_o1
 exact⟨hf_o1,Q2,⟨(by have:=Td o1.x n;omega),(by have:=Td o1.x n;omega),(by have:=Td o1.x n;omega),Q0⟩,rfl,rfl⟩
 refine⟨(Lx c Q0),fun o1 ho_o1=>?_⟩
 obtain ⟨⟨hp_o1_0,hp_o1_1⟩,hf_o1⟩:=ho_o1
 refine⟨hf_o1,(Lx o1.c1 Q0),fun o2 ho_o2=>?_⟩
 obtain ⟨⟨hp_o2_0,hp_o2_1⟩,hf_o2⟩:=ho_o2
 refine⟨hf_o2,(Lx o2.c1 Q0),fun o3 ho_o3=>?_⟩
 obtain ⟨⟨hp_o3_0,hp_o3_1⟩,hf_o3⟩:=ho_o3
 refine⟨hf_o3,(Lx o3.c1 Q0),fun o4 ho_o4=>?_⟩
 obtain ⟨⟨hp_o4_0,hp_o4_1⟩,hf_o4⟩:=ho_o4
 exact⟨hf_o4,(Ac Q2 Q2),(Ac Q2 Q2),(Ac Q2 Q2),(Ac Q2 Q2),(Ac Q2 Q2),(Ac Q2 Q2),Q2,⟨Q61,Q61,Q61,Q0⟩,rfl,rfl⟩
structure Nw where
 p:Bool
 c1:Cur
def Bd (c:Cur) (n:Int) (o:Nw):Prop:=Fun Tryz.prog 81 [vP 0,vI n] [.cells (B0 c)] (.v (vB o.p)) [.cells (B0 o.c1)]
def Ap (c:Cur) (n:Int) (o:Nw):Prop:=((Av o.c1))∧Bd c n o
theorem Bw (c:Cur) (n:Int) (hp1:Av c): ∃o:Nw,Ap c n o:=by
 have hN:Bj=274877906944:=rfl
 refine Bv Tryz.func81 Q4 Q4 (w:=(.intro (Aa c n) fun o1=> .seg [.call [0] (.v (vI o1.x)) (Kc o1.c1)] (.leaf (⟨decide (o1.x=0),o1.c1⟩:Nw) [0]),In (Aa c n) fun o1=>((Ai c n o1)∧((Av o1.c1))∧Lf (.v (vB (decide (o1.x=0)))) (.v (vB (decide (o1.x=0)))) (Kc o1.c1) (Kc o1.c1)))) Q4 ?_
 refine⟨(Am c n Q0),fun o1 ho_o1=>?_⟩
 obtain ⟨⟨hp_o1_0,hp_o1_1,hp_o1_2,hp_o1_3⟩,hf_o1⟩:=ho_o1
 exact⟨hf_o1,Q0,rfl,rfl⟩
structure Hv where
 x:Int
 c1:Cur
def B2 (c:Cur) (l:List Int) (o:Hv):Prop:=Fun Tryz.prog 86 [vP 0,.c (.seq .int l)] [.cells (B0 c)] (.v (vI o.x)) [.cells (B0 o.c1)]
def A3 (c:Cur) (l:List Int) (o:Hv):Prop:=((o.x∈l)∧(Av o.c1))∧B2 c l o
theorem Co (c:Cur) (l:List Int) (hp1:Av c) (hp2:1≤List.length l) (hp3:List.length l≤1000): ∃o:Hv,A3 c l o:=by
 have hN:Bj=274877906944:=rfl
 refine Bv Tryz.func86 Q4 Q4 (w:=let z1:=((List.length l:Nat):Int);(.intro (Aa c z1) fun o1=> .seg [.call [0] (.v (vI o1.x)) (Kc o1.c1)] (.intro (Sx (l[Int.toNat o1.x]?)) fun x1=> .seg [.el .int x1] (.leaf (⟨x1,o1.c1⟩:Hv) [0])),In (Aa c z1) fun o1=>((Ai c z1 o1)∧El (l[Int.toNat o1.x]?) fun x1=>((l[Int.toNat o1.x]? =some x1)∧((0:Int)≤o1.x)∧((x1∈l)∧(Av o1.c1))∧Lf (.v (vI x1)) (.v (vI x1)) (Kc o1.c1) (Kc o1.c1))))) Q4 ?_
 refine⟨(Am c ((List.length l:Nat):Int) Q0),fun o1 ho_o1=>?_⟩
 obtain ⟨⟨hp_o1_0,hp_o1_1,hp_o1_2,hp_o1_3⟩,hf_o1⟩:=ho_o1
 refine⟨hf_o1,(Bg (l:=l) (i:=Int.toNat o1.x) Q2),fun x1 hx1=>?_⟩
 exact⟨hx1,Q2,⟨(List.mem_of_getElem? hx1),Q0⟩,rfl,rfl⟩
structure Gs where
 x:Int
 c1:Cur
def Ps (c:Cur) (o:Gs):Prop:=Fun Tryz.prog 177 [vP 0] [.cells (B0 c)] (.v (vI o.x)) [.cells (B0 o.c1)]
def Jk (c:Cur) (o:Gs):Prop:=((Av o.c1))∧Ps c o
theorem Xe (c:Cur) (hp1:Av c): ∃o:Gs,Jk c o:=by
 have hN:Bj=274877906944:=rfl
 refine Bv Tryz.func177 Q4 Q4 (w:=let z1:= -9223372036854775808;(.intro (Aa c 3) fun o1=> .seg [.call [0] (.v (vI o1.x)) (Kc o1.c1)] (.br (.seg [.ty .int,.pubS 8] (.intro (A3 o1.c1 [0,1,(-1),9,10,127,128,999999999,1000000000,9223372036854775807,z1]) fun o2=> .seg [.call [0] (.v (vI o2.x)) (Kc o2.c1)] (.leaf (⟨o2.x,o2.c1⟩:Gs) [0]))) (.br (.intro (Aa o1.c1 1000000) fun o2=> .seg [.call [0] (.v (vI o2.x)) (Kc o2.c1),.as 14 (.v (vI (o2.x-500000)))] (.leaf (⟨o2.x-500000,o2.c1⟩:Gs) [0])) (.intro (Aa o1.c1 20) fun o2=> .seg [.call [0] (.v (vI o2.x)) (Kc o2.c1)] (.leaf (⟨o2.x,o2.c1⟩:Gs) [0])))),In (Aa c 3) fun o1=>((Ai c 3 o1)∧Bc (decide (o1.x=0)) (In (A3 o1.c1 [0,1,(-1),9,10,127,128,999999999,1000000000,9223372036854775807,z1]) fun o2=>((B2 o1.c1 [0,1,(-1),9,10,127,128,999999999,1000000000,9223372036854775807,z1] o2)∧((Av o2.c1))∧Lf (.v (vI o2.x)) (.v (vI o2.x)) (Kc o2.c1) (Kc o2.c1))) (Bc (decide (o1.x=1)) (In (Aa o1.c1 1000000) fun o2=>((Ai o1.c1 1000000 o2)∧(wI (o2.x-500000))∧((Av o2.c1))∧Lf (.v (vI (o2.x-500000))) (.v (vI (o2.x-500000))) (Kc o2.c1) (Kc o2.c1))) (In (Aa o1.c1 20) fun o2=>((Ai o1.c1 20 o2)∧((Av o2.c1))∧Lf (.v (vI o2.x)) (.v (vI o2.x)) (Kc o2.c1) (Kc o2.c1))))))) Q4 ?_
 refine⟨(Am c 3 Q0),fun o1 ho_o1=>?_⟩
 obtain ⟨⟨hp_o1_0,hp_o1_1,hp_o1_2,hp_o1_3⟩,hf_o1⟩:=ho_o1
 refine⟨hf_o1,dsp (fun h1 p1=>?_) fun h1 p1=>?_⟩
 refine⟨(Co o1.c1 [0,1,(-1),9,10,127,128,999999999,1000000000,9223372036854775807,(-9223372036854775808)] Q0 Q5 Q5),fun o2 ho_o2=>?_⟩
 obtain ⟨⟨hp_o2_0,hp_o2_1⟩,hf_o2⟩:=ho_o2
 exact⟨hf_o2,Q0,rfl,rfl⟩
 refine dsp (fun h2 p2=>?_) fun h2 p2=>?_
 refine⟨(Am o1.c1 1000000 Q0),fun o2 ho_o2=>?_⟩
 obtain ⟨⟨hp_o2_0,hp_o2_1,hp_o2_2,hp_o2_3⟩,hf_o2⟩:=ho_o2
 exact⟨hf_o2,(Ac Q2 Q2),Q0,rfl,rfl⟩
 refine⟨(Am o1.c1 20 Q0),fun o2 ho_o2=>?_⟩
 obtain ⟨⟨hp_o2_0,hp_o2_1,hp_o2_2,hp_o2_3⟩,hf_o2⟩:=ho_o2
 exact⟨hf_o2,Q0,rfl,rfl⟩
structure Nc where
 c1:Cur
def Xf (b:List Int) (o:Nc):Prop:=Fun Tryz.prog 53 [.c (.seq .u8 b)] [] (.v (vP 0)) [.cells (B0 o.c1)]
def Tx (b:List Int) (o:Nc):Prop:=((Av o.c1))∧Xf b o
structure Nx where
 h:Int
 i:Nat
def Ny (b:List Int):Fam:=⟨Nx,fun q1=>[(0,.v (.c (.seq .u8 b))),(3,.v (vI q1.h)),(4,.v (vI ((q1.i:Nat):Int)))],fun _=>[],fun q1=>q1.i≤List.length b∧(0:Int)≤q1.h∧q1.h≤1073741823,fun q1=>List.length b-q1.i⟩
theorem Afy (b:List Int) (hp1:List.length b≤1048576): ∃o:Nc,Tx b o:=by
 have hN:Bj=274877906944:=rfl
 refine Bv Tryz.func53 Q4 Q4 (w:=let z5:=((List.length b:Nat):Int);let z6:=Ny b;(.seg [.as 7 (.v (vI (28433+z5))),.at 0,.keep [0,3,4],.sel []] (.loop z6 fun q1=> .br (.br (.seg [.as 19 (.v (vI (q1.h*131)))] (.intro (Sx (b[q1.i]?)) fun x1=> .seg [.el .u8 x1,.as 27 (.v (vI ((IntKind.i64.wrap ((IntKind.i64.wrap ((q1.h*131)+(IntKind.i64.wrap (x1))))+7)) % 1073741824))),.as 17 (.v (vI (((q1.i:Nat):Int)+1))),.at 0,.keep [0,3,4],.sel []] (.next))) (.leaf (⟨(⟨b,0,q1.h⟩:Cur)⟩:Nc) [0])) (.leaf (⟨(⟨b,0,q1.h⟩:Cur)⟩:Nc) [0])),(wI (28433+z5))∧z6.Has [(0,.v (.c (.seq .u8 b))),(3,.v (vI (28433+z5))),(4,.v (vI 0))] []∧∀q1,z6.inv q1→(let z3:=((q1.i:Nat):Int);let z4:List Blk:=[.cells [.seq .u8 b,.int .i64 0,.int .i64 q1.h]];let z2:=((Av (⟨b,0,q1.h⟩:Cur)))∧Lf (.v (vP 0)) (.v (vP 0)) z4 z4;Bc (decide (z3<z5)) (Bc (decide (z3<4000)) ((wI (q1.h*131))∧El (b[q1.i]?) fun x1=>(let z1:=IntKind.i64.wrap ((IntKind.i64.wrap ((q1.h*131)+(IntKind.i64.wrap (x1))))+7);(b[q1.i]? =some x1)∧((0:Int)≤z3)∧((.v (vI (IntKind.i64.wrap (((BitVec.ofInt 64 z1&&&BitVec.ofInt 64 1073741823).toNat:Nat)))):S)= .v (vI (z1 % 1073741824)))∧(wI (z3+1))∧z6.Nxt q1 [(0,.v (.c (.seq .u8 b))),(3,.v (vI (z1 % 1073741824))),(4,.v (vI (z3+1)))] [])) z2) z2))) Q4 ?_
 refine⟨(Ac Q2 Q2),Bh (j:=(⟨28433+((List.length b:Nat):Int),0⟩:Nx)) Q9 rfl (by dsimp only[Ny];exact⟨by omega,by omega,by omega⟩),fun (q1:Nx) hq_q1=>?_⟩
 have hi_q1:q1.i≤List.length b∧(0:Int)≤q1.h∧q1.h≤1073741823:=hq_q1
 obtain ⟨v1,v2,v3⟩:=hi_q1
 refine dsp (fun h1 p1=>?_) fun h1 p1=>?_
 refine dsp (fun h2 p2=>?_) fun h2 p2=>?_
 refine⟨(Ac Q2 Q2),(Bg (l:=b) (i:=q1.i) Q2),fun x1 hx1=>?_⟩
 exact⟨hx1,Q2,(Fe (k:=30) Q25 Q25),(Ac Q2 Q2),Bb (j:=(⟨(IntKind.i64.wrap ((IntKind.i64.wrap ((q1.h*131)+(IntKind.i64.wrap (x1))))+7)) % 1073741824,q1.i+1⟩:Nx)) Q9 rfl (by dsimp only[Ny];exact⟨by omega,by omega,by omega⟩) (by dsimp only[Ny];omega)⟩
 exact⟨(⟨by dsimp only;omega,hp1⟩),rfl,rfl⟩
 exact⟨(⟨by dsimp only;omega,hp1⟩),rfl,rfl⟩
structure Ly where
 l:List Int
 c1:Cur
def C0 (c:Cur) (n:Int) (o:Ly):Prop:=Fun Tryz.prog 193 [vP 0,vI n] [.cells (B0 c)] (.v (vO 1)) [.cells (B0 o.c1),.lst .u8 o.l]
def Bm (c:Cur) (n:Int) (o:Ly):Prop:=((List.length o.l≤Int.toNat n)∧(Av o.c1))∧C0 c n o
structure Kg where
 c:Cur
 b:List Int
 i:Nat
def Kh (n:Int):Fam:=⟨Kg,fun q1=>[(0,.v (vP 0)),(1,.v (vI n)),(5,.v (vO 1)),(6,.v (vI ((q1.i:Nat):Int)))],fun q1=>[.cells (B0 q1.c),.lst .u8 q1.b],fun q1=>Av q1.c∧List.length q1.b=q1.i∧(q1.i=0∨((q1.i:Nat):Int)≤n),fun q1=>Int.toNat n-q1.i⟩
theorem D7 (c:Cur) (n:Int) (hp1:Av c) (hp2:n≤100000): ∃o:Ly,Bm c n o:=by
 have hN:Bj=274877906944:=rfl
 refine Bv Tryz.func193 Q4 Q4 (w:=let z2:=Kh n;(.seg [.ty .u8,.at 0,.keep [0,1,5,6],.sel [0,1]] (.loop z2 fun q1=> .br (.intro (Dt q1.c) fun o1=> .seg [.call [0] (.v (vI o1.x)) (Kc o1.c1),.as 16 (.v (.c (.int .u8 o1.x))),.ty .u8,.ty .u8,.as 12 (.v (vI (((q1.i:Nat):Int)+1))),.at 0,.keep [0,1,5,6],.sel [0,3]] (.next)) (.leaf (⟨q1.b,q1.c⟩:Ly) [0,1])),z2.Has [(0,.v (vP 0)),(1,.v (vI n)),(5,.v (vO 1)),(6,.v (vI 0))] [.cells (B0 c),.lst .u8 ([]:List Int)]∧∀q1,z2.inv q1→(let z1:=((q1.i:Nat):Int);Bc (decide (z1<n)) (In (Dt q1.c) fun o1=>((Fv q1.c o1)∧((.v (.c (.int .u8 (IntKind.u8.wrap (o1.x)))):S)= .v (.c (.int .u8 o1.x)))∧(List.length q1.b+List.length [o1.x]≤Bj)∧(wI (z1+1))∧z2.Nxt q1 [(0,.v (vP 0)),(1,.v (vI n)),(5,.v (vO 1)),(6,.v (vI (z1+1)))] [.cells (B0 o1.c1),.lst .u8 (q1.b++[o1.x])])) (((List.length q1.b≤Int.toNat n)∧(Av q1.c))∧Lf (.v (vO 1)) (.v (vO 1)) [.cells (B0 q1.c),.lst .u8 q1.b] [.cells (B0 q1.c),.lst .u8 q1.b])))) Q4 ?_
 refine⟨Bh (j:=(⟨c,([]:List Int),0⟩:Kg)) Q9 rfl (by dsimp only[Kh];exact⟨hp1,rfl,.inl rfl⟩),fun (q1:Kg) hq_q1=>?_⟩
 have hi_q1:Av q1.c∧List.length q1.b=q1.i∧(q1.i=0∨((q1.i:Nat):Int)≤n):=hq_q1
 obtain ⟨v1,v2,v3⟩:=hi_q1
 refine dsp (fun h1 p1=>?_) fun h1 p1=>?_
 refine⟨(Lx q1.c Q0),fun o1 ho_o1=>?_⟩
 obtain ⟨⟨hp_o1_0,hp_o1_1⟩,hf_o1⟩:=ho_o1
 exact⟨hf_o1,(Ko Q2 Q2),Q5,(Ac Q2 Q2),Bb (j:=(⟨o1.c1,q1.b++[o1.x],q1.i+1⟩:Kg)) Q9 rfl (by dsimp only[Kh];exact⟨by assumption,by simp;omega,by omega⟩) (by dsimp only[Kh];omega)⟩
 exact⟨⟨Q2,Q0⟩,rfl,rfl⟩
structure Adz where
 l:List Rd
 c1:Cur
structure Ac4 where
 c:Cur
 out:List Rd
 i:Nat
end Go.Proofs.YtphecbmdhbphgaaGreat.Ax
