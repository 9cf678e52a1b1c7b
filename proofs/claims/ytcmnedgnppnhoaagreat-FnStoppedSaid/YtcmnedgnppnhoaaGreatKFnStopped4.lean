/- The machine: lengths, numbers, texts. The machine: bytes of numbers. The machine: bytes. The machine: a byte. A byte: the program. -/
import Derived.Test.YtcmnedgnppnhoaaGreatKFnStopped3
set_option linter.unusedSimpArgs false
set_option linter.unusedVariables false
namespace Go.Proofs.YtcmnedgnppnhoaaGreat.Ax
open Go.RowKit
theorem Ahp (m:Mac) (u:Int) (hp1:A7 (m).d=true) (hp2:List.length (m).out≤100000000) (hp3:(0:Int)≤u∧u≤18446744073709551615) (hp4:((m).d.field=fld0∨known (m).d.plan.shapes (m).d.field=true)):Fun Tryz.prog 180 [vP 0,.c (.int .u64 u)] [.cells (Ab 1 2 3 m),.tree m.d.plan.shapes,.lst .lev m.d.stack,.lst .ev m.out] (.tup []) [.cells (Ab 4 5 6 (Cg m u)),.dead,.dead,.dead,.tree (Cg m u).d.plan.shapes,.lst .lev (Cg m u).d.stack,.lst .ev (Cg m u).out]:=by
 have hN:Bg=274877906944:=rfl
 have hlv:=B0 hp1
 have hpt:=B6 hlv.1
 have htb:=Gk hp1
 have hwm:=Acw m
 have hwb:=Dy (Bs m.d.field.kind)
 refine Ar Tryz.func180 Q4 Q4 (w:=let zi:Int→C:= .int .i64;let z7:List C:=[.own 1,zi m.d.plan.root,zi m.d.plan.deep,zi m.d.plan.most,zi m.d.mode,.own 2,.int .u64 0,zi 0,zi m.d.start,zi m.d.at_,zi m.d.field.number,zi m.d.field.kind,.bool m.d.field.rep,.bool m.d.field.packed,zi m.d.field.msg,zi m.d.wire,zi u,zi m.d.utf.want,zi m.d.utf.low,zi m.d.utf.high,zi m.d.end_.kind,zi m.d.end_.field,.int .u64 m.d.end_.bits,zi m.d.end_.len,.str m.d.end_.text,zi m.d.end_.code,zi m.d.end_.at_,.own 4];let z8:List C:=[zi m.d.end_.kind,zi m.d.end_.field,.int .u64 m.d.end_.bits,zi m.d.end_.len,.str m.d.end_.text,zi m.d.end_.code,zi m.d.end_.at_,.own 3];let z6:List C:= .own 2:: .int .u64 0::zi 0::zi m.d.start::zi m.d.at_::zi m.d.field.number::zi m.d.field.kind:: .bool m.d.field.rep:: .bool m.d.field.packed::zi m.d.field.msg::zi m.d.wire::zi u::zi m.d.utf.want::zi m.d.utf.low::zi m.d.utf.high::z8;let z9:List C:=[zi m.d.field.number,.int .u64 0,zi u,.str [],zi 0,zi 0];let z16:List Blk:=[.cells (Ab 4 5 6 (Cg m u)),.dead,.dead,.dead,.tree (Cg m u).d.plan.shapes,.lst .lev (Cg m u).d.stack,.lst .ev (Cg m u).out];let z17:=((List.length m.d.stack:Nat):Int);let z19:List Blk:=[.cells (.own 1::zi m.d.plan.root::zi m.d.plan.deep::zi m.d.plan.most::zi m.d.mode::z6),.tree m.d.plan.shapes,.lst .lev m.d.stack,.lst .ev m.out];let z21:List Blk:=[.cells (.own 1::zi m.d.plan.root::zi m.d.plan.deep::zi m.d.plan.most::zi 8::z6),.tree m.d.plan.shapes,.lst .lev m.d.stack,.lst .ev m.out];let z22:List Blk:=[.cells (.own 1::zi m.d.plan.root::zi m.d.plan.deep::zi m.d.plan.most::zi m.d.mode:: .own 2:: .int .u64 0::zi 0::zi m.d.start::zi m.d.at_::zi m.d.field.number::zi m.d.field.kind:: .bool m.d.field.rep:: .bool m.d.field.packed::zi m.d.field.msg::zi m.d.wire::zi m.d.want::zi m.d.utf.want::zi m.d.utf.low::zi m.d.utf.high::z8),.tree m.d.plan.shapes,.lst .lev m.d.stack,.lst .ev m.out];let z25:=(.v (vI (IntKind.i64.wrap (u))):S)= .v (vI u);let z28:=Bs m.d.field.kind;let z29:=decide (m.d.field.number=0)&&(decide (m.d.field.kind=0)&&(decide (m.d.field.rep=false)&&(decide (m.d.field.packed=false)&&decide (m.d.field.msg=0))));let z30:=(⟨6,m.d.field.number,0,u,[],0,0⟩:Ev);let z32:=(.tup []:S);let z35:=(⟨3,m.d.field.number,0,u,[],0,0⟩:Ev);let z20:List Blk:=[.cells (.own 1::zi m.d.plan.root::zi m.d.plan.deep::zi m.d.plan.most::zi 6:: .own 2:: .int .u64 0::zi 0::zi m.d.start::zi m.d.at_::zi m.d.field.number::zi m.d.field.kind:: .bool m.d.field.rep:: .bool m.d.field.packed::zi m.d.field.msg::zi m.d.wire::zi u::zi 0::zi 0::zi 0::z8),.tree m.d.plan.shapes,.lst .lev m.d.stack,.lst .ev (m.out++[z35])];let z24:List Blk:=[.cells z7,.tree m.d.plan.shapes,.lst .lev m.d.stack,.dead,.lst .ev (m.out++[z35])];let z37:List Blk:=[.cells z7,.tree m.d.plan.shapes,.lst .lev m.d.stack,.dead,.lst .ev (m.out++[z30])];let z38:=(⟨m.d.field.msg,u⟩:Lev);let z39:=(⟨0,0⟩:Scn);let z11:=Ac (⟨(⟨m.d.plan,6,m.d.stack,z39,m.d.start,m.d.at_,m.d.field,m.d.wire,u,(⟨0,0,0⟩:Utf),m.d.end_⟩:Dcd),m.out++[z35]⟩:Mac);let z12:=A0 (⟨(⟨m.d.plan,m.d.mode,m.d.stack,z39,m.d.start,m.d.at_,m.d.field,m.d.wire,m.d.want,m.d.utf,m.d.end_⟩:Dcd),m.out⟩:Mac) 8 m.d.start;let z13:=A0 (⟨(⟨m.d.plan,m.d.mode,m.d.stack,z39,m.d.start,m.d.at_,m.d.field,m.d.wire,u,m.d.utf,m.d.end_⟩:Dcd),m.out⟩:Mac) 6 m.d.start;let z14:=(⟨m.d.plan,8,m.d.stack,z39,m.d.start,m.d.at_,m.d.field,m.d.wire,u,m.d.utf,m.d.end_⟩:Dcd);let z15:=Ac (⟨(⟨m.d.plan,7,m.d.stack,z39,m.d.start,m.d.at_,m.d.field,m.d.wire,u,m.d.utf,m.d.end_⟩:Dcd),m.out⟩:Mac);let z18:List Blk:=[.cells (Ab 4 5 6 z11),.dead,.dead,.dead,.tree z11.d.plan.shapes,.lst .lev z11.d.stack,.lst .ev z11.out];let z23:=A0 (⟨z14,m.out⟩:Mac) 9 m.d.at_;let z26:List Blk:=[.cells (Ab 1 2 4 z12),.tree z12.d.plan.shapes,.lst .lev z12.d.stack,.dead,.lst .ev z12.out];let z27:List Blk:=[.cells (Ab 4 5 6 z15),.dead,.dead,.dead,.tree z15.d.plan.shapes,.lst .lev z15.d.stack,.lst .ev z15.out];let z31:=([.cells (Ab 4 5 6 z12),.dead,.dead,.dead,.tree z12.d.plan.shapes,.lst .lev z12.d.stack,.lst .ev z12.out]:List Blk);let z33:List Blk:=[.cells (Ab 1 2 4 z13),.tree z13.d.plan.shapes,.lst .lev z13.d.stack,.dead,.lst .ev z13.out];let z34:List Blk:=[.cells (Ab 1 2 4 z23),.tree z23.d.plan.shapes,.lst .lev z23.d.stack,.dead,.lst .ev z23.out];let z36:=Ac (⟨z14,m.out⟩:Mac);let z10:List Blk:=[.cells (Ab 4 5 6 z36),.dead,.dead,.dead,.tree z36.d.plan.shapes,.lst .lev z36.d.stack,.lst .ev z36.out];let z40:=(.v (vI (IntKind.i64.wrap (z17-1))):S)= .v (vI (z17-1));let z41:=(0:Int)≤z17-1;let z42:=Ay z28;let z43:=z17-1<z17;(.br (.seg [.call [0,1,2,3] (.tup []) z26,.at 0,.cut 0 0,.cut 0 5] (.leaf () [0,1,2,3,5,6,4])) (.seg [.call [] (.v (vI (Dh m.d))) [],.as 25 (.v (.c (.int .u64 (Dh m.d))))] (.br (.seg [.call [0,1,2,3] (.tup []) z26,.at 0,.cut 0 0,.cut 0 5] (.leaf () [0,1,2,3,5,6,4])) (.seg [.as 42 (.v (vI u))] (.br (.seg [.call [0,1,2,3] (.tup []) z27] (.leaf () [0,1,2,3,5,6,7])) (.br (.seg [.ord (os 13 []) []] (.br (.seg [.call [0,1,2,3] (.tup []) z33,.at 0,.cut 0 0,.cut 0 5] (.leaf () [0,1,2,3,6,7,5])) (.seg [.as 109 (.v (vI u)),.call [0,1,2,3] (.tup []) z37] (.intro (fun (x1:Lev)=>m.d.stack[Int.toNat (z17-1)]? =some x1) fun x1=>let z1:=Ac (⟨(⟨m.d.plan,2,(List.set m.d.stack (Int.toNat (z17-1)) (⟨x1.msg,x1.left-u⟩:Lev))++[z38],z39,m.d.start,m.d.at_,m.d.field,m.d.wire,0,m.d.utf,m.d.end_⟩:Dcd),m.out++[z30]⟩:Mac);.seg [.ord (os 21 [20]) [],.as 123 (.v (vI (z17-1))),.el .lev x1,.as 128 (.v (vI u)),.as 129 (.v (vI (x1.left-u))),.el .lev x1,.ord (os 17 [11,12,16]) [2],.as 141 (.v (vI u)),.ty .lev,.ty .lev,.call [0,1,7,5] (.tup []) [.cells (Ab 4 5 6 z1),.dead,.dead,.dead,.tree z1.d.plan.shapes,.lst .lev z1.d.stack,.lst .ev z1.out]] (.leaf () [0,1,2,3,8,9,10]))))) (.br (.seg [.as 169 (.v (vI u)),.call [0,1,2,3] (.tup []) z24,.call [0,1,2,5] (.tup []) z18] (.leaf () [0,1,2,3,6,7,8])) (.br (.seg [.as 169 (.v (vI u)),.call [0,1,2,3] (.tup []) z24,.call [0,1,2,5] (.tup []) z18] (.leaf () [0,1,2,3,6,7,8])) (.seg [.call [] (.v (vI z28)) [],.call [] (.v (vI z42)) []] (.br (.br (.seg [.as 63 (.v (.c (.int .u64 z42)))] (.br (.seg [.call [0,1,2,3] (.tup []) z34,.at 0,.cut 0 0,.cut 0 5] (.leaf () [0,1,2,3,6,7,5])) (.seg [.call [0,1,2,3] (.tup []) z10] (.leaf () [0,1,2,3,5,6,7])))) (.seg [.call [0,1,2,3] (.tup []) z10] (.leaf () [0,1,2,3,5,6,7]))) (.seg [.call [0,1,2,3] (.tup []) z10] (.leaf () [0,1,2,3,5,6,7]))))))))))),((decide (z17=0))=true→(Fun Tryz.prog 94 [vP 0,vI 8,vI m.d.start] z22 (.tup []) z26)∧z32= .tup []∧z31=z16)∧((decide (z17=0))=false→(Fun Tryz.prog 85 [.agg [.seq .shp m.d.plan.shapes,zi m.d.plan.root,zi m.d.plan.deep,zi m.d.plan.most,zi m.d.mode,.seq .lev m.d.stack,.int .u64 0,zi 0,zi m.d.start,zi m.d.at_,zi m.d.field.number,zi m.d.field.kind,.bool m.d.field.rep,.bool m.d.field.packed,zi m.d.field.msg,zi m.d.wire,zi m.d.want,zi m.d.utf.want,zi m.d.utf.low,zi m.d.utf.high,zi m.d.end_.kind,zi m.d.end_.field,.int .u64 m.d.end_.bits,zi m.d.end_.len,.str m.d.end_.text,zi m.d.end_.code,zi m.d.end_.at_]] [] (.v (vI (Dh m.d))) [])∧((.v (.c (.int .u64 (IntKind.u64.wrap (Dh m.d)))):S)= .v (.c (.int .u64 (Dh m.d))))∧((decide (Dh m.d<u))=true→(Fun Tryz.prog 94 [vP 0,vI 8,vI m.d.start] z22 (.tup []) z26)∧z32= .tup []∧z31=z16)∧((decide (Dh m.d<u))=false→z25∧(z29=true→(Fun Tryz.prog 120 [vP 0] [.cells (.own 1::zi m.d.plan.root::zi m.d.plan.deep::zi m.d.plan.most::zi 7::z6),.tree m.d.plan.shapes,.lst .lev m.d.stack,.lst .ev m.out] (.tup []) z27)∧z32= .tup []∧(z27:List Blk)=z16)∧(z29=false→((decide (m.d.field.kind=8))=true→((decide (m.d.plan.deep≤z17))=true→(Fun Tryz.prog 94 [vP 0,vI 6,vI m.d.start] z19 (.tup []) z33)∧z32= .tup []∧([.cells (Ab 4 5 6 z13),.dead,.dead,.dead,.tree z13.d.plan.shapes,.lst .lev z13.d.stack,.lst .ev z13.out]:List Blk)=z16)∧((decide (m.d.plan.deep≤z17))=false→z25∧(Fun Tryz.prog 93 [vP 0,.agg (zi 6::z9)] z19 (.tup []) z37)∧(∃(x1:Lev),m.d.stack[Int.toNat (z17-1)]? =some x1)∧∀(x1:Lev),(m.d.stack[Int.toNat (z17-1)]? =some x1)→(let z3:=List.set m.d.stack (Int.toNat (z17-1)) (⟨x1.msg,x1.left-u⟩:Lev);let z2:=Ac (⟨(⟨m.d.plan,2,z3++[z38],z39,m.d.start,m.d.at_,m.d.field,m.d.wire,0,m.d.utf,m.d.end_⟩:Dcd),m.out++[z30]⟩:Mac);let z4:=m.d.stack[Int.toNat (z17-1)]? =some x1;let z5:=(.v (vI (IntKind.i64.wrap (x1.left-u))):S)= .v (vI (x1.left-u));z40∧z40∧z43∧z41∧z43∧z41∧z4∧z4∧z25∧z25∧z5∧z5∧z43∧z41∧z43∧z41∧z4∧z25∧z25∧(List.length z3+List.length [z38]≤Bg)∧(Fun Tryz.prog 120 [vP 0] [.cells (.own 1::zi m.d.plan.root::zi m.d.plan.deep::zi m.d.plan.most::zi 2:: .own 2:: .int .u64 0::zi 0::zi m.d.start::zi m.d.at_::zi m.d.field.number::zi m.d.field.kind:: .bool m.d.field.rep:: .bool m.d.field.packed::zi m.d.field.msg::zi m.d.wire::zi 0::zi m.d.utf.want::zi m.d.utf.low::zi m.d.utf.high::z8),.tree m.d.plan.shapes,.lst .lev (z3++[z38]),.lst .ev (m.out++[z30])] (.tup []) [.cells (Ab 4 5 6 z2),.dead,.dead,.dead,.tree z2.d.plan.shapes,.lst .lev z2.d.stack,.lst .ev z2.out])∧z32= .tup []∧([.cells (Ab 4 5 6 z2),.dead,.dead,.dead,.tree z2.d.plan.shapes,.lst .lev z2.d.stack,.lst .ev z2.out]:List Blk)=z16)))∧((decide (m.d.field.kind=8))=false→((decide (m.d.field.kind=6))=true→z25∧(Fun Tryz.prog 93 [vP 0,.agg (zi 3::z9)] z19 (.tup []) z24)∧(Fun Tryz.prog 120 [vP 0] z20 (.tup []) z18)∧z32= .tup []∧(z18:List Blk)=z16)∧((decide (m.d.field.kind=6))=false→((decide (m.d.field.kind=7))=true→z25∧(Fun Tryz.prog 93 [vP 0,.agg (zi 3::z9)] z19 (.tup []) z24)∧(Fun Tryz.prog 120 [vP 0] z20 (.tup []) z18)∧z32= .tup []∧(z18:List Blk)=z16)∧((decide (m.d.field.kind=7))=false→(Fun Tryz.prog 174 [vI m.d.field.kind] [] (.v (vI z28)) [])∧(Fun Tryz.prog 146 [vI z28] [] (.v (vI z42)) [])∧((decide (0<Ay z28))=true→((decide (0<u))=true→((.v (.c (.int .u64 (IntKind.u64.wrap z42))):S)= .v (.c (.int .u64 z42)))∧((decide (u<Ay z28))=true→(Fun Tryz.prog 94 [vP 0,vI 9,vI m.d.at_] z21 (.tup []) z34)∧z32= .tup []∧([.cells (Ab 4 5 6 z23),.dead,.dead,.dead,.tree z23.d.plan.shapes,.lst .lev z23.d.stack,.lst .ev z23.out]:List Blk)=z16)∧((decide (u<Ay z28))=false→(Fun Tryz.prog 120 [vP 0] z21 (.tup []) z10)∧z32= .tup []∧(z10:List Blk)=z16))∧((decide (0<u))=false→(Fun Tryz.prog 120 [vP 0] z21 (.tup []) z10)∧z32= .tup []∧(z10:List Blk)=z16))∧((decide (0<Ay z28))=false→(Fun Tryz.prog 120 [vP 0] z21 (.tup []) z10)∧z32= .tup []∧(z10:List Blk)=z16))))))))) Q4 ?_
 refine dsp (fun h1 p1=>?_) fun h1 p1=>?_
 refine⟨(B4 (⟨(⟨m.d.plan,m.d.mode,m.d.stack,(⟨0,0⟩:Scn),m.d.start,m.d.at_,m.d.field,m.d.wire,m.d.want,m.d.utf,m.d.end_⟩:Dcd),m.out⟩:Mac) _ _ Q7),?_⟩
 refine have hm1:Cg m u=(A0 (⟨(⟨m.d.plan,m.d.mode,m.d.stack,(⟨0,0⟩:Scn),m.d.start,m.d.at_,m.d.field,m.d.wire,m.d.want,m.d.utf,m.d.end_⟩:Dcd),m.out⟩:Mac) 8 m.d.start):=?_;?_
 rotate_left
 exact⟨rfl,Q5⟩
 refine⟨(Dq (⟨m.d.plan,m.d.mode,m.d.stack,(⟨0,0⟩:Scn),m.d.start,m.d.at_,m.d.field,m.d.wire,m.d.want,m.d.utf,m.d.end_⟩:Dcd) Q7),(Bv Q2 Q2),dsp (fun h2 p2=>?_) fun h2 p2=>?_⟩
 refine⟨(B4 (⟨(⟨m.d.plan,m.d.mode,m.d.stack,(⟨0,0⟩:Scn),m.d.start,m.d.at_,m.d.field,m.d.wire,m.d.want,m.d.utf,m.d.end_⟩:Dcd),m.out⟩:Mac) _ _ Q7),?_⟩
 refine have hm1:Cg m u=(A0 (⟨(⟨m.d.plan,m.d.mode,m.d.stack,(⟨0,0⟩:Scn),m.d.start,m.d.at_,m.d.field,m.d.wire,m.d.want,m.d.utf,m.d.end_⟩:Dcd),m.out⟩:Mac) 8 m.d.start):=?_;?_
 rotate_left
 exact⟨rfl,Q5⟩
 refine⟨(Ae Q2 Q2),fun h3=>have p3:=(Cc dT (Cc dT (Cc dT (Cc dT dT)))).1 h3;?_,fun h3=>have p3:=(Cd dT (Cd dT (Cd dT (Cd dT dF)))).1 h3;?_⟩
 refine⟨(D0 (⟨(⟨m.d.plan,7,m.d.stack,(⟨0,0⟩:Scn),m.d.start,m.d.at_,m.d.field,m.d.wire,u,m.d.utf,m.d.end_⟩:Dcd),m.out⟩:Mac) (Q13) Q7),?_⟩
 refine have hm1:Cg m u=(Ac (⟨(⟨m.d.plan,7,m.d.stack,(⟨0,0⟩:Scn),m.d.start,m.d.at_,m.d.field,m.d.wire,u,m.d.utf,m.d.end_⟩:Dcd),m.out⟩:Mac)):=?_;?_
 rotate_left
 exact⟨rfl,Q5⟩
 refine dsp (fun h4 p4=>?_) fun h4 p4=>?_
 refine dsp (fun h5 p5=>?_) fun h5 p5=>?_
 refine⟨(B4 (⟨(⟨m.d.plan,m.d.mode,m.d.stack,(⟨0,0⟩:Scn),m.d.start,m.d.at_,m.d.field,m.d.wire,u,m.d.utf,m.d.end_⟩:Dcd),m.out⟩:Mac) _ _ Q7),?_⟩
 refine have hm1:Cg m u=(A0 (⟨(⟨m.d.plan,m.d.mode,m.d.stack,(⟨0,0⟩:Scn),m.d.start,m.d.at_,m.d.field,m.d.wire,u,m.d.utf,m.d.end_⟩:Dcd),m.out⟩:Mac) 6 m.d.start):=?_;?_
 rotate_left
 exact⟨rfl,Q5⟩
 refine⟨(Ae Q2 Q2),(E1 (⟨(⟨m.d.plan,m.d.mode,m.d.stack,(⟨0,0⟩:Scn),m.d.start,m.d.at_,m.d.field,m.d.wire,u,m.d.utf,m.d.end_⟩:Dcd),m.out⟩:Mac) (⟨6,m.d.field.number,0,u,[],0,0⟩:Ev) Q7),(Bm (l:=m.d.stack) (i:=Int.toNat (((List.length m.d.stack:Nat):Int)-1)) Q2),fun x1 hx1=>?_⟩
 have hll:=Hs (d:=m.d) (by rw[←hx1];congr 1;omega)
 have hix:Int.toNat ((m.d.stack.length:Int)-1)=m.d.stack.length-1:=by omega
 refine⟨(Ae Q2 Q2),(Ae Q2 Q2),Q2,Q2,Q2,Q2,hx1,hx1,(Ae Q2 Q2),(Ae Q2 Q2),(Ae Q2 Q2),(Ae Q2 Q2),Q2,Q2,Q2,Q2,hx1,(Ae Q2 Q2),(Ae Q2 Q2),Q69,(D0 (⟨(⟨m.d.plan,2,(List.set m.d.stack (Int.toNat (((List.length m.d.stack:Nat):Int)-1)) (⟨x1.msg,x1.left-u⟩:Lev))++[(⟨m.d.field.msg,u⟩:Lev)],(⟨0,0⟩:Scn),m.d.start,m.d.at_,m.d.field,m.d.wire,0,m.d.utf,m.d.end_⟩:Dcd),m.out++[(⟨6,m.d.field.number,0,u,[],0,0⟩:Ev)]⟩:Mac) (Q13) Q15),?_⟩
 refine have hm1:Cg m u=(Ac (⟨(⟨m.d.plan,2,(List.set m.d.stack (Int.toNat (((List.length m.d.stack:Nat):Int)-1)) (⟨x1.msg,x1.left-u⟩:Lev))++[(⟨m.d.field.msg,u⟩:Lev)],(⟨0,0⟩:Scn),m.d.start,m.d.at_,m.d.field,m.d.wire,0,m.d.utf,m.d.end_⟩:Dcd),m.out++[(⟨6,m.d.field.number,0,u,[],0,0⟩:Ev)]⟩:Mac)):=?_;?_
 rotate_left
 exact⟨rfl,Q5⟩
 refine dsp (fun h5 p5=>?_) fun h5 p5=>?_
 refine⟨(Ae Q2 Q2),(E1 (⟨(⟨m.d.plan,m.d.mode,m.d.stack,(⟨0,0⟩:Scn),m.d.start,m.d.at_,m.d.field,m.d.wire,u,m.d.utf,m.d.end_⟩:Dcd),m.out⟩:Mac) (⟨3,m.d.field.number,0,u,[],0,0⟩:Ev) Q7),(D0 (⟨(⟨m.d.plan,6,m.d.stack,(⟨0,0⟩:Scn),m.d.start,m.d.at_,m.d.field,m.d.wire,u,(⟨0,0,0⟩:Utf),m.d.end_⟩:Dcd),m.out++[(⟨3,m.d.field.number,0,u,[],0,0⟩:Ev)]⟩:Mac) (Q13) Q15),?_⟩
 refine have hm1:Cg m u=(Ac (⟨(⟨m.d.plan,6,m.d.stack,(⟨0,0⟩:Scn),m.d.start,m.d.at_,m.d.field,m.d.wire,u,(⟨0,0,0⟩:Utf),m.d.end_⟩:Dcd),m.out++[(⟨3,m.d.field.number,0,u,[],0,0⟩:Ev)]⟩:Mac)):=?_;?_
 rotate_left
 exact⟨rfl,Q5⟩
 refine dsp (fun h6 p6=>?_) fun h6 p6=>?_
 refine⟨(Ae Q2 Q2),(E1 (⟨(⟨m.d.plan,m.d.mode,m.d.stack,(⟨0,0⟩:Scn),m.d.start,m.d.at_,m.d.field,m.d.wire,u,m.d.utf,m.d.end_⟩:Dcd),m.out⟩:Mac) (⟨3,m.d.field.number,0,u,[],0,0⟩:Ev) Q7),(D0 (⟨(⟨m.d.plan,6,m.d.stack,(⟨0,0⟩:Scn),m.d.start,m.d.at_,m.d.field,m.d.wire,u,(⟨0,0,0⟩:Utf),m.d.end_⟩:Dcd),m.out++[(⟨3,m.d.field.number,0,u,[],0,0⟩:Ev)]⟩:Mac) (Q13) Q15),?_⟩
 refine have hm1:Cg m u=(Ac (⟨(⟨m.d.plan,6,m.d.stack,(⟨0,0⟩:Scn),m.d.start,m.d.at_,m.d.field,m.d.wire,u,(⟨0,0,0⟩:Utf),m.d.end_⟩:Dcd),m.out++[(⟨3,m.d.field.number,0,u,[],0,0⟩:Ev)]⟩:Mac)):=?_;?_
 rotate_left
 exact⟨rfl,Q5⟩
 refine⟨(W6 _),(E0 _),dsp (fun h7 p7=>?_) fun h7 p7=>?_⟩
 refine dsp (fun h8 p8=>?_) fun h8 p8=>?_
 refine⟨(Bv Q2 Q2),dsp (fun h9 p9=>?_) fun h9 p9=>?_⟩
 refine⟨(B4 (⟨(⟨m.d.plan,8,m.d.stack,(⟨0,0⟩:Scn),m.d.start,m.d.at_,m.d.field,m.d.wire,u,m.d.utf,m.d.end_⟩:Dcd),m.out⟩:Mac) _ _ Q7),?_⟩
 refine have hm1:Cg m u=(A0 (⟨(⟨m.d.plan,8,m.d.stack,(⟨0,0⟩:Scn),m.d.start,m.d.at_,m.d.field,m.d.wire,u,m.d.utf,m.d.end_⟩:Dcd),m.out⟩:Mac) 9 m.d.at_):=?_;?_
 rotate_left
 exact⟨rfl,Q5⟩
 refine⟨(D0 (⟨(⟨m.d.plan,8,m.d.stack,(⟨0,0⟩:Scn),m.d.start,m.d.at_,m.d.field,m.d.wire,u,m.d.utf,m.d.end_⟩:Dcd),m.out⟩:Mac) (Q13) Q7),?_⟩
 refine have hm1:Cg m u=(Ac (⟨(⟨m.d.plan,8,m.d.stack,(⟨0,0⟩:Scn),m.d.start,m.d.at_,m.d.field,m.d.wire,u,m.d.utf,m.d.end_⟩:Dcd),m.out⟩:Mac)):=?_;?_
 rotate_left
 exact⟨rfl,Q5⟩
 refine⟨(D0 (⟨(⟨m.d.plan,8,m.d.stack,(⟨0,0⟩:Scn),m.d.start,m.d.at_,m.d.field,m.d.wire,u,m.d.utf,m.d.end_⟩:Dcd),m.out⟩:Mac) (Q13) Q7),?_⟩
 refine have hm1:Cg m u=(Ac (⟨(⟨m.d.plan,8,m.d.stack,(⟨0,0⟩:Scn),m.d.start,m.d.at_,m.d.field,m.d.wire,u,m.d.utf,m.d.end_⟩:Dcd),m.out⟩:Mac)):=?_;?_
 rotate_left
 exact⟨rfl,Q5⟩
 refine⟨(D0 (⟨(⟨m.d.plan,8,m.d.stack,(⟨0,0⟩:Scn),m.d.start,m.d.at_,m.d.field,m.d.wire,u,m.d.utf,m.d.end_⟩:Dcd),m.out⟩:Mac) (Q13) Q7),?_⟩
 refine have hm1:Cg m u=(Ac (⟨(⟨m.d.plan,8,m.d.stack,(⟨0,0⟩:Scn),m.d.start,m.d.at_,m.d.field,m.d.wire,u,m.d.utf,m.d.end_⟩:Dcd),m.out⟩:Mac)):=?_;?_
 rotate_left
 exact⟨rfl,Q5⟩
 all_goals first|((have e0:m.d.field≠fld0:=(fun h=>by have:=congrArg Fld.kind h;simp only[fld0] at this;omega);have e1: ¬(m.d.stack.length=0∨Dh m.d<u):=(by omega);have e2: ¬m.d.plan.deep≤(m.d.stack.length:Int):=(by omega);unfold Cg;rw[if_neg e1,if_neg e0,if_pos (by assumption),if_neg e2,hll.1,hll.2,hix];rfl))|(simp_all[Cg,A0,A1,Zm,Zn,Ct,Fq,utf0,scn0];done)|(grind[Cg,A0,A1,Zm,Zn,Ct,Fq,utf0,scn0])
theorem Zq (m:Mac) (u:Int) (hp1:List.length (m).out≤100000000) (hp2:(0:Int)≤u∧u≤18446744073709551615):Fun Tryz.prog 176 [vP 0,.c (.int .u64 u)] [.cells (Ab 1 2 3 m),.tree m.d.plan.shapes,.lst .lev m.d.stack,.lst .ev m.out] (.tup []) [.cells (Ab 1 2 4 (Bn m u)),.tree (Bn m u).d.plan.shapes,.lst .lev (Bn m u).d.stack,.dead,.lst .ev (Bn m u).out]:=by
 have hN:Bg=274877906944:=rfl
 refine Ar Tryz.func176 Q4 Q4 (w:=let zi:Int→C:= .int .i64;let z1:List C:=[.own 1,zi m.d.plan.root,zi m.d.plan.deep,zi m.d.plan.most,zi 2,.own 2,.int .u64 m.d.scan.bits,zi m.d.scan.have_,zi m.d.start,zi m.d.at_,zi m.d.field.number,zi m.d.field.kind,.bool m.d.field.rep,.bool m.d.field.packed,zi m.d.field.msg,zi m.d.wire,zi m.d.want,zi m.d.utf.want,zi m.d.utf.low,zi m.d.utf.high,zi m.d.end_.kind,zi m.d.end_.field,.int .u64 m.d.end_.bits,zi m.d.end_.len,.str m.d.end_.text,zi m.d.end_.code,zi m.d.end_.at_,.own 4];let z2:= !(decide (m.d.field.number=0)&&(decide (m.d.field.kind=0)&&(decide (m.d.field.rep=false)&&(decide (m.d.field.packed=false)&&decide (m.d.field.msg=0)))));let z3:List Blk:=[.cells (Ab 1 2 4 (Bn m u)),.tree (Bn m u).d.plan.shapes,.lst .lev (Bn m u).d.stack,.dead,.lst .ev (Bn m u).out];let z6:=Eu m.d.field u;let z4:List Blk:=[.cells (Ab 1 2 4 m),.tree (m).d.plan.shapes,.lst .lev (m).d.stack,.dead,.lst .ev ((m).out++[z6])];let z5:List Blk:=[.cells z1,.tree m.d.plan.shapes,.lst .lev m.d.stack,.dead,.lst .ev (m.out++[z6])];let z7:=(.tup []:S);(.br (.br (.seg [.call [] (.v (.agg (cEv z6))) [],.call [0,1,2,3] (.tup []) z5] (.leaf () [0,1,2,3,4])) (.seg [.at 0,.cut 0 27] (.leaf () [0,1,2,3,4]))) (.br (.seg [.call [] (.v (.agg (cEv z6))) [],.call [0,1,2,3] (.tup []) z4] (.leaf () [0,1,2,3,4])) (.seg [.at 0,.cut 0 27] (.leaf () [0,1,2,3,4]))),((!decide (m.d.mode=8))=true→(z2=true→(Fun Tryz.prog 163 [.agg (Fm m.d.field),.c (.int .u64 u)] [] (.v (.agg (cEv z6))) [])∧(Fun Tryz.prog 93 [vP 0,.agg (cEv z6)] [.cells [.own 1,zi m.d.plan.root,zi m.d.plan.deep,zi m.d.plan.most,zi 2,.own 2,.int .u64 m.d.scan.bits,zi m.d.scan.have_,zi m.d.start,zi m.d.at_,zi m.d.field.number,zi m.d.field.kind,.bool m.d.field.rep,.bool m.d.field.packed,zi m.d.field.msg,zi m.d.wire,zi m.d.want,zi m.d.utf.want,zi m.d.utf.low,zi m.d.utf.high,zi m.d.end_.kind,zi m.d.end_.field,.int .u64 m.d.end_.bits,zi m.d.end_.len,.str m.d.end_.text,zi m.d.end_.code,zi m.d.end_.at_,.own 3],.tree m.d.plan.shapes,.lst .lev m.d.stack,.lst .ev m.out] (.tup []) z5)∧z7= .tup []∧(z5:List Blk)=z3)∧(z2=false→z7= .tup []∧([.cells z1,.tree m.d.plan.shapes,.lst .lev m.d.stack,.dead,.lst .ev m.out]:List Blk)=z3))∧((!decide (m.d.mode=8))=false→(z2=true→(Fun Tryz.prog 163 [.agg (Fm m.d.field),.c (.int .u64 u)] [] (.v (.agg (cEv z6))) [])∧(Fun Tryz.prog 93 [vP 0,.agg (cEv z6)] [.cells (Ab 1 2 3 m),.tree m.d.plan.shapes,.lst .lev m.d.stack,.lst .ev m.out] (.tup []) z4)∧z7= .tup []∧(z4:List Blk)=z3)∧(z2=false→z7= .tup []∧([.cells (Ab 1 2 4 m),.tree m.d.plan.shapes,.lst .lev m.d.stack,.dead,.lst .ev m.out]:List Blk)=z3)))) Q4 ?_
 refine⟨fun h1=>have q1:=Ap h1;have p1:=of_decide_eq_false q1;?_,fun h1=>have q1:=Ao h1;have p1:=of_decide_eq_true q1;?_⟩
 refine⟨fun h2=>have q2:=Ap h2;have p2:=(Cd dT (Cd dT (Cd dT (Cd dT dF)))).1 q2;?_,fun h2=>have q2:=Ao h2;have p2:=(Cc dT (Cc dT (Cc dT (Cc dT dT)))).1 q2;?_⟩
 refine⟨(V4 m.d.field _ Q2),(E1 (⟨(⟨m.d.plan,2,m.d.stack,m.d.scan,m.d.start,m.d.at_,m.d.field,m.d.wire,m.d.want,m.d.utf,m.d.end_⟩:Dcd),m.out⟩:Mac) (Eu m.d.field u) Q7),?_⟩
 refine have hm1:Bn m u=(⟨(⟨m.d.plan,2,m.d.stack,m.d.scan,m.d.start,m.d.at_,m.d.field,m.d.wire,m.d.want,m.d.utf,m.d.end_⟩:Dcd),m.out++[(Eu m.d.field u)]⟩:Mac):=?_;?_
 rotate_left
 exact⟨rfl,Q5⟩
 refine have hm1:Bn m u=(⟨(⟨m.d.plan,2,m.d.stack,m.d.scan,m.d.start,m.d.at_,m.d.field,m.d.wire,m.d.want,m.d.utf,m.d.end_⟩:Dcd),m.out⟩:Mac):=?_;?_
 rotate_left
 exact⟨rfl,Q5⟩
 refine⟨fun h2=>have q2:=Ap h2;have p2:=(Cd dT (Cd dT (Cd dT (Cd dT dF)))).1 q2;?_,fun h2=>have q2:=Ao h2;have p2:=(Cc dT (Cc dT (Cc dT (Cc dT dT)))).1 q2;?_⟩
 refine⟨(V4 m.d.field _ Q2),(E1 m (Eu m.d.field u) Q2),?_⟩
 refine have hm1:Bn m u=(⟨(m).d,(m).out++[(Eu m.d.field u)]⟩:Mac):=?_;?_
 rotate_left
 exact⟨rfl,Q5⟩
 refine have hm1:Bn m u=m:=?_;?_
 rotate_left
 exact⟨rfl,Q5⟩
 all_goals first|(simp_all[Bn,Ct];done)|((cases m with|mk d o=>cases d;simp_all[Bn,Ct];done))|((cases m with|mk d o=>cases d;grind[Bn,Ct]))|(grind[Bn,Ct])
theorem Aaz (b:Int):Fun Tryz.prog 56 [vI b] [] (.v (vB (Am b 0 255))) []:=by
 have hN:Bg=274877906944:=rfl
 refine Ar Tryz.func56 Q4 Q4 (w:=let z1:=vB (Am b 0 255);(.seg [.call [] (.v z1) []] (.leaf () []),(Fun Tryz.prog 79 [vI b,vI 0,vI 255] [] (.v z1) [])∧(.v z1:S)= .v z1∧([]:List Blk)=[])) Q4 ?_
 exact⟨(B7 _ _ _),rfl,rfl⟩
theorem K3 (s:Scn) (b:Int) (hp1:(0:Int)≤(s).bits∧(s).bits≤18446744073709551615):Fun Tryz.prog 177 [.agg (J0 s),vI b] [] (.tup [.agg (J0 (Af s b).1),vI (Af s b).2]) []:=by
 have hN:Bg=274877906944:=rfl
 refine Ar Tryz.func177 Q4 Q4 (w:=let z1:=s.bits+(b % 128)*2 ^ (7*Int.toNat s.have_);let z2:=(b % 128)*2 ^ (7*Int.toNat s.have_);let z5:=(.v (.c (.int .u64 (IntKind.u64.wrap (((BitVec.ofInt 64 s.bits|||BitVec.ofInt 64 z2).toNat:Nat))))):S)= .v (.c (.int .u64 z1));let z6:=7*s.have_;let z7:=(.v (vI (IntKind.i64.wrap (((BitVec.ofInt 64 b&&&BitVec.ofInt 64 127).toNat:Nat)))):S)= .v (vI (b % 128));let z8:=(.v (.c (.int .u64 (IntKind.u64.wrap ((b % 128)*2 ^ min (Int.toNat z6) 64)))):S)= .v (.c (.int .u64 z2));let z9:=Af s b;let z10:=(.v (.c (.int .u64 (IntKind.u64.wrap (b % 128)))):S)= .v (.c (.int .u64 (b % 128)));let z11:=(.v (.c (.int .u64 (IntKind.u64.wrap z6))):S)= .v (.c (.int .u64 z6));let z12:=s.have_+1;let z13:=(.tup [.agg (J0 s),vI 2]:S);let z14:=(.v (vI (IntKind.i64.wrap z12)):S)= .v (vI z12);let z15:=([]:List Blk);let z16:=(.v (vI (IntKind.i64.wrap z6)):S)= .v (vI z6);let z17:=Am b 0 255;let z18:=J0 z9.1;let z3:=(decide (b<128))=false→(.tup [.agg [.int .u64 z1,.int .i64 z12],vI 0]:S)= .tup [.agg z18,vI z9.2]∧z15=[];let z4:=(decide (b<128))=true→(.tup [.agg [.int .u64 z1,.int .i64 z12],vI 1]:S)= .tup [.agg z18,vI z9.2]∧z15=[];(.seg [.call [] (.v (vB (C7 s))) []] (.br (.leaf () []) (.seg [.call [] (.v (vB z17)) []] (.br (.leaf () []) (.br (.br (.leaf () []) (.seg [.as 28 (.v (vI (b % 128))),.as 29 (.v (.c (.int .u64 (b % 128)))),.as 32 (.v (vI z6)),.as 33 (.v (.c (.int .u64 z6))),.as 34 (.v (.c (.int .u64 z2))),.as 35 (.v (.c (.int .u64 z1))),.as 38 (.v (vI z12))] (.br (.leaf () []) (.leaf () [])))) (.seg [.as 28 (.v (vI (b % 128))),.as 29 (.v (.c (.int .u64 (b % 128)))),.as 32 (.v (vI z6)),.as 33 (.v (.c (.int .u64 z6))),.as 34 (.v (.c (.int .u64 z2))),.as 35 (.v (.c (.int .u64 z1))),.as 38 (.v (vI z12))] (.br (.leaf () []) (.leaf () []))))))),(Fun Tryz.prog 147 [.agg (J0 s)] [] (.v (vB (C7 s))) [])∧((!(C7 s))=true→z13= .tup [.agg z18,vI z9.2]∧z15=[])∧((!(C7 s))=false→(Fun Tryz.prog 56 [vI b] [] (.v (vB z17)) [])∧((!z17)=true→z13= .tup [.agg z18,vI z9.2]∧z15=[])∧((!z17)=false→((decide (s.have_=9))=true→((decide (1<b))=true→z13= .tup [.agg z18,vI z9.2]∧z15=[])∧((decide (1<b))=false→z7∧z10∧z16∧z11∧((0:Int)≤7*s.have_)∧z8∧z5∧z14∧z4∧z3))∧((decide (s.have_=9))=false→z7∧z10∧z16∧z11∧((0:Int)≤7*s.have_)∧z8∧z5∧z14∧z4∧z3))))) Q4 ?_
 refine⟨(Aax s),fun h1=>have q1:=Ap h1;?_,fun h1=>have q1:=Ao h1;?_⟩
 refine have hm1:(Af s b).1=s:=?_;?_
 rotate_left
 refine⟨(congrArg S.tup (Ah (congrArg V.agg (Ah (congrArg (C.int .u64) ?_) (Ah (congrArg (C.int .i64) ?_) rfl))) (Ah (congrArg V.c (congrArg (C.int .i64) ?_)) rfl))),rfl⟩
 rotate_left 3
 have hsk:=Tc q1 hp1.1
 refine⟨(Aaz _),fun h2=>have q2:=Ap h2;have p2:=Az q2;?_,fun h2=>have q2:=Ao h2;have p2:=As q2;?_⟩
 refine have hm1:(Af s b).1=s:=?_;?_
 rotate_left
 refine⟨(congrArg S.tup (Ah (congrArg V.agg (Ah (congrArg (C.int .u64) ?_) (Ah (congrArg (C.int .i64) ?_) rfl))) (Ah (congrArg V.c (congrArg (C.int .i64) ?_)) rfl))),rfl⟩
 rotate_left 3
 refine dsp (fun h3 p3=>?_) fun h3 p3=>?_
 refine dsp (fun h4 p4=>?_) fun h4 p4=>?_
 refine have hm1:(Af s b).1=s:=?_;?_
 rotate_left
 refine⟨(congrArg S.tup (Ah (congrArg V.agg (Ah (congrArg (C.int .u64) ?_) (Ah (congrArg (C.int .i64) ?_) rfl))) (Ah (congrArg V.c (congrArg (C.int .i64) ?_)) rfl))),rfl⟩
 rotate_left 3
 refine⟨(Fo (k:=7) Q24 Q24),(Bv Q2 Q2),(Ae Q2 Q2),(Bv Q2 Q2),Q2,(Ra Q2 Q2 Q2 Q2 Q2),(Aat Q2 Q2 Q2 Q2 Q2 Q2 Q2),(Ae Q2 Q2),dsp (fun h5 p5=>?_) fun h5 p5=>?_⟩
 refine have hm1:(Af s b).1=(⟨s.bits+(b % 128)*2 ^ (7*Int.toNat s.have_),s.have_+1⟩:Scn):=?_;?_
 rotate_left
 refine⟨(congrArg S.tup (Ah (congrArg V.agg (Ah (congrArg (C.int .u64) ?_) (Ah (congrArg (C.int .i64) ?_) rfl))) (Ah (congrArg V.c (congrArg (C.int .i64) ?_)) rfl))),rfl⟩
 rotate_left 3
 refine have hm1:(Af s b).1=(⟨s.bits+(b % 128)*2 ^ (7*Int.toNat s.have_),s.have_+1⟩:Scn):=?_;?_
 rotate_left
 refine⟨(congrArg S.tup (Ah (congrArg V.agg (Ah (congrArg (C.int .u64) ?_) (Ah (congrArg (C.int .i64) ?_) rfl))) (Ah (congrArg V.c (congrArg (C.int .i64) ?_)) rfl))),rfl⟩
 rotate_left 3
 refine⟨(Fo (k:=7) Q24 Q24),(Bv Q2 Q2),(Ae Q2 Q2),(Bv Q2 Q2),Q2,(Ra Q2 Q2 Q2 Q2 Q2),(Aat Q2 Q2 Q2 Q2 Q2 Q2 Q2),(Ae Q2 Q2),dsp (fun h4 p4=>?_) fun h4 p4=>?_⟩
 refine have hm1:(Af s b).1=(⟨s.bits+(b % 128)*2 ^ (7*Int.toNat s.have_),s.have_+1⟩:Scn):=?_;?_
 rotate_left
 refine⟨(congrArg S.tup (Ah (congrArg V.agg (Ah (congrArg (C.int .u64) ?_) (Ah (congrArg (C.int .i64) ?_) rfl))) (Ah (congrArg V.c (congrArg (C.int .i64) ?_)) rfl))),rfl⟩
 rotate_left 3
 refine have hm1:(Af s b).1=(⟨s.bits+(b % 128)*2 ^ (7*Int.toNat s.have_),s.have_+1⟩:Scn):=?_;?_
 rotate_left
 refine⟨(congrArg S.tup (Ah (congrArg V.agg (Ah (congrArg (C.int .u64) ?_) (Ah (congrArg (C.int .i64) ?_) rfl))) (Ah (congrArg V.c (congrArg (C.int .i64) ?_)) rfl))),rfl⟩
 rotate_left 3
 all_goals first|(simp_all[Af];done)|(grind[Af])
theorem Jd (s:Scn) (b:Int) (hp1:(0:Int)≤(s).bits∧(s).bits≤18446744073709551615):Fun Tryz.prog 129 [.agg (J0 s),vI b] [] (.tup [.agg (J0 (Af s b).1),vI (Af s b).2]) []:=by
 have hN:Bg=274877906944:=rfl
 refine Ar Tryz.func129 Q4 Q4 (w:=let z1:=s.bits+(b % 128)*2 ^ (7*Int.toNat s.have_);let z2:=(b % 128)*2 ^ (7*Int.toNat s.have_);let z5:=7*s.have_;let z6:=(.v (.c (.int .u64 (IntKind.u64.wrap ((b % 128)*2 ^ min (Int.toNat z5) 64)))):S)= .v (.c (.int .u64 z2));let z7:=Af s b;let z8:=(.v (.c (.int .u64 (IntKind.u64.wrap (b % 128)))):S)= .v (.c (.int .u64 (b % 128)));let z9:=(.v (.c (.int .u64 (IntKind.u64.wrap (s.bits+z2)))):S)= .v (.c (.int .u64 z1));let z10:=(.v (.c (.int .u64 (IntKind.u64.wrap z5))):S)= .v (.c (.int .u64 z5));let z11:=s.have_+1;let z12:=(.tup [.agg (J0 s),vI 2]:S);let z13:=(.v (vI (Int.tmod b 128)):S)= .v (vI (b % 128));let z14:=(.v (vI (IntKind.i64.wrap z11)):S)= .v (vI z11);let z15:=([]:List Blk);let z16:=(.v (vI (IntKind.i64.wrap z5)):S)= .v (vI z5);let z17:=Am b 0 255;let z18:=J0 z7.1;let z3:=(decide (b<128))=false→(.tup [.agg [.int .u64 z1,.int .i64 z11],vI 0]:S)= .tup [.agg z18,vI z7.2]∧z15=[];let z4:=(decide (b<128))=true→(.tup [.agg [.int .u64 z1,.int .i64 z11],vI 1]:S)= .tup [.agg z18,vI z7.2]∧z15=[];(.seg [.call [] (.v (vB (C7 s))) []] (.br (.leaf () []) (.seg [.call [] (.v (vB z17)) []] (.br (.leaf () []) (.br (.br (.leaf () []) (.seg [.as 28 (.v (vI (b % 128))),.as 29 (.v (.c (.int .u64 (b % 128)))),.as 32 (.v (vI z5)),.as 33 (.v (.c (.int .u64 z5))),.as 34 (.v (.c (.int .u64 z2))),.as 35 (.v (.c (.int .u64 z1))),.as 38 (.v (vI z11))] (.br (.leaf () []) (.leaf () [])))) (.seg [.as 28 (.v (vI (b % 128))),.as 29 (.v (.c (.int .u64 (b % 128)))),.as 32 (.v (vI z5)),.as 33 (.v (.c (.int .u64 z5))),.as 34 (.v (.c (.int .u64 z2))),.as 35 (.v (.c (.int .u64 z1))),.as 38 (.v (vI z11))] (.br (.leaf () []) (.leaf () []))))))),(Fun Tryz.prog 136 [.agg (J0 s)] [] (.v (vB (C7 s))) [])∧((!(C7 s))=true→z12= .tup [.agg z18,vI z7.2]∧z15=[])∧((!(C7 s))=false→(Fun Tryz.prog 59 [vI b,vI 0,vI 255] [] (.v (vB z17)) [])∧((!z17)=true→z12= .tup [.agg z18,vI z7.2]∧z15=[])∧((!z17)=false→((decide (s.have_=9))=true→((decide (1<b))=true→z12= .tup [.agg z18,vI z7.2]∧z15=[])∧((decide (1<b))=false→((128:Int)≠0)∧z13∧z8∧z16∧z10∧((0:Int)≤7*s.have_)∧z6∧z9∧z14∧z4∧z3))∧((decide (s.have_=9))=false→((128:Int)≠0)∧z13∧z8∧z16∧z10∧((0:Int)≤7*s.have_)∧z6∧z9∧z14∧z4∧z3))))) Q4 ?_
 refine⟨(Tg s),fun h1=>have q1:=Ap h1;?_,fun h1=>have q1:=Ao h1;?_⟩
 refine have hm1:(Af s b).1=s:=?_;?_
 rotate_left
 refine⟨(congrArg S.tup (Ah (congrArg V.agg (Ah (congrArg (C.int .u64) ?_) (Ah (congrArg (C.int .i64) ?_) rfl))) (Ah (congrArg V.c (congrArg (C.int .i64) ?_)) rfl))),rfl⟩
 rotate_left 3
 have hsk:=Tc q1 hp1.1
 refine⟨(Ba _ _ _),fun h2=>have q2:=Ap h2;have p2:=Az q2;?_,fun h2=>have q2:=Ao h2;have p2:=As q2;?_⟩
 refine have hm1:(Af s b).1=s:=?_;?_
 rotate_left
 refine⟨(congrArg S.tup (Ah (congrArg V.agg (Ah (congrArg (C.int .u64) ?_) (Ah (congrArg (C.int .i64) ?_) rfl))) (Ah (congrArg V.c (congrArg (C.int .i64) ?_)) rfl))),rfl⟩
 rotate_left 3
 refine dsp (fun h3 p3=>?_) fun h3 p3=>?_
 refine dsp (fun h4 p4=>?_) fun h4 p4=>?_
 refine have hm1:(Af s b).1=s:=?_;?_
 rotate_left
 refine⟨(congrArg S.tup (Ah (congrArg V.agg (Ah (congrArg (C.int .u64) ?_) (Ah (congrArg (C.int .i64) ?_) rfl))) (Ah (congrArg V.c (congrArg (C.int .i64) ?_)) rfl))),rfl⟩
 rotate_left 3
 refine⟨Q24,(Wx Q2),(Bv Q2 Q2),(Ae Q2 Q2),(Bv Q2 Q2),Q2,(Ra Q2 Q2 Q2 Q2 Q2),(X7 Q2 Q2 Q2 Q2 Q2 Q2 Q2),(Ae Q2 Q2),dsp (fun h5 p5=>?_) fun h5 p5=>?_⟩
 refine have hm1:(Af s b).1=(⟨s.bits+(b % 128)*2 ^ (7*Int.toNat s.have_),s.have_+1⟩:Scn):=?_;?_
 rotate_left
 refine⟨(congrArg S.tup (Ah (congrArg V.agg (Ah (congrArg (C.int .u64) ?_) (Ah (congrArg (C.int .i64) ?_) rfl))) (Ah (congrArg V.c (congrArg (C.int .i64) ?_)) rfl))),rfl⟩
 rotate_left 3
 refine have hm1:(Af s b).1=(⟨s.bits+(b % 128)*2 ^ (7*Int.toNat s.have_),s.have_+1⟩:Scn):=?_;?_
 rotate_left
 refine⟨(congrArg S.tup (Ah (congrArg V.agg (Ah (congrArg (C.int .u64) ?_) (Ah (congrArg (C.int .i64) ?_) rfl))) (Ah (congrArg V.c (congrArg (C.int .i64) ?_)) rfl))),rfl⟩
 rotate_left 3
 refine⟨Q24,(Wx Q2),(Bv Q2 Q2),(Ae Q2 Q2),(Bv Q2 Q2),Q2,(Ra Q2 Q2 Q2 Q2 Q2),(X7 Q2 Q2 Q2 Q2 Q2 Q2 Q2),(Ae Q2 Q2),dsp (fun h4 p4=>?_) fun h4 p4=>?_⟩
 refine have hm1:(Af s b).1=(⟨s.bits+(b % 128)*2 ^ (7*Int.toNat s.have_),s.have_+1⟩:Scn):=?_;?_
 rotate_left
 refine⟨(congrArg S.tup (Ah (congrArg V.agg (Ah (congrArg (C.int .u64) ?_) (Ah (congrArg (C.int .i64) ?_) rfl))) (Ah (congrArg V.c (congrArg (C.int .i64) ?_)) rfl))),rfl⟩
 rotate_left 3
 refine have hm1:(Af s b).1=(⟨s.bits+(b % 128)*2 ^ (7*Int.toNat s.have_),s.have_+1⟩:Scn):=?_;?_
 rotate_left
 refine⟨(congrArg S.tup (Ah (congrArg V.agg (Ah (congrArg (C.int .u64) ?_) (Ah (congrArg (C.int .i64) ?_) rfl))) (Ah (congrArg V.c (congrArg (C.int .i64) ?_)) rfl))),rfl⟩
 rotate_left 3
 all_goals first|(simp_all[Af];done)|(grind[Af])
theorem Aen (s:Scn) (b:Int):Fun Tryz.prog 175 [.agg (J0 s),vI b] [] (.v (.agg (J0 (Br s b)))) []:=by
 have hN:Bg=274877906944:=rfl
 refine Ar Tryz.func175 Q4 Q4 (w:=let z1:=8*s.have_;let z2:=Am s.have_ 0 7;let z3:=Am b 0 255;let z4:=J0 (Br s b);let z5:=s.have_+1;(.seg [.call [] (.v (vB z2)) []] (.br (.leaf () []) (.seg [.call [] (.v (vB z3)) []] (.br (.leaf () []) (.seg [.as 18 (.v (.c (.int .u64 b))),.as 21 (.v (vI z1)),.as 22 (.v (.c (.int .u64 z1))),.as 27 (.v (vI z5))] (.leaf () []))))),(Fun Tryz.prog 79 [vI s.have_,vI 0,vI 7] [] (.v (vB z2)) [])∧((!z2)=true→(.v (.agg (J0 s)):S)= .v (.agg z4)∧([]:List Blk)=[])∧((!z2)=false→(Fun Tryz.prog 56 [vI b] [] (.v (vB z3)) [])∧((!z3)=true→(.v (.agg (J0 s)):S)= .v (.agg z4)∧([]:List Blk)=[])∧((!z3)=false→((.v (.c (.int .u64 (IntKind.u64.wrap (b)))):S)= .v (.c (.int .u64 b)))∧((.v (vI (IntKind.i64.wrap z1)):S)= .v (vI z1))∧((.v (.c (.int .u64 (IntKind.u64.wrap z1))):S)= .v (.c (.int .u64 z1)))∧((0:Int)≤8*s.have_)∧((.v (vI (IntKind.i64.wrap z5)):S)= .v (vI z5))∧(.v (.agg [.int .u64 (IntKind.u64.wrap (s.bits+(IntKind.u64.wrap (b*2 ^ min (Int.toNat z1) 64)))),.int .i64 z5]):S)= .v (.agg z4)∧([]:List Blk)=[])))) Q4 ?_
 refine⟨(B7 _ _ _),fun h1=>have q1:=Ap h1;have p1:=Az q1;?_,fun h1=>have q1:=Ao h1;have p1:=As q1;?_⟩
 refine have hm1:Br s b=s:=?_;?_
 rotate_left
 exact⟨Q5,rfl⟩
 refine⟨(Aaz _),fun h2=>have q2:=Ap h2;have p2:=Az q2;?_,fun h2=>have q2:=Ao h2;have p2:=As q2;?_⟩
 refine have hm1:Br s b=s:=?_;?_
 rotate_left
 exact⟨Q5,rfl⟩
 refine⟨(Bv Q2 Q2),(Ae Q2 Q2),(Bv Q2 Q2),Q2,(Ae Q2 Q2),?_⟩
 refine have hm1:Br s b=(⟨IntKind.u64.wrap (s.bits+(IntKind.u64.wrap (b*2 ^ min (Int.toNat (8*s.have_)) 64))),s.have_+1⟩:Scn):=?_;?_
 rotate_left
 exact⟨Q5,rfl⟩
 all_goals first|(simp_all[Br];done)|(grind[Br])
theorem Aeo (s:Scn) (b:Int):Fun Tryz.prog 126 [.agg (J0 s),vI b] [] (.v (.agg (J0 (Br s b)))) []:=by
 have hN:Bg=274877906944:=rfl
 refine Ar Tryz.func126 Q4 Q4 (w:=let z1:=8*s.have_;let z2:=Am s.have_ 0 7;let z3:=Am b 0 255;let z4:=J0 (Br s b);let z5:=s.have_+1;(.seg [.call [] (.v (vB z2)) []] (.br (.leaf () []) (.seg [.call [] (.v (vB z3)) []] (.br (.leaf () []) (.seg [.as 18 (.v (.c (.int .u64 b))),.as 21 (.v (vI z1)),.as 22 (.v (.c (.int .u64 z1))),.as 27 (.v (vI z5))] (.leaf () []))))),(Fun Tryz.prog 59 [vI s.have_,vI 0,vI 7] [] (.v (vB z2)) [])∧((!z2)=true→(.v (.agg (J0 s)):S)= .v (.agg z4)∧([]:List Blk)=[])∧((!z2)=false→(Fun Tryz.prog 59 [vI b,vI 0,vI 255] [] (.v (vB z3)) [])∧((!z3)=true→(.v (.agg (J0 s)):S)= .v (.agg z4)∧([]:List Blk)=[])∧((!z3)=false→((.v (.c (.int .u64 (IntKind.u64.wrap (b)))):S)= .v (.c (.int .u64 b)))∧((.v (vI (IntKind.i64.wrap z1)):S)= .v (vI z1))∧((.v (.c (.int .u64 (IntKind.u64.wrap z1))):S)= .v (.c (.int .u64 z1)))∧((0:Int)≤8*s.have_)∧((.v (vI (IntKind.i64.wrap z5)):S)= .v (vI z5))∧(.v (.agg [.int .u64 (IntKind.u64.wrap (s.bits+(IntKind.u64.wrap (b*2 ^ min (Int.toNat z1) 64)))),.int .i64 z5]):S)= .v (.agg z4)∧([]:List Blk)=[])))) Q4 ?_
 refine⟨(Ba _ _ _),fun h1=>have q1:=Ap h1;have p1:=Az q1;?_,fun h1=>have q1:=Ao h1;have p1:=As q1;?_⟩
 refine have hm1:Br s b=s:=?_;?_
 rotate_left
 exact⟨Q5,rfl⟩
 refine⟨(Ba _ _ _),fun h2=>have q2:=Ap h2;have p2:=Az q2;?_,fun h2=>have q2:=Ao h2;have p2:=As q2;?_⟩
 refine have hm1:Br s b=s:=?_;?_
 rotate_left
 exact⟨Q5,rfl⟩
 refine⟨(Bv Q2 Q2),(Ae Q2 Q2),(Bv Q2 Q2),Q2,(Ae Q2 Q2),?_⟩
 refine have hm1:Br s b=(⟨IntKind.u64.wrap (s.bits+(IntKind.u64.wrap (b*2 ^ min (Int.toNat (8*s.have_)) 64))),s.have_+1⟩:Scn):=?_;?_
 rotate_left
 exact⟨Q5,rfl⟩
 all_goals first|(simp_all[Br];done)|(grind[Br])
theorem Rh (m:Mac) (b:Int) (hp1:MW (m).d) (hp2:List.length (m).out≤50000000) (hp3:(0:Int)≤b∧b≤255):Fun Tryz.prog 123 [vP 0,vI b] [.cells (Ab 1 2 3 m),.tree m.d.plan.shapes,.lst .lev m.d.stack,.lst .ev m.out] (.tup []) [.cells (Ab 4 5 6 (Bo m b ((m).d.at_-1))),.dead,.dead,.dead,.tree (Bo m b ((m).d.at_-1)).d.plan.shapes,.lst .lev (Bo m b ((m).d.at_-1)).d.stack,.lst .ev (Bo m b ((m).d.at_-1)).out]:=by
 have hN:Bg=274877906944:=rfl
 have hlv:=B0 hp1.lv
 have hpt:=B6 hlv.1
 have htb:=Gk hp1.lv
 have hwm:=Acw m
 have hbb:=hp1.b0
 have hat:=hp1.at_
 have hwt:=hp1.want
 have hwd:=Hw m.d
 have hsb:=N9 (b:=b) hbb.1 hbb.2
 refine Ar Tryz.func123 Q4 Q4 (w:=let zi:Int→C:= .int .i64;let z1:List C:=[zi m.d.at_,zi m.d.field.number,zi m.d.field.kind,.bool m.d.field.rep,.bool m.d.field.packed,zi m.d.field.msg,zi m.d.wire,zi m.d.want,zi m.d.utf.want,zi m.d.utf.low,zi m.d.utf.high,zi m.d.end_.kind,zi m.d.end_.field,.int .u64 m.d.end_.bits,zi m.d.end_.len,.str m.d.end_.text,zi m.d.end_.code,zi m.d.end_.at_,.own 3];let z2:List C:=[zi m.d.at_,zi m.d.field.number,zi m.d.field.kind,.bool m.d.field.rep,.bool m.d.field.packed,zi m.d.field.msg,zi m.d.wire,zi m.d.want,zi m.d.utf.want,zi m.d.utf.low,zi m.d.utf.high,zi m.d.end_.kind,zi m.d.end_.field,.int .u64 m.d.end_.bits,zi m.d.end_.len,.str m.d.end_.text,zi m.d.end_.code,zi m.d.end_.at_,.own 6];let z3:List C:=[zi m.d.at_,zi m.d.field.number,zi m.d.field.kind,.bool m.d.field.rep,.bool m.d.field.packed,zi m.d.field.msg,zi m.d.wire,zi m.d.want,zi m.d.utf.want,zi m.d.utf.low,zi m.d.utf.high,zi m.d.end_.kind,zi m.d.end_.field,.int .u64 m.d.end_.bits,zi m.d.end_.len,.str m.d.end_.text,zi m.d.end_.code,zi m.d.end_.at_];let z6:=(⟨m.d.plan,m.d.mode,m.d.stack,(⟨0,0⟩:Scn),m.d.start,m.d.at_,m.d.field,m.d.wire,m.d.want,m.d.utf,m.d.end_⟩:Dcd);let z9:=Af m.d.scan b;let z4:=A0 (⟨(⟨m.d.plan,m.d.mode,m.d.stack,z9.1,m.d.at_-1,m.d.at_,m.d.field,m.d.wire,m.d.want,m.d.utf,m.d.end_⟩:Dcd),m.out⟩:Mac) 9 m.d.at_;let z5:=A0 (⟨(⟨m.d.plan,m.d.mode,m.d.stack,z9.1,m.d.start,m.d.at_,m.d.field,m.d.wire,m.d.want,m.d.utf,m.d.end_⟩:Dcd),m.out⟩:Mac) 9 m.d.at_;let z10:=(⟨m.d.plan,m.d.mode,m.d.stack,(⟨0,0⟩:Scn),m.d.at_-1,m.d.at_,m.d.field,m.d.wire,m.d.want,m.d.utf,m.d.end_⟩:Dcd);let z13:=([.cells (.own 4::zi m.d.plan.root::zi m.d.plan.deep::zi m.d.plan.most::zi m.d.mode:: .own 5:: .int .u64 z9.1.bits::zi z9.1.have_::zi m.d.start::z2),.dead,.dead,.dead,.tree m.d.plan.shapes,.lst .lev m.d.stack,.lst .ev m.out]:List Blk);let z14:=Bn (⟨z6,m.out⟩:Mac) z9.1.bits;let z15:List Blk:=[.cells (Ab 1 2 4 z4),.tree z4.d.plan.shapes,.lst .lev z4.d.stack,.dead,.lst .ev z4.out];let z16:List Blk:=[.cells (.own 1::zi m.d.plan.root::zi m.d.plan.deep::zi m.d.plan.most::zi m.d.mode:: .own 2:: .int .u64 z9.1.bits::zi z9.1.have_::zi m.d.start::z1),.tree m.d.plan.shapes,.lst .lev m.d.stack,.lst .ev m.out];let z17:List Blk:=[.cells (Ab 1 2 4 z5),.tree z5.d.plan.shapes,.lst .lev z5.d.stack,.dead,.lst .ev z5.out];let z18:=([.cells (Ab 4 5 6 z4),.dead,.dead,.dead,.tree z4.d.plan.shapes,.lst .lev z4.d.stack,.lst .ev z4.out]:List Blk);let z19:List Blk:=[.cells (.own 1::zi m.d.plan.root::zi m.d.plan.deep::zi m.d.plan.most::zi m.d.mode:: .own 2:: .int .u64 0::zi 0::zi m.d.start::z1),.tree m.d.plan.shapes,.lst .lev m.d.stack,.lst .ev m.out];let z21:=([.cells (Ab 4 5 6 z5),.dead,.dead,.dead,.tree z5.d.plan.shapes,.lst .lev z5.d.stack,.lst .ev z5.out]:List Blk);let z32:=(.tup []:S);let z33:=decide (m.d.mode=8);let z34:=decide (m.d.want=0);let z35:List Blk:=[.cells (Ab 1 2 4 z14),.tree z14.d.plan.shapes,.lst .lev z14.d.stack,.dead,.lst .ev z14.out];let z36:List V:=[vP 0,vI 9,vI m.d.at_];let z37:=m.d.at_-1;let z8:=A0 (⟨(⟨m.d.plan,m.d.mode,m.d.stack,m.d.scan,m.d.at_-1,m.d.at_,m.d.field,m.d.wire,m.d.want,m.d.utf,m.d.end_⟩:Dcd),m.out⟩:Mac) 1 z37;let z11:=([.cells (.own 4::zi m.d.plan.root::zi m.d.plan.deep::zi m.d.plan.most::zi m.d.mode:: .own 5:: .int .u64 z9.1.bits::zi z9.1.have_::zi z37::z2),.dead,.dead,.dead,.tree m.d.plan.shapes,.lst .lev m.d.stack,.lst .ev m.out]:List Blk);let z12:List Blk:=[.cells (.own 1::zi m.d.plan.root::zi m.d.plan.deep::zi m.d.plan.most::zi m.d.mode:: .own 2:: .int .u64 z9.1.bits::zi z9.1.have_::zi z37::z1),.tree m.d.plan.shapes,.lst .lev m.d.stack,.lst .ev m.out];let z23:List Blk:=[.cells (.own 1::zi m.d.plan.root::zi m.d.plan.deep::zi m.d.plan.most::zi m.d.mode:: .own 2:: .int .u64 m.d.scan.bits::zi m.d.scan.have_::zi z37::z1),.tree m.d.plan.shapes,.lst .lev m.d.stack,.lst .ev m.out];let z29:List Blk:=[.cells (.own 1::zi m.d.plan.root::zi m.d.plan.deep::zi m.d.plan.most::zi m.d.mode:: .own 2:: .int .u64 0::zi 0::zi z37::z1),.tree m.d.plan.shapes,.lst .lev m.d.stack,.lst .ev m.out];let z31:List Blk:=[.cells (Ab 1 2 4 z8),.tree z8.d.plan.shapes,.lst .lev z8.d.stack,.dead,.lst .ev z8.out];let z38:=([.cells (Ab 4 5 6 z8),.dead,.dead,.dead,.tree z8.d.plan.shapes,.lst .lev z8.d.stack,.lst .ev z8.out]:List Blk);let z39:List V:=[vP 0,.c (.int .u64 z9.1.bits)];let z40:= !decide (m.d.mode=1);let z43:=decide (Dh m.d=0);let z45:=decide (z9.2=2);let z46:=decide (z9.2=0);let z47:=decide (m.d.mode=1);let z48:=decide (m.d.mode=2);let z51:=vI (Dh m.d);let z52:=Cs (⟨z10,m.out⟩:Mac) z9.1.bits;let z24:List Blk:=[.cells (Ab 4 5 6 z52),.dead,.dead,.dead,.tree z52.d.plan.shapes,.lst .lev z52.d.stack,.lst .ev z52.out];let z53:=Cg (⟨z10,m.out⟩:Mac) z9.1.bits;let z25:List Blk:=[.cells (Ab 4 5 6 z53),.dead,.dead,.dead,.tree z53.d.plan.shapes,.lst .lev z53.d.stack,.lst .ev z53.out];let z54:=Cs (⟨z6,m.out⟩:Mac) z9.1.bits;let z26:List Blk:=[.cells (Ab 4 5 6 z54),.dead,.dead,.dead,.tree z54.d.plan.shapes,.lst .lev z54.d.stack,.lst .ev z54.out];let z55:=D6 (⟨z10,m.out⟩:Mac) z9.1.bits;let z27:List Blk:=[.cells (Ab 4 5 6 z55),.dead,.dead,.dead,.tree z55.d.plan.shapes,.lst .lev z55.d.stack,.lst .ev z55.out];let z56:=Cg (⟨z6,m.out⟩:Mac) z9.1.bits;let z28:List Blk:=[.cells (Ab 4 5 6 z56),.dead,.dead,.dead,.tree z56.d.plan.shapes,.lst .lev z56.d.stack,.lst .ev z56.out];let z57:=decide (m.d.mode=4);let z58:=D6 (⟨z6,m.out⟩:Mac) z9.1.bits;let z30:List Blk:=[.cells (Ab 4 5 6 z58),.dead,.dead,.dead,.tree z58.d.plan.shapes,.lst .lev z58.d.stack,.lst .ev z58.out];let z59:List Blk:=[.cells (Ab 1 2 3 z14),.tree z14.d.plan.shapes,.lst .lev z14.d.stack,.lst .ev z14.out];let z60:=A0 m 1 z37;let z22:List Blk:=[.cells (Ab 1 2 4 z60),.tree z60.d.plan.shapes,.lst .lev z60.d.stack,.dead,.lst .ev z60.out];let z44:=([.cells (Ab 4 5 6 z60),.dead,.dead,.dead,.tree z60.d.plan.shapes,.lst .lev z60.d.stack,.lst .ev z60.out]:List Blk);let z61:List Blk:=[.cells (Ab 1 2 3 m),.tree m.d.plan.shapes,.lst .lev m.d.stack,.lst .ev m.out];let z62:=J0 z9.1;let z63:=Bo m b ((m).d.at_-1);let z7:List Blk:=[.cells (Ab 4 5 6 z63),.dead,.dead,.dead,.tree z63.d.plan.shapes,.lst .lev z63.d.stack,.lst .ev z63.out];let z41:=z34=false→z32= .tup []∧z11=z7;let z42:=z33=false→z32= .tup []∧z11=z7;let z49:=z34=false→z32= .tup []∧z13=z7;let z50:=z33=false→z32= .tup []∧z13=z7;let z64:List V:=[vP 0,vI 1,vI z37];let z65:=J0 m.d.scan;let z66:=Ac z14;let z20:List Blk:=[.cells (Ab 4 5 6 z66),.dead,.dead,.dead,.tree z66.d.plan.shapes,.lst .lev z66.d.stack,.lst .ev z66.out];(.seg [.as 12 (.v (vI z37))] (.br (.br (.seg [.call [] (.tup [.agg z62,vI z9.2]) []] (.br (.seg [.call [0,1,2,3] (.tup []) z31,.at 0,.cut 0 0,.cut 0 5] (.leaf () [0,1,2,3,6,7,5])) (.br (.br (.seg [.call [] (.v z51) []] (.br (.seg [.call [0,1,2,3] (.tup []) z15,.at 0,.cut 0 0,.cut 0 5] (.leaf () [0,1,2,3,6,7,5])) (.br (.br (.seg [.call [0,1,2,3] (.tup []) z15,.at 0,.cut 0 0,.cut 0 5] (.leaf () [0,1,2,3,6,7,5])) (.seg [.at 0,.cut 0 0,.cut 0 5,.cut 0 27] (.leaf () [0,1,2,3,5,6,7]))) (.seg [.at 0,.cut 0 0,.cut 0 5,.cut 0 27] (.leaf () [0,1,2,3,5,6,7]))))) (.br (.br (.seg [.call [0,1,2,3] (.tup []) z15,.at 0,.cut 0 0,.cut 0 5] (.leaf () [0,1,2,3,6,7,5])) (.seg [.at 0,.cut 0 0,.cut 0 5,.cut 0 27] (.leaf () [0,1,2,3,5,6,7]))) (.seg [.at 0,.cut 0 0,.cut 0 5,.cut 0 27] (.leaf () [0,1,2,3,5,6,7])))) (.seg [.br true,.call [0,1,2,3] (.tup []) z24] (.leaf () [0,1,2,3,5,6,7]))))) (.br (.seg [.call [] (.tup [.agg z62,vI z9.2]) []] (.br (.seg [.call [0,1,2,3] (.tup []) z31,.at 0,.cut 0 0,.cut 0 5] (.leaf () [0,1,2,3,6,7,5])) (.br (.br (.seg [.call [] (.v z51) []] (.br (.seg [.call [0,1,2,3] (.tup []) z15,.at 0,.cut 0 0,.cut 0 5] (.leaf () [0,1,2,3,6,7,5])) (.br (.br (.seg [.call [0,1,2,3] (.tup []) z15,.at 0,.cut 0 0,.cut 0 5] (.leaf () [0,1,2,3,6,7,5])) (.seg [.at 0,.cut 0 0,.cut 0 5,.cut 0 27] (.leaf () [0,1,2,3,5,6,7]))) (.seg [.at 0,.cut 0 0,.cut 0 5,.cut 0 27] (.leaf () [0,1,2,3,5,6,7]))))) (.br (.br (.seg [.call [0,1,2,3] (.tup []) z15,.at 0,.cut 0 0,.cut 0 5] (.leaf () [0,1,2,3,6,7,5])) (.seg [.at 0,.cut 0 0,.cut 0 5,.cut 0 27] (.leaf () [0,1,2,3,5,6,7]))) (.seg [.at 0,.cut 0 0,.cut 0 5,.cut 0 27] (.leaf () [0,1,2,3,5,6,7])))) (.seg [.br false,.br true,.call [0,1,2,3] (.tup []) z27] (.leaf () [0,1,2,3,5,6,7]))))) (.br (.seg [.call [] (.tup [.agg z62,vI z9.2]) []] (.br (.seg [.call [0,1,2,3] (.tup []) z31,.at 0,.cut 0 0,.cut 0 5] (.leaf () [0,1,2,3,6,7,5])) (.br (.br (.seg [.call [] (.v z51) []] (.br (.seg [.call [0,1,2,3] (.tup []) z15,.at 0,.cut 0 0,.cut 0 5] (.leaf () [0,1,2,3,6,7,5])) (.br (.br (.seg [.call [0,1,2,3] (.tup []) z15,.at 0,.cut 0 0,.cut 0 5] (.leaf () [0,1,2,3,6,7,5])) (.seg [.at 0,.cut 0 0,.cut 0 5,.cut 0 27] (.leaf () [0,1,2,3,5,6,7]))) (.seg [.at 0,.cut 0 0,.cut 0 5,.cut 0 27] (.leaf () [0,1,2,3,5,6,7]))))) (.br (.br (.seg [.call [0,1,2,3] (.tup []) z15,.at 0,.cut 0 0,.cut 0 5] (.leaf () [0,1,2,3,6,7,5])) (.seg [.at 0,.cut 0 0,.cut 0 5,.cut 0 27] (.leaf () [0,1,2,3,5,6,7]))) (.seg [.at 0,.cut 0 0,.cut 0 5,.cut 0 27] (.leaf () [0,1,2,3,5,6,7])))) (.seg [.br false,.br false,.br true,.call [0,1,2,3] (.tup []) z25] (.leaf () [0,1,2,3,5,6,7]))))) (.seg [.call [] (.tup [.agg z62,vI z9.2]) []] (.br (.seg [.call [0,1,2,3] (.tup []) z22,.at 0,.cut 0 0,.cut 0 5] (.leaf () [0,1,2,3,6,7,5])) (.br (.br (.seg [.call [] (.v z51) []] (.br (.seg [.call [0,1,2,3] (.tup []) z17,.at 0,.cut 0 0,.cut 0 5] (.leaf () [0,1,2,3,6,7,5])) (.br (.br (.seg [.call [0,1,2,3] (.tup []) z17,.at 0,.cut 0 0,.cut 0 5] (.leaf () [0,1,2,3,6,7,5])) (.seg [.at 0,.cut 0 0,.cut 0 5,.cut 0 27] (.leaf () [0,1,2,3,5,6,7]))) (.seg [.at 0,.cut 0 0,.cut 0 5,.cut 0 27] (.leaf () [0,1,2,3,5,6,7]))))) (.br (.br (.seg [.call [0,1,2,3] (.tup []) z17,.at 0,.cut 0 0,.cut 0 5] (.leaf () [0,1,2,3,6,7,5])) (.seg [.at 0,.cut 0 0,.cut 0 5,.cut 0 27] (.leaf () [0,1,2,3,5,6,7]))) (.seg [.at 0,.cut 0 0,.cut 0 5,.cut 0 27] (.leaf () [0,1,2,3,5,6,7])))) (.seg [.br false,.br false,.br false,.call [0,1,2,3] (.tup []) z35,.call [0,1,2,5] (.tup []) z20] (.leaf () [0,1,2,3,6,7,8])))))))) (.seg [.call [] (.tup [.agg z62,vI z9.2]) []] (.br (.seg [.call [0,1,2,3] (.tup []) z22,.at 0,.cut 0 0,.cut 0 5] (.leaf () [0,1,2,3,6,7,5])) (.br (.br (.seg [.call [] (.v z51) []] (.br (.seg [.call [0,1,2,3] (.tup []) z17,.at 0,.cut 0 0,.cut 0 5] (.leaf () [0,1,2,3,6,7,5])) (.br (.br (.seg [.call [0,1,2,3] (.tup []) z17,.at 0,.cut 0 0,.cut 0 5] (.leaf () [0,1,2,3,6,7,5])) (.seg [.at 0,.cut 0 0,.cut 0 5,.cut 0 27] (.leaf () [0,1,2,3,5,6,7]))) (.seg [.at 0,.cut 0 0,.cut 0 5,.cut 0 27] (.leaf () [0,1,2,3,5,6,7]))))) (.br (.br (.seg [.call [0,1,2,3] (.tup []) z17,.at 0,.cut 0 0,.cut 0 5] (.leaf () [0,1,2,3,6,7,5])) (.seg [.at 0,.cut 0 0,.cut 0 5,.cut 0 27] (.leaf () [0,1,2,3,5,6,7]))) (.seg [.at 0,.cut 0 0,.cut 0 5,.cut 0 27] (.leaf () [0,1,2,3,5,6,7])))) (.br (.seg [.call [0,1,2,3] (.tup []) z26] (.leaf () [0,1,2,3,5,6,7])) (.br (.seg [.call [0,1,2,3] (.tup []) z30] (.leaf () [0,1,2,3,5,6,7])) (.br (.seg [.call [0,1,2,3] (.tup []) z28] (.leaf () [0,1,2,3,5,6,7])) (.seg [.call [0,1,2,3] (.tup []) z35,.call [0,1,2,5] (.tup []) z20] (.leaf () [0,1,2,3,6,7,8]))))))))),((.v (vI (IntKind.i64.wrap z37)):S)= .v (vI z37))∧((decide (m.d.scan.have_=0))=true→(z47=true→(Fun Tryz.prog 177 [.agg z65,vI b] [] (.tup [.agg z62,vI z9.2]) [])∧(z45=true→(Fun Tryz.prog 94 z64 z23 (.tup []) z31)∧z32= .tup []∧z38=z7)∧(z45=false→(z46=true→(z40=true→(Fun Tryz.prog 85 [.agg (.seq .shp m.d.plan.shapes::zi m.d.plan.root::zi m.d.plan.deep::zi m.d.plan.most::zi m.d.mode:: .seq .lev m.d.stack:: .int .u64 z9.1.bits::zi z9.1.have_::zi z37::z3)] [] (.v z51) [])∧(z43=true→(Fun Tryz.prog 94 z36 z12 (.tup []) z15)∧z32= .tup []∧z18=z7)∧(z43=false→(z33=true→(z34=true→(Fun Tryz.prog 94 z36 z12 (.tup []) z15)∧z32= .tup []∧z18=z7)∧z41)∧z42))∧(z40=false→(z33=true→(z34=true→(Fun Tryz.prog 94 z36 z12 (.tup []) z15)∧z32= .tup []∧z18=z7)∧z41)∧z42))∧(z46=false→(z47=true)∧(Fun Tryz.prog 178 z39 z29 (.tup []) z24)∧z32= .tup []∧(z24:List Blk)=z7)))∧(z47=false→(z48=true→(Fun Tryz.prog 177 [.agg z65,vI b] [] (.tup [.agg z62,vI z9.2]) [])∧(z45=true→(Fun Tryz.prog 94 z64 z23 (.tup []) z31)∧z32= .tup []∧z38=z7)∧(z45=false→(z46=true→(z40=true→(Fun Tryz.prog 85 [.agg (.seq .shp m.d.plan.shapes::zi m.d.plan.root::zi m.d.plan.deep::zi m.d.plan.most::zi m.d.mode:: .seq .lev m.d.stack:: .int .u64 z9.1.bits::zi z9.1.have_::zi z37::z3)] [] (.v z51) [])∧(z43=true→(Fun Tryz.prog 94 z36 z12 (.tup []) z15)∧z32= .tup []∧z18=z7)∧(z43=false→(z33=true→(z34=true→(Fun Tryz.prog 94 z36 z12 (.tup []) z15)∧z32= .tup []∧z18=z7)∧z41)∧z42))∧(z40=false→(z33=true→(z34=true→(Fun Tryz.prog 94 z36 z12 (.tup []) z15)∧z32= .tup []∧z18=z7)∧z41)∧z42))∧(z46=false→(z47=false)∧(z48=true)∧(Fun Tryz.prog 179 z39 z29 (.tup []) z27)∧z32= .tup []∧(z27:List Blk)=z7)))∧(z48=false→(z57=true→(Fun Tryz.prog 177 [.agg z65,vI b] [] (.tup [.agg z62,vI z9.2]) [])∧(z45=true→(Fun Tryz.prog 94 z64 z23 (.tup []) z31)∧z32= .tup []∧z38=z7)∧(z45=false→(z46=true→(z40=true→(Fun Tryz.prog 85 [.agg (.seq .shp m.d.plan.shapes::zi m.d.plan.root::zi m.d.plan.deep::zi m.d.plan.most::zi m.d.mode:: .seq .lev m.d.stack:: .int .u64 z9.1.bits::zi z9.1.have_::zi z37::z3)] [] (.v z51) [])∧(z43=true→(Fun Tryz.prog 94 z36 z12 (.tup []) z15)∧z32= .tup []∧z18=z7)∧(z43=false→(z33=true→(z34=true→(Fun Tryz.prog 94 z36 z12 (.tup []) z15)∧z32= .tup []∧z18=z7)∧z41)∧z42))∧(z40=false→(z33=true→(z34=true→(Fun Tryz.prog 94 z36 z12 (.tup []) z15)∧z32= .tup []∧z18=z7)∧z41)∧z42))∧(z46=false→(z47=false)∧(z48=false)∧(z57=true)∧(Fun Tryz.prog 180 z39 z29 (.tup []) z25)∧z32= .tup []∧(z25:List Blk)=z7)))∧(z57=false→(Fun Tryz.prog 177 [.agg z65,vI b] [] (.tup [.agg z62,vI z9.2]) [])∧(z45=true→(Fun Tryz.prog 94 z64 z61 (.tup []) z22)∧z32= .tup []∧z44=z7)∧(z45=false→(z46=true→(z40=true→(Fun Tryz.prog 85 [.agg (.seq .shp m.d.plan.shapes::zi m.d.plan.root::zi m.d.plan.deep::zi m.d.plan.most::zi m.d.mode:: .seq .lev m.d.stack:: .int .u64 z9.1.bits::zi z9.1.have_::zi m.d.start::z3)] [] (.v z51) [])∧(z43=true→(Fun Tryz.prog 94 z36 z16 (.tup []) z17)∧z32= .tup []∧z21=z7)∧(z43=false→(z33=true→(z34=true→(Fun Tryz.prog 94 z36 z16 (.tup []) z17)∧z32= .tup []∧z21=z7)∧z49)∧z50))∧(z40=false→(z33=true→(z34=true→(Fun Tryz.prog 94 z36 z16 (.tup []) z17)∧z32= .tup []∧z21=z7)∧z49)∧z50))∧(z46=false→(z47=false)∧(z48=false)∧(z57=false)∧(Fun Tryz.prog 176 z39 z19 (.tup []) z35)∧(Fun Tryz.prog 120 [vP 0] z59 (.tup []) z20)∧z32= .tup []∧(z20:List Blk)=z7))))))∧((decide (m.d.scan.have_=0))=false→(Fun Tryz.prog 177 [.agg z65,vI b] [] (.tup [.agg z62,vI z9.2]) [])∧(z45=true→(Fun Tryz.prog 94 z64 z61 (.tup []) z22)∧z32= .tup []∧z44=z7)∧(z45=false→(z46=true→(z40=true→(Fun Tryz.prog 85 [.agg (.seq .shp m.d.plan.shapes::zi m.d.plan.root::zi m.d.plan.deep::zi m.d.plan.most::zi m.d.mode:: .seq .lev m.d.stack:: .int .u64 z9.1.bits::zi z9.1.have_::zi m.d.start::z3)] [] (.v z51) [])∧(z43=true→(Fun Tryz.prog 94 z36 z16 (.tup []) z17)∧z32= .tup []∧z21=z7)∧(z43=false→(z33=true→(z34=true→(Fun Tryz.prog 94 z36 z16 (.tup []) z17)∧z32= .tup []∧z21=z7)∧z49)∧z50))∧(z40=false→(z33=true→(z34=true→(Fun Tryz.prog 94 z36 z16 (.tup []) z17)∧z32= .tup []∧z21=z7)∧z49)∧z50))∧(z46=false→(z47=true→(Fun Tryz.prog 178 z39 z19 (.tup []) z26)∧z32= .tup []∧(z26:List Blk)=z7)∧(z47=false→(z48=true→(Fun Tryz.prog 179 z39 z19 (.tup []) z30)∧z32= .tup []∧(z30:List Blk)=z7)∧(z48=false→(z57=true→(Fun Tryz.prog 180 z39 z19 (.tup []) z28)∧z32= .tup []∧(z28:List Blk)=z7)∧(z57=false→(Fun Tryz.prog 176 z39 z19 (.tup []) z35)∧(Fun Tryz.prog 120 [vP 0] z59 (.tup []) z20)∧z32= .tup []∧(z20:List Blk)=z7)))))))) Q4 ?_
 refine⟨(Ae Q2 Q2),dsp (fun h1 p1=>?_) fun h1 p1=>?_⟩
 refine dsp (fun h2 p2=>?_) fun h2 p2=>?_
 refine⟨(K3 m.d.scan _ Q2),dsp (fun h3 p3=>?_) fun h3 p3=>?_⟩
 refine⟨(B4 (⟨(⟨m.d.plan,m.d.mode,m.d.stack,m.d.scan,m.d.at_-1,m.d.at_,m.d.field,m.d.wire,m.d.want,m.d.utf,m.d.end_⟩:Dcd),m.out⟩:Mac) _ _ Q7),?_⟩
 refine have hm1:Bo m b ((m).d.at_-1)=(A0 (⟨(⟨m.d.plan,m.d.mode,m.d.stack,m.d.scan,m.d.at_-1,m.d.at_,m.d.field,m.d.wire,m.d.want,m.d.utf,m.d.end_⟩:Dcd),m.out⟩:Mac) 1 (m.d.at_-1)):=?_;?_
 rotate_left
 exact⟨rfl,Q5⟩
 refine dsp (fun h4 p4=>?_) fun h4 p4=>?_
 refine⟨fun h5=>have q5:=Ap h5;have p5:=of_decide_eq_false q5;?_,fun h5=>have q5:=Ao h5;have p5:=of_decide_eq_true q5;?_⟩
 refine⟨(Dq (⟨m.d.plan,m.d.mode,m.d.stack,(Af m.d.scan b).1,m.d.at_-1,m.d.at_,m.d.field,m.d.wire,m.d.want,m.d.utf,m.d.end_⟩:Dcd) Q7),dsp (fun h6 p6=>?_) fun h6 p6=>?_⟩
 refine⟨(B4 (⟨(⟨m.d.plan,m.d.mode,m.d.stack,(Af m.d.scan b).1,m.d.at_-1,m.d.at_,m.d.field,m.d.wire,m.d.want,m.d.utf,m.d.end_⟩:Dcd),m.out⟩:Mac) _ _ Q7),?_⟩
 refine have hm1:Bo m b ((m).d.at_-1)=(A0 (⟨(⟨m.d.plan,m.d.mode,m.d.stack,(Af m.d.scan b).1,m.d.at_-1,m.d.at_,m.d.field,m.d.wire,m.d.want,m.d.utf,m.d.end_⟩:Dcd),m.out⟩:Mac) 9 m.d.at_):=?_;?_
 rotate_left
 exact⟨rfl,Q5⟩
 refine dsp (fun h7 p7=>?_) fun h7 p7=>?_
 refine dsp (fun h8 p8=>?_) fun h8 p8=>?_
 refine⟨(B4 (⟨(⟨m.d.plan,m.d.mode,m.d.stack,(Af m.d.scan b).1,m.d.at_-1,m.d.at_,m.d.field,m.d.wire,m.d.want,m.d.utf,m.d.end_⟩:Dcd),m.out⟩:Mac) _ _ Q7),?_⟩
 refine have hm1:Bo m b ((m).d.at_-1)=(A0 (⟨(⟨m.d.plan,m.d.mode,m.d.stack,(Af m.d.scan b).1,m.d.at_-1,m.d.at_,m.d.field,m.d.wire,m.d.want,m.d.utf,m.d.end_⟩:Dcd),m.out⟩:Mac) 9 m.d.at_):=?_;?_
 rotate_left
 exact⟨rfl,Q5⟩
 refine have hm1:Bo m b ((m).d.at_-1)=(⟨(⟨m.d.plan,m.d.mode,m.d.stack,(Af m.d.scan b).1,m.d.at_-1,m.d.at_,m.d.field,m.d.wire,m.d.want,m.d.utf,m.d.end_⟩:Dcd),m.out⟩:Mac):=?_;?_
 rotate_left
 exact⟨rfl,Q5⟩
 refine have hm1:Bo m b ((m).d.at_-1)=(⟨(⟨m.d.plan,m.d.mode,m.d.stack,(Af m.d.scan b).1,m.d.at_-1,m.d.at_,m.d.field,m.d.wire,m.d.want,m.d.utf,m.d.end_⟩:Dcd),m.out⟩:Mac):=?_;?_
 rotate_left
 exact⟨rfl,Q5⟩
 refine dsp (fun h6 p6=>?_) fun h6 p6=>?_
 refine dsp (fun h7 p7=>?_) fun h7 p7=>?_
 refine⟨(B4 (⟨(⟨m.d.plan,m.d.mode,m.d.stack,(Af m.d.scan b).1,m.d.at_-1,m.d.at_,m.d.field,m.d.wire,m.d.want,m.d.utf,m.d.end_⟩:Dcd),m.out⟩:Mac) _ _ Q7),?_⟩
 refine have hm1:Bo m b ((m).d.at_-1)=(A0 (⟨(⟨m.d.plan,m.d.mode,m.d.stack,(Af m.d.scan b).1,m.d.at_-1,m.d.at_,m.d.field,m.d.wire,m.d.want,m.d.utf,m.d.end_⟩:Dcd),m.out⟩:Mac) 9 m.d.at_):=?_;?_
 rotate_left
 exact⟨rfl,Q5⟩
 refine have hm1:Bo m b ((m).d.at_-1)=(⟨(⟨m.d.plan,m.d.mode,m.d.stack,(Af m.d.scan b).1,m.d.at_-1,m.d.at_,m.d.field,m.d.wire,m.d.want,m.d.utf,m.d.end_⟩:Dcd),m.out⟩:Mac):=?_;?_
 rotate_left
 exact⟨rfl,Q5⟩
 refine have hm1:Bo m b ((m).d.at_-1)=(⟨(⟨m.d.plan,m.d.mode,m.d.stack,(Af m.d.scan b).1,m.d.at_-1,m.d.at_,m.d.field,m.d.wire,m.d.want,m.d.utf,m.d.end_⟩:Dcd),m.out⟩:Mac):=?_;?_
 rotate_left
 exact⟨rfl,Q5⟩
 refine⟨h2,(Aem (⟨(⟨m.d.plan,m.d.mode,m.d.stack,(⟨0,0⟩:Scn),m.d.at_-1,m.d.at_,m.d.field,m.d.wire,m.d.want,m.d.utf,m.d.end_⟩:Dcd),m.out⟩:Mac) _ (Q19) Q7 Q2),?_⟩
 refine have hm1:Bo m b ((m).d.at_-1)=(Cs (⟨(⟨m.d.plan,m.d.mode,m.d.stack,(⟨0,0⟩:Scn),m.d.at_-1,m.d.at_,m.d.field,m.d.wire,m.d.want,m.d.utf,m.d.end_⟩:Dcd),m.out⟩:Mac) (Af m.d.scan b).1.bits):=?_;?_
 rotate_left
 exact⟨rfl,Q5⟩
 refine dsp (fun h3 p3=>?_) fun h3 p3=>?_
 refine⟨(K3 m.d.scan _ Q2),dsp (fun h4 p4=>?_) fun h4 p4=>?_⟩
 refine⟨(B4 (⟨(⟨m.d.plan,m.d.mode,m.d.stack,m.d.scan,m.d.at_-1,m.d.at_,m.d.field,m.d.wire,m.d.want,m.d.utf,m.d.end_⟩:Dcd),m.out⟩:Mac) _ _ Q7),?_⟩
 refine have hm1:Bo m b ((m).d.at_-1)=(A0 (⟨(⟨m.d.plan,m.d.mode,m.d.stack,m.d.scan,m.d.at_-1,m.d.at_,m.d.field,m.d.wire,m.d.want,m.d.utf,m.d.end_⟩:Dcd),m.out⟩:Mac) 1 (m.d.at_-1)):=?_;?_
 rotate_left
 exact⟨rfl,Q5⟩
 refine dsp (fun h5 p5=>?_) fun h5 p5=>?_
 refine⟨fun h6=>have q6:=Ap h6;have p6:=of_decide_eq_false q6;?_,fun h6=>have q6:=Ao h6;have p6:=of_decide_eq_true q6;?_⟩
 refine⟨(Dq (⟨m.d.plan,m.d.mode,m.d.stack,(Af m.d.scan b).1,m.d.at_-1,m.d.at_,m.d.field,m.d.wire,m.d.want,m.d.utf,m.d.end_⟩:Dcd) Q7),dsp (fun h7 p7=>?_) fun h7 p7=>?_⟩
 refine⟨(B4 (⟨(⟨m.d.plan,m.d.mode,m.d.stack,(Af m.d.scan b).1,m.d.at_-1,m.d.at_,m.d.field,m.d.wire,m.d.want,m.d.utf,m.d.end_⟩:Dcd),m.out⟩:Mac) _ _ Q7),?_⟩
 refine have hm1:Bo m b ((m).d.at_-1)=(A0 (⟨(⟨m.d.plan,m.d.mode,m.d.stack,(Af m.d.scan b).1,m.d.at_-1,m.d.at_,m.d.field,m.d.wire,m.d.want,m.d.utf,m.d.end_⟩:Dcd),m.out⟩:Mac) 9 m.d.at_):=?_;?_
 rotate_left
 exact⟨rfl,Q5⟩
 refine dsp (fun h8 p8=>?_) fun h8 p8=>?_
 refine dsp (fun h9 p9=>?_) fun h9 p9=>?_
 refine⟨(B4 (⟨(⟨m.d.plan,m.d.mode,m.d.stack,(Af m.d.scan b).1,m.d.at_-1,m.d.at_,m.d.field,m.d.wire,m.d.want,m.d.utf,m.d.end_⟩:Dcd),m.out⟩:Mac) _ _ Q7),?_⟩
 refine have hm1:Bo m b ((m).d.at_-1)=(A0 (⟨(⟨m.d.plan,m.d.mode,m.d.stack,(Af m.d.scan b).1,m.d.at_-1,m.d.at_,m.d.field,m.d.wire,m.d.want,m.d.utf,m.d.end_⟩:Dcd),m.out⟩:Mac) 9 m.d.at_):=?_;?_
 rotate_left
 exact⟨rfl,Q5⟩
 refine have hm1:Bo m b ((m).d.at_-1)=(⟨(⟨m.d.plan,m.d.mode,m.d.stack,(Af m.d.scan b).1,m.d.at_-1,m.d.at_,m.d.field,m.d.wire,m.d.want,m.d.utf,m.d.end_⟩:Dcd),m.out⟩:Mac):=?_;?_
 rotate_left
 exact⟨rfl,Q5⟩
 refine have hm1:Bo m b ((m).d.at_-1)=(⟨(⟨m.d.plan,m.d.mode,m.d.stack,(Af m.d.scan b).1,m.d.at_-1,m.d.at_,m.d.field,m.d.wire,m.d.want,m.d.utf,m.d.end_⟩:Dcd),m.out⟩:Mac):=?_;?_
 rotate_left
 exact⟨rfl,Q5⟩
 refine dsp (fun h7 p7=>?_) fun h7 p7=>?_
 refine dsp (fun h8 p8=>?_) fun h8 p8=>?_
 refine⟨(B4 (⟨(⟨m.d.plan,m.d.mode,m.d.stack,(Af m.d.scan b).1,m.d.at_-1,m.d.at_,m.d.field,m.d.wire,m.d.want,m.d.utf,m.d.end_⟩:Dcd),m.out⟩:Mac) _ _ Q7),?_⟩
 refine have hm1:Bo m b ((m).d.at_-1)=(A0 (⟨(⟨m.d.plan,m.d.mode,m.d.stack,(Af m.d.scan b).1,m.d.at_-1,m.d.at_,m.d.field,m.d.wire,m.d.want,m.d.utf,m.d.end_⟩:Dcd),m.out⟩:Mac) 9 m.d.at_):=?_;?_
 rotate_left
 exact⟨rfl,Q5⟩
 refine have hm1:Bo m b ((m).d.at_-1)=(⟨(⟨m.d.plan,m.d.mode,m.d.stack,(Af m.d.scan b).1,m.d.at_-1,m.d.at_,m.d.field,m.d.wire,m.d.want,m.d.utf,m.d.end_⟩:Dcd),m.out⟩:Mac):=?_;?_
 rotate_left
 exact⟨rfl,Q5⟩
 refine have hm1:Bo m b ((m).d.at_-1)=(⟨(⟨m.d.plan,m.d.mode,m.d.stack,(Af m.d.scan b).1,m.d.at_-1,m.d.at_,m.d.field,m.d.wire,m.d.want,m.d.utf,m.d.end_⟩:Dcd),m.out⟩:Mac):=?_;?_
 rotate_left
 exact⟨rfl,Q5⟩
 refine⟨h2,h3,(Ajv (⟨(⟨m.d.plan,m.d.mode,m.d.stack,(⟨0,0⟩:Scn),m.d.at_-1,m.d.at_,m.d.field,m.d.wire,m.d.want,m.d.utf,m.d.end_⟩:Dcd),m.out⟩:Mac) _ (Q19) Q7 Q2),?_⟩
 refine have hm1:Bo m b ((m).d.at_-1)=(D6 (⟨(⟨m.d.plan,m.d.mode,m.d.stack,(⟨0,0⟩:Scn),m.d.at_-1,m.d.at_,m.d.field,m.d.wire,m.d.want,m.d.utf,m.d.end_⟩:Dcd),m.out⟩:Mac) (Af m.d.scan b).1.bits):=?_;?_
 rotate_left
 exact⟨rfl,Q5⟩
 refine dsp (fun h4 p4=>?_) fun h4 p4=>?_
 refine⟨(K3 m.d.scan _ Q2),dsp (fun h5 p5=>?_) fun h5 p5=>?_⟩
 refine⟨(B4 (⟨(⟨m.d.plan,m.d.mode,m.d.stack,m.d.scan,m.d.at_-1,m.d.at_,m.d.field,m.d.wire,m.d.want,m.d.utf,m.d.end_⟩:Dcd),m.out⟩:Mac) _ _ Q7),?_⟩
 refine have hm1:Bo m b ((m).d.at_-1)=(A0 (⟨(⟨m.d.plan,m.d.mode,m.d.stack,m.d.scan,m.d.at_-1,m.d.at_,m.d.field,m.d.wire,m.d.want,m.d.utf,m.d.end_⟩:Dcd),m.out⟩:Mac) 1 (m.d.at_-1)):=?_;?_
 rotate_left
 exact⟨rfl,Q5⟩
 refine dsp (fun h6 p6=>?_) fun h6 p6=>?_
 refine⟨fun h7=>have q7:=Ap h7;have p7:=of_decide_eq_false q7;?_,fun h7=>have q7:=Ao h7;have p7:=of_decide_eq_true q7;?_⟩
 refine⟨(Dq (⟨m.d.plan,m.d.mode,m.d.stack,(Af m.d.scan b).1,m.d.at_-1,m.d.at_,m.d.field,m.d.wire,m.d.want,m.d.utf,m.d.end_⟩:Dcd) Q7),dsp (fun h8 p8=>?_) fun h8 p8=>?_⟩
 refine⟨(B4 (⟨(⟨m.d.plan,m.d.mode,m.d.stack,(Af m.d.scan b).1,m.d.at_-1,m.d.at_,m.d.field,m.d.wire,m.d.want,m.d.utf,m.d.end_⟩:Dcd),m.out⟩:Mac) _ _ Q7),?_⟩
 refine have hm1:Bo m b ((m).d.at_-1)=(A0 (⟨(⟨m.d.plan,m.d.mode,m.d.stack,(Af m.d.scan b).1,m.d.at_-1,m.d.at_,m.d.field,m.d.wire,m.d.want,m.d.utf,m.d.end_⟩:Dcd),m.out⟩:Mac) 9 m.d.at_):=?_;?_
 rotate_left
 exact⟨rfl,Q5⟩
 refine dsp (fun h9 p9=>?_) fun h9 p9=>?_
 refine dsp (fun h10 p10=>?_) fun h10 p10=>?_
 refine⟨(B4 (⟨(⟨m.d.plan,m.d.mode,m.d.stack,(Af m.d.scan b).1,m.d.at_-1,m.d.at_,m.d.field,m.d.wire,m.d.want,m.d.utf,m.d.end_⟩:Dcd),m.out⟩:Mac) _ _ Q7),?_⟩
 refine have hm1:Bo m b ((m).d.at_-1)=(A0 (⟨(⟨m.d.plan,m.d.mode,m.d.stack,(Af m.d.scan b).1,m.d.at_-1,m.d.at_,m.d.field,m.d.wire,m.d.want,m.d.utf,m.d.end_⟩:Dcd),m.out⟩:Mac) 9 m.d.at_):=?_;?_
 rotate_left
 exact⟨rfl,Q5⟩
 refine have hm1:Bo m b ((m).d.at_-1)=(⟨(⟨m.d.plan,m.d.mode,m.d.stack,(Af m.d.scan b).1,m.d.at_-1,m.d.at_,m.d.field,m.d.wire,m.d.want,m.d.utf,m.d.end_⟩:Dcd),m.out⟩:Mac):=?_;?_
 rotate_left
 exact⟨rfl,Q5⟩
 refine have hm1:Bo m b ((m).d.at_-1)=(⟨(⟨m.d.plan,m.d.mode,m.d.stack,(Af m.d.scan b).1,m.d.at_-1,m.d.at_,m.d.field,m.d.wire,m.d.want,m.d.utf,m.d.end_⟩:Dcd),m.out⟩:Mac):=?_;?_
 rotate_left
 exact⟨rfl,Q5⟩
 refine dsp (fun h8 p8=>?_) fun h8 p8=>?_
 refine dsp (fun h9 p9=>?_) fun h9 p9=>?_
 refine⟨(B4 (⟨(⟨m.d.plan,m.d.mode,m.d.stack,(Af m.d.scan b).1,m.d.at_-1,m.d.at_,m.d.field,m.d.wire,m.d.want,m.d.utf,m.d.end_⟩:Dcd),m.out⟩:Mac) _ _ Q7),?_⟩
 refine have hm1:Bo m b ((m).d.at_-1)=(A0 (⟨(⟨m.d.plan,m.d.mode,m.d.stack,(Af m.d.scan b).1,m.d.at_-1,m.d.at_,m.d.field,m.d.wire,m.d.want,m.d.utf,m.d.end_⟩:Dcd),m.out⟩:Mac) 9 m.d.at_):=?_;?_
 rotate_left
 exact⟨rfl,Q5⟩
 refine have hm1:Bo m b ((m).d.at_-1)=(⟨(⟨m.d.plan,m.d.mode,m.d.stack,(Af m.d.scan b).1,m.d.at_-1,m.d.at_,m.d.field,m.d.wire,m.d.want,m.d.utf,m.d.end_⟩:Dcd),m.out⟩:Mac):=?_;?_
 rotate_left
 exact⟨rfl,Q5⟩
 refine have hm1:Bo m b ((m).d.at_-1)=(⟨(⟨m.d.plan,m.d.mode,m.d.stack,(Af m.d.scan b).1,m.d.at_-1,m.d.at_,m.d.field,m.d.wire,m.d.want,m.d.utf,m.d.end_⟩:Dcd),m.out⟩:Mac):=?_;?_
 rotate_left
 exact⟨rfl,Q5⟩
 refine⟨h2,h3,h4,(Ahp (⟨(⟨m.d.plan,m.d.mode,m.d.stack,(⟨0,0⟩:Scn),m.d.at_-1,m.d.at_,m.d.field,m.d.wire,m.d.want,m.d.utf,m.d.end_⟩:Dcd),m.out⟩:Mac) _ (Q19) Q7 Q2 (hp1.kn)),?_⟩
 refine have hm1:Bo m b ((m).d.at_-1)=(Cg (⟨(⟨m.d.plan,m.d.mode,m.d.stack,(⟨0,0⟩:Scn),m.d.at_-1,m.d.at_,m.d.field,m.d.wire,m.d.want,m.d.utf,m.d.end_⟩:Dcd),m.out⟩:Mac) (Af m.d.scan b).1.bits):=?_;?_
 rotate_left
 exact⟨rfl,Q5⟩
 refine⟨(K3 m.d.scan _ Q2),dsp (fun h5 p5=>?_) fun h5 p5=>?_⟩
 refine⟨(B4 m _ _ Q2),?_⟩
 refine have hm1:Bo m b ((m).d.at_-1)=(A0 m 1 (m.d.at_-1)):=?_;?_
 rotate_left
 exact⟨rfl,Q5⟩
 refine dsp (fun h6 p6=>?_) fun h6 p6=>?_
 refine⟨fun h7=>have q7:=Ap h7;have p7:=of_decide_eq_false q7;?_,fun h7=>have q7:=Ao h7;have p7:=of_decide_eq_true q7;?_⟩
 refine⟨(Dq (⟨m.d.plan,m.d.mode,m.d.stack,(Af m.d.scan b).1,m.d.start,m.d.at_,m.d.field,m.d.wire,m.d.want,m.d.utf,m.d.end_⟩:Dcd) Q7),dsp (fun h8 p8=>?_) fun h8 p8=>?_⟩
 refine⟨(B4 (⟨(⟨m.d.plan,m.d.mode,m.d.stack,(Af m.d.scan b).1,m.d.start,m.d.at_,m.d.field,m.d.wire,m.d.want,m.d.utf,m.d.end_⟩:Dcd),m.out⟩:Mac) _ _ Q7),?_⟩
 refine have hm1:Bo m b ((m).d.at_-1)=(A0 (⟨(⟨m.d.plan,m.d.mode,m.d.stack,(Af m.d.scan b).1,m.d.start,m.d.at_,m.d.field,m.d.wire,m.d.want,m.d.utf,m.d.end_⟩:Dcd),m.out⟩:Mac) 9 m.d.at_):=?_;?_
 rotate_left
 exact⟨rfl,Q5⟩
 refine dsp (fun h9 p9=>?_) fun h9 p9=>?_
 refine dsp (fun h10 p10=>?_) fun h10 p10=>?_
 refine⟨(B4 (⟨(⟨m.d.plan,m.d.mode,m.d.stack,(Af m.d.scan b).1,m.d.start,m.d.at_,m.d.field,m.d.wire,m.d.want,m.d.utf,m.d.end_⟩:Dcd),m.out⟩:Mac) _ _ Q7),?_⟩
 refine have hm1:Bo m b ((m).d.at_-1)=(A0 (⟨(⟨m.d.plan,m.d.mode,m.d.stack,(Af m.d.scan b).1,m.d.start,m.d.at_,m.d.field,m.d.wire,m.d.want,m.d.utf,m.d.end_⟩:Dcd),m.out⟩:Mac) 9 m.d.at_):=?_;?_
 rotate_left
 exact⟨rfl,Q5⟩
 refine have hm1:Bo m b ((m).d.at_-1)=(⟨(⟨m.d.plan,m.d.mode,m.d.stack,(Af m.d.scan b).1,m.d.start,m.d.at_,m.d.field,m.d.wire,m.d.want,m.d.utf,m.d.end_⟩:Dcd),m.out⟩:Mac):=?_;?_
 rotate_left
 exact⟨rfl,Q5⟩
 refine have hm1:Bo m b ((m).d.at_-1)=(⟨(⟨m.d.plan,m.d.mode,m.d.stack,(Af m.d.scan b).1,m.d.start,m.d.at_,m.d.field,m.d.wire,m.d.want,m.d.utf,m.d.end_⟩:Dcd),m.out⟩:Mac):=?_;?_
 rotate_left
 exact⟨rfl,Q5⟩
 refine dsp (fun h8 p8=>?_) fun h8 p8=>?_
 refine dsp (fun h9 p9=>?_) fun h9 p9=>?_
 refine⟨(B4 (⟨(⟨m.d.plan,m.d.mode,m.d.stack,(Af m.d.scan b).1,m.d.start,m.d.at_,m.d.field,m.d.wire,m.d.want,m.d.utf,m.d.end_⟩:Dcd),m.out⟩:Mac) _ _ Q7),?_⟩
 refine have hm1:Bo m b ((m).d.at_-1)=(A0 (⟨(⟨m.d.plan,m.d.mode,m.d.stack,(Af m.d.scan b).1,m.d.start,m.d.at_,m.d.field,m.d.wire,m.d.want,m.d.utf,m.d.end_⟩:Dcd),m.out⟩:Mac) 9 m.d.at_):=?_;?_
 rotate_left
 exact⟨rfl,Q5⟩
 refine have hm1:Bo m b ((m).d.at_-1)=(⟨(⟨m.d.plan,m.d.mode,m.d.stack,(Af m.d.scan b).1,m.d.start,m.d.at_,m.d.field,m.d.wire,m.d.want,m.d.utf,m.d.end_⟩:Dcd),m.out⟩:Mac):=?_;?_
 rotate_left
 exact⟨rfl,Q5⟩
 refine have hm1:Bo m b ((m).d.at_-1)=(⟨(⟨m.d.plan,m.d.mode,m.d.stack,(Af m.d.scan b).1,m.d.start,m.d.at_,m.d.field,m.d.wire,m.d.want,m.d.utf,m.d.end_⟩:Dcd),m.out⟩:Mac):=?_;?_
 rotate_left
 exact⟨rfl,Q5⟩
 refine⟨h2,h3,h4,(Zq (⟨(⟨m.d.plan,m.d.mode,m.d.stack,(⟨0,0⟩:Scn),m.d.start,m.d.at_,m.d.field,m.d.wire,m.d.want,m.d.utf,m.d.end_⟩:Dcd),m.out⟩:Mac) _ Q7 Q2),(D0 (Bn (⟨(⟨m.d.plan,m.d.mode,m.d.stack,(⟨0,0⟩:Scn),m.d.start,m.d.at_,m.d.field,m.d.wire,m.d.want,m.d.utf,m.d.end_⟩:Dcd),m.out⟩:Mac) (Af m.d.scan b).1.bits) (Q19) (Nat.le_trans (E7 _ _) Q60)),?_⟩
 refine have hm1:Bo m b ((m).d.at_-1)=(Ac (Bn (⟨(⟨m.d.plan,m.d.mode,m.d.stack,(⟨0,0⟩:Scn),m.d.start,m.d.at_,m.d.field,m.d.wire,m.d.want,m.d.utf,m.d.end_⟩:Dcd),m.out⟩:Mac) (Af m.d.scan b).1.bits)):=?_;?_
 rotate_left
 exact⟨rfl,Q5⟩
 refine⟨(K3 m.d.scan _ Q2),dsp (fun h2 p2=>?_) fun h2 p2=>?_⟩
 refine⟨(B4 m _ _ Q2),?_⟩
 refine have hm1:Bo m b ((m).d.at_-1)=(A0 m 1 (m.d.at_-1)):=?_;?_
 rotate_left
 exact⟨rfl,Q5⟩
 refine dsp (fun h3 p3=>?_) fun h3 p3=>?_
 refine⟨fun h4=>have q4:=Ap h4;have p4:=of_decide_eq_false q4;?_,fun h4=>have q4:=Ao h4;have p4:=of_decide_eq_true q4;?_⟩
 refine⟨(Dq (⟨m.d.plan,m.d.mode,m.d.stack,(Af m.d.scan b).1,m.d.start,m.d.at_,m.d.field,m.d.wire,m.d.want,m.d.utf,m.d.end_⟩:Dcd) Q7),dsp (fun h5 p5=>?_) fun h5 p5=>?_⟩
 refine⟨(B4 (⟨(⟨m.d.plan,m.d.mode,m.d.stack,(Af m.d.scan b).1,m.d.start,m.d.at_,m.d.field,m.d.wire,m.d.want,m.d.utf,m.d.end_⟩:Dcd),m.out⟩:Mac) _ _ Q7),?_⟩
 refine have hm1:Bo m b ((m).d.at_-1)=(A0 (⟨(⟨m.d.plan,m.d.mode,m.d.stack,(Af m.d.scan b).1,m.d.start,m.d.at_,m.d.field,m.d.wire,m.d.want,m.d.utf,m.d.end_⟩:Dcd),m.out⟩:Mac) 9 m.d.at_):=?_;?_
 rotate_left
 exact⟨rfl,Q5⟩
 refine dsp (fun h6 p6=>?_) fun h6 p6=>?_
 refine dsp (fun h7 p7=>?_) fun h7 p7=>?_
 refine⟨(B4 (⟨(⟨m.d.plan,m.d.mode,m.d.stack,(Af m.d.scan b).1,m.d.start,m.d.at_,m.d.field,m.d.wire,m.d.want,m.d.utf,m.d.end_⟩:Dcd),m.out⟩:Mac) _ _ Q7),?_⟩
 refine have hm1:Bo m b ((m).d.at_-1)=(A0 (⟨(⟨m.d.plan,m.d.mode,m.d.stack,(Af m.d.scan b).1,m.d.start,m.d.at_,m.d.field,m.d.wire,m.d.want,m.d.utf,m.d.end_⟩:Dcd),m.out⟩:Mac) 9 m.d.at_):=?_;?_
 rotate_left
 exact⟨rfl,Q5⟩
 refine have hm1:Bo m b ((m).d.at_-1)=(⟨(⟨m.d.plan,m.d.mode,m.d.stack,(Af m.d.scan b).1,m.d.start,m.d.at_,m.d.field,m.d.wire,m.d.want,m.d.utf,m.d.end_⟩:Dcd),m.out⟩:Mac):=?_;?_
 rotate_left
 exact⟨rfl,Q5⟩
 refine have hm1:Bo m b ((m).d.at_-1)=(⟨(⟨m.d.plan,m.d.mode,m.d.stack,(Af m.d.scan b).1,m.d.start,m.d.at_,m.d.field,m.d.wire,m.d.want,m.d.utf,m.d.end_⟩:Dcd),m.out⟩:Mac):=?_;?_
 rotate_left
 exact⟨rfl,Q5⟩
 refine dsp (fun h5 p5=>?_) fun h5 p5=>?_
 refine dsp (fun h6 p6=>?_) fun h6 p6=>?_
 refine⟨(B4 (⟨(⟨m.d.plan,m.d.mode,m.d.stack,(Af m.d.scan b).1,m.d.start,m.d.at_,m.d.field,m.d.wire,m.d.want,m.d.utf,m.d.end_⟩:Dcd),m.out⟩:Mac) _ _ Q7),?_⟩
 refine have hm1:Bo m b ((m).d.at_-1)=(A0 (⟨(⟨m.d.plan,m.d.mode,m.d.stack,(Af m.d.scan b).1,m.d.start,m.d.at_,m.d.field,m.d.wire,m.d.want,m.d.utf,m.d.end_⟩:Dcd),m.out⟩:Mac) 9 m.d.at_):=?_;?_
 rotate_left
 exact⟨rfl,Q5⟩
 refine have hm1:Bo m b ((m).d.at_-1)=(⟨(⟨m.d.plan,m.d.mode,m.d.stack,(Af m.d.scan b).1,m.d.start,m.d.at_,m.d.field,m.d.wire,m.d.want,m.d.utf,m.d.end_⟩:Dcd),m.out⟩:Mac):=?_;?_
 rotate_left
 exact⟨rfl,Q5⟩
 refine have hm1:Bo m b ((m).d.at_-1)=(⟨(⟨m.d.plan,m.d.mode,m.d.stack,(Af m.d.scan b).1,m.d.start,m.d.at_,m.d.field,m.d.wire,m.d.want,m.d.utf,m.d.end_⟩:Dcd),m.out⟩:Mac):=?_;?_
 rotate_left
 exact⟨rfl,Q5⟩
 refine dsp (fun h4 p4=>?_) fun h4 p4=>?_
 refine⟨(Aem (⟨(⟨m.d.plan,m.d.mode,m.d.stack,(⟨0,0⟩:Scn),m.d.start,m.d.at_,m.d.field,m.d.wire,m.d.want,m.d.utf,m.d.end_⟩:Dcd),m.out⟩:Mac) _ (Q19) Q7 Q2),?_⟩
 refine have hm1:Bo m b ((m).d.at_-1)=(Cs (⟨(⟨m.d.plan,m.d.mode,m.d.stack,(⟨0,0⟩:Scn),m.d.start,m.d.at_,m.d.field,m.d.wire,m.d.want,m.d.utf,m.d.end_⟩:Dcd),m.out⟩:Mac) (Af m.d.scan b).1.bits):=?_;?_
 rotate_left
 exact⟨rfl,Q5⟩
 refine dsp (fun h5 p5=>?_) fun h5 p5=>?_
 refine⟨(Ajv (⟨(⟨m.d.plan,m.d.mode,m.d.stack,(⟨0,0⟩:Scn),m.d.start,m.d.at_,m.d.field,m.d.wire,m.d.want,m.d.utf,m.d.end_⟩:Dcd),m.out⟩:Mac) _ (Q19) Q7 Q2),?_⟩
 refine have hm1:Bo m b ((m).d.at_-1)=(D6 (⟨(⟨m.d.plan,m.d.mode,m.d.stack,(⟨0,0⟩:Scn),m.d.start,m.d.at_,m.d.field,m.d.wire,m.d.want,m.d.utf,m.d.end_⟩:Dcd),m.out⟩:Mac) (Af m.d.scan b).1.bits):=?_;?_
 rotate_left
 exact⟨rfl,Q5⟩
 refine dsp (fun h6 p6=>?_) fun h6 p6=>?_
 refine⟨(Ahp (⟨(⟨m.d.plan,m.d.mode,m.d.stack,(⟨0,0⟩:Scn),m.d.start,m.d.at_,m.d.field,m.d.wire,m.d.want,m.d.utf,m.d.end_⟩:Dcd),m.out⟩:Mac) _ (Q19) Q7 Q2 (hp1.kn)),?_⟩
 refine have hm1:Bo m b ((m).d.at_-1)=(Cg (⟨(⟨m.d.plan,m.d.mode,m.d.stack,(⟨0,0⟩:Scn),m.d.start,m.d.at_,m.d.field,m.d.wire,m.d.want,m.d.utf,m.d.end_⟩:Dcd),m.out⟩:Mac) (Af m.d.scan b).1.bits):=?_;?_
 rotate_left
 exact⟨rfl,Q5⟩
 refine⟨(Zq (⟨(⟨m.d.plan,m.d.mode,m.d.stack,(⟨0,0⟩:Scn),m.d.start,m.d.at_,m.d.field,m.d.wire,m.d.want,m.d.utf,m.d.end_⟩:Dcd),m.out⟩:Mac) _ Q7 Q2),(D0 (Bn (⟨(⟨m.d.plan,m.d.mode,m.d.stack,(⟨0,0⟩:Scn),m.d.start,m.d.at_,m.d.field,m.d.wire,m.d.want,m.d.utf,m.d.end_⟩:Dcd),m.out⟩:Mac) (Af m.d.scan b).1.bits) (Q19) (Nat.le_trans (E7 _ _) Q60)),?_⟩
 refine have hm1:Bo m b ((m).d.at_-1)=(Ac (Bn (⟨(⟨m.d.plan,m.d.mode,m.d.stack,(⟨0,0⟩:Scn),m.d.start,m.d.at_,m.d.field,m.d.wire,m.d.want,m.d.utf,m.d.end_⟩:Dcd),m.out⟩:Mac) (Af m.d.scan b).1.bits)):=?_;?_
 rotate_left
 exact⟨rfl,Q5⟩
 all_goals first|(simp_all[Bo,Kz,G6,W1,A0,A1,scn0];done)|(grind[Bo,Kz,G6,W1,A0,A1,scn0])
theorem Ri (m:Mac) (b:Int) (hp1:MW (m).d) (hp2:List.length (m).out≤50000000) (hp3:(0:Int)≤b∧b≤255):Fun Tryz.prog 122 [vP 0,vI b] [.cells (Ab 1 2 3 m),.tree m.d.plan.shapes,.lst .lev m.d.stack,.lst .ev m.out] (.tup []) [.cells (Ab 4 5 6 (C9 m b)),.dead,.dead,.dead,.tree (C9 m b).d.plan.shapes,.lst .lev (C9 m b).d.stack,.lst .ev (C9 m b).out]:=by
 have hN:Bg=274877906944:=rfl
 have hlv:=B0 hp1.lv
 have hpt:=B6 hlv.1
 have htb:=Gk hp1.lv
 have hwm:=Acw m
 have hbb:=hp1.b0
 have hat:=hp1.at_
 have hwt:=hp1.want
 have hwd:=Hw m.d
 have hfb:=X8 (b:=b) hbb
 refine Ar Tryz.func122 Q4 Q4 (w:=let zi:Int→C:= .int .i64;let z3:List Blk:=[.cells (Ab 4 5 6 (C9 m b)),.dead,.dead,.dead,.tree (C9 m b).d.plan.shapes,.lst .lev (C9 m b).d.stack,.lst .ev (C9 m b).out];let z6:=Br m.d.scan b;let z1:=Bn (⟨(⟨m.d.plan,m.d.mode,m.d.stack,(⟨0,0⟩:Scn),m.d.start,m.d.at_,m.d.field,m.d.wire,m.d.want,m.d.utf,m.d.end_⟩:Dcd),m.out⟩:Mac) z6.bits;let z2:List Blk:=[.cells (Ab 4 5 6 (Ac z1)),.dead,.dead,.dead,.tree (Ac z1).d.plan.shapes,.lst .lev (Ac z1).d.stack,.lst .ev (Ac z1).out];let z4:List Blk:=[.cells (Ab 1 2 3 z1),.tree z1.d.plan.shapes,.lst .lev z1.d.stack,.lst .ev z1.out];let z5:=A0 z1 9 z1.d.at_;let z7:List Blk:=[.cells (Ab 1 2 4 z1),.tree z1.d.plan.shapes,.lst .lev z1.d.stack,.dead,.lst .ev z1.out];let z8:List Blk:=[.cells (Ab 1 2 4 z5),.tree z5.d.plan.shapes,.lst .lev z5.d.stack,.dead,.lst .ev z5.out];let z9:=(.tup []:S);let z10:=decide (z1.d.want<Bp m.d);let z11:=decide (z6.have_<Bp m.d);(.seg [.ord [(0,true),(1,true),(2,true),(3,true),(5,true),(6,true),(7,true),(8,true),(9,true),(10,true),(4,false),(11,true),(12,true)] [],.call [] (.v (vI (Bp m.d))) [],.call [] (.v (.agg (J0 z6))) []] (.br (.seg [.at 0,.cut 0 0,.cut 0 5,.cut 0 27] (.leaf () [0,1,2,3,4,5,6])) (.seg [.call [0,1,2,3] (.tup []) z7] (.br (.br (.br (.seg [.call [0,1,2,4] (.tup []) z8,.at 0,.cut 0 0,.cut 0 5] (.leaf () [0,1,2,3,6,7,5])) (.seg [.call [0,1,2,4] (.tup []) z2] (.leaf () [0,1,2,3,5,6,7]))) (.seg [.call [0,1,2,4] (.tup []) z2] (.leaf () [0,1,2,3,5,6,7]))) (.seg [.call [0,1,2,4] (.tup []) z2] (.leaf () [0,1,2,3,5,6,7]))))),(Fun Tryz.prog 121 [.agg (Bt m.d)] [] (.v (vI (Bp m.d))) [])∧(Fun Tryz.prog 175 [.agg (J0 m.d.scan),vI b] [] (.v (.agg (J0 z6))) [])∧(z11=true→z9= .tup []∧([.cells [.own 4,zi m.d.plan.root,zi m.d.plan.deep,zi m.d.plan.most,zi m.d.mode,.own 5,.int .u64 z6.bits,zi z6.have_,zi m.d.start,zi m.d.at_,zi m.d.field.number,zi m.d.field.kind,.bool m.d.field.rep,.bool m.d.field.packed,zi m.d.field.msg,zi m.d.wire,zi m.d.want,zi m.d.utf.want,zi m.d.utf.low,zi m.d.utf.high,zi m.d.end_.kind,zi m.d.end_.field,.int .u64 m.d.end_.bits,zi m.d.end_.len,.str m.d.end_.text,zi m.d.end_.code,zi m.d.end_.at_,.own 6],.dead,.dead,.dead,.tree m.d.plan.shapes,.lst .lev m.d.stack,.lst .ev m.out]:List Blk)=z3)∧(z11=false→(Fun Tryz.prog 176 [vP 0,.c (.int .u64 z6.bits)] [.cells [.own 1,zi m.d.plan.root,zi m.d.plan.deep,zi m.d.plan.most,zi m.d.mode,.own 2,.int .u64 0,zi 0,zi m.d.start,zi m.d.at_,zi m.d.field.number,zi m.d.field.kind,.bool m.d.field.rep,.bool m.d.field.packed,zi m.d.field.msg,zi m.d.wire,zi m.d.want,zi m.d.utf.want,zi m.d.utf.low,zi m.d.utf.high,zi m.d.end_.kind,zi m.d.end_.field,.int .u64 m.d.end_.bits,zi m.d.end_.len,.str m.d.end_.text,zi m.d.end_.code,zi m.d.end_.at_,.own 3],.tree m.d.plan.shapes,.lst .lev m.d.stack,.lst .ev m.out] (.tup []) z7)∧((decide (m.d.mode=8))=true→((decide (0<z1.d.want))=true→(z10=true→(Fun Tryz.prog 94 [vP 0,vI 9,vI z1.d.at_] z4 (.tup []) z8)∧z9= .tup []∧([.cells (Ab 4 5 6 z5),.dead,.dead,.dead,.tree z5.d.plan.shapes,.lst .lev z5.d.stack,.lst .ev z5.out]:List Blk)=z3)∧(z10=false→(Fun Tryz.prog 120 [vP 0] z4 (.tup []) z2)∧z9= .tup []∧(z2:List Blk)=z3))∧((decide (0<z1.d.want))=false→(Fun Tryz.prog 120 [vP 0] z4 (.tup []) z2)∧z9= .tup []∧(z2:List Blk)=z3))∧((decide (m.d.mode=8))=false→(Fun Tryz.prog 120 [vP 0] z4 (.tup []) z2)∧z9= .tup []∧(z2:List Blk)=z3)))) Q4 ?_
 refine⟨(Pb m.d),(Aen m.d.scan _),dsp (fun h1 p1=>?_) fun h1 p1=>?_⟩
 refine have hm1:C9 m b=(⟨(⟨m.d.plan,m.d.mode,m.d.stack,(Br m.d.scan b),m.d.start,m.d.at_,m.d.field,m.d.wire,m.d.want,m.d.utf,m.d.end_⟩:Dcd),m.out⟩:Mac):=?_;?_
 rotate_left
 exact⟨rfl,Q5⟩
 refine⟨(Zq (⟨(⟨m.d.plan,m.d.mode,m.d.stack,(⟨0,0⟩:Scn),m.d.start,m.d.at_,m.d.field,m.d.wire,m.d.want,m.d.utf,m.d.end_⟩:Dcd),m.out⟩:Mac) _ Q7 Q2),dsp (fun h2 p2=>?_) fun h2 p2=>?_⟩
 refine dsp (fun h3 p3=>?_) fun h3 p3=>?_
 refine dsp (fun h4 p4=>?_) fun h4 p4=>?_
 refine⟨(B4 (Bn (⟨(⟨m.d.plan,m.d.mode,m.d.stack,(⟨0,0⟩:Scn),m.d.start,m.d.at_,m.d.field,m.d.wire,m.d.want,m.d.utf,m.d.end_⟩:Dcd),m.out⟩:Mac) (Br m.d.scan b).bits) _ _ (Nat.le_trans (E7 _ _) Q60)),?_⟩
 refine have hm1:C9 m b=(A0 (Bn (⟨(⟨m.d.plan,m.d.mode,m.d.stack,(⟨0,0⟩:Scn),m.d.start,m.d.at_,m.d.field,m.d.wire,m.d.want,m.d.utf,m.d.end_⟩:Dcd),m.out⟩:Mac) (Br m.d.scan b).bits) 9 (Bn (⟨(⟨m.d.plan,m.d.mode,m.d.stack,(⟨0,0⟩:Scn),m.d.start,m.d.at_,m.d.field,m.d.wire,m.d.want,m.d.utf,m.d.end_⟩:Dcd),m.out⟩:Mac) (Br m.d.scan b).bits).d.at_):=?_;?_
 rotate_left
 exact⟨rfl,Q5⟩
 refine⟨(D0 (Bn (⟨(⟨m.d.plan,m.d.mode,m.d.stack,(⟨0,0⟩:Scn),m.d.start,m.d.at_,m.d.field,m.d.wire,m.d.want,m.d.utf,m.d.end_⟩:Dcd),m.out⟩:Mac) (Br m.d.scan b).bits) (Q19) (Nat.le_trans (E7 _ _) Q60)),?_⟩
 refine have hm1:C9 m b=(Ac (Bn (⟨(⟨m.d.plan,m.d.mode,m.d.stack,(⟨0,0⟩:Scn),m.d.start,m.d.at_,m.d.field,m.d.wire,m.d.want,m.d.utf,m.d.end_⟩:Dcd),m.out⟩:Mac) (Br m.d.scan b).bits)):=?_;?_
 rotate_left
 exact⟨rfl,Q5⟩
 refine⟨(D0 (Bn (⟨(⟨m.d.plan,m.d.mode,m.d.stack,(⟨0,0⟩:Scn),m.d.start,m.d.at_,m.d.field,m.d.wire,m.d.want,m.d.utf,m.d.end_⟩:Dcd),m.out⟩:Mac) (Br m.d.scan b).bits) (Q19) (Nat.le_trans (E7 _ _) Q60)),?_⟩
 refine have hm1:C9 m b=(Ac (Bn (⟨(⟨m.d.plan,m.d.mode,m.d.stack,(⟨0,0⟩:Scn),m.d.start,m.d.at_,m.d.field,m.d.wire,m.d.want,m.d.utf,m.d.end_⟩:Dcd),m.out⟩:Mac) (Br m.d.scan b).bits)):=?_;?_
 rotate_left
 exact⟨rfl,Q5⟩
 refine⟨(D0 (Bn (⟨(⟨m.d.plan,m.d.mode,m.d.stack,(⟨0,0⟩:Scn),m.d.start,m.d.at_,m.d.field,m.d.wire,m.d.want,m.d.utf,m.d.end_⟩:Dcd),m.out⟩:Mac) (Br m.d.scan b).bits) (Q19) (Nat.le_trans (E7 _ _) Q60)),?_⟩
 refine have hm1:C9 m b=(Ac (Bn (⟨(⟨m.d.plan,m.d.mode,m.d.stack,(⟨0,0⟩:Scn),m.d.start,m.d.at_,m.d.field,m.d.wire,m.d.want,m.d.utf,m.d.end_⟩:Dcd),m.out⟩:Mac) (Br m.d.scan b).bits)):=?_;?_
 rotate_left
 exact⟨rfl,Q5⟩
 all_goals first|(simp_all[C9,G6,A0,A1,scn0,Rb,Lz];done)|(grind[C9,G6,A0,A1,scn0,Rb,Lz])
theorem V7 (m:Mac) (b:Int) (hp1:MW (m).d) (hp2:List.length (m).out≤50000000) (hp3:(0:Int)≤b∧b≤255):Fun Tryz.prog 119 [vP 0,vI b] [.cells (Ab 1 2 3 m),.tree m.d.plan.shapes,.lst .lev m.d.stack,.lst .ev m.out] (.tup []) [.cells (Ab 4 5 6 (Ef m b)),.dead,.dead,.dead,.tree (Ef m b).d.plan.shapes,.lst .lev (Ef m b).d.stack,.lst .ev (Ef m b).out]:=by
 have hN:Bg=274877906944:=rfl
 have hlv:=B0 hp1.lv
 have hpt:=B6 hlv.1
 have htb:=Gk hp1.lv
 have hwm:=Acw m
 have hbb:=hp1.b0
 have hat:=hp1.at_
 have hwt:=hp1.want
 have hwd:=Hw m.d
 refine Ar Tryz.func119 Q4 Q4 (w:=let zi:Int→C:= .int .i64;let z3:List C:=[zi 4,zi 0,.int .u64 0,zi 0,.str (List.map Bc [b]),zi 0,zi 0];let z6:=(⟨4,0,0,0,List.map Bc [b],0,0⟩:Ev);let z5:=Ac (⟨(m).d,(m).out++[z6]⟩:Mac);let z7:List Blk:=[.cells (Ab 4 5 6 (Ef m b)),.dead,.dead,.dead,.tree (Ef m b).d.plan.shapes,.lst .lev (Ef m b).d.stack,.lst .ev (Ef m b).out];let z11:List Blk:=[.cells (Ab 4 5 6 z5),.dead,.dead,.dead,.tree z5.d.plan.shapes,.lst .lev z5.d.stack,.lst .ev z5.out];let z12:List Blk:=[.cells (Ab 1 2 4 m),.tree (m).d.plan.shapes,.lst .lev (m).d.stack,.dead,.lst .ev ((m).out++[z6])];let z14:List Blk:=[.cells (Ab 1 2 3 m),.tree m.d.plan.shapes,.lst .lev m.d.stack,.lst .ev m.out];let z16:=(.v (.c (.int .u8 (IntKind.u8.wrap (b)))):S)= .v (.c (.int .u8 b));let z17:=Bj m.d.utf b;let z8:=z17.getD m.d.utf;let z1:List C:=[.own 1,zi m.d.plan.root,zi m.d.plan.deep,zi m.d.plan.most,zi m.d.mode,.own 2,.int .u64 m.d.scan.bits,zi m.d.scan.have_,zi m.d.start,zi m.d.at_,zi m.d.field.number,zi m.d.field.kind,.bool m.d.field.rep,.bool m.d.field.packed,zi m.d.field.msg,zi m.d.wire,zi m.d.want,zi z8.want,zi z8.low,zi z8.high,zi m.d.end_.kind,zi m.d.end_.field,.int .u64 m.d.end_.bits,zi m.d.end_.len,.str m.d.end_.text,zi m.d.end_.code,zi m.d.end_.at_,.own 4];let z2:List C:=[.own 1,zi m.d.plan.root,zi m.d.plan.deep,zi m.d.plan.most,zi m.d.mode,.own 2,.int .u64 m.d.scan.bits,zi m.d.scan.have_,zi m.d.start,zi m.d.at_,zi m.d.field.number,zi m.d.field.kind,.bool m.d.field.rep,.bool m.d.field.packed,zi m.d.field.msg,zi m.d.wire,zi m.d.want,zi z8.want,zi z8.low,zi z8.high,zi m.d.end_.kind,zi m.d.end_.field,.int .u64 m.d.end_.bits,zi m.d.end_.len,.str m.d.end_.text,zi m.d.end_.code,zi m.d.end_.at_,.own 3];let z4:=Ac (⟨(⟨m.d.plan,m.d.mode,m.d.stack,m.d.scan,m.d.start,m.d.at_,m.d.field,m.d.wire,m.d.want,z8,m.d.end_⟩:Dcd),m.out++[z6]⟩:Mac);let z10:List Blk:=[.cells (Ab 4 5 6 z4),.dead,.dead,.dead,.tree z4.d.plan.shapes,.lst .lev z4.d.stack,.lst .ev z4.out];let z15:List Blk:=[.cells z1,.tree m.d.plan.shapes,.lst .lev m.d.stack,.dead,.lst .ev (m.out++[z6])];let z18:=m.d.at_-1;let z9:=A0 m 5 z18;let z13:List Blk:=[.cells (Ab 1 2 4 z9),.tree z9.d.plan.shapes,.lst .lev z9.d.stack,.dead,.lst .ev z9.out];(.br (.seg [.call [] (.tup [.agg (Hg z8),vB z17.isSome]) []] (.br (.seg [.as 31 (.v (vI z18)),.call [0,1,2,3] (.tup []) z13,.at 0,.cut 0 0,.cut 0 5] (.leaf () [0,1,2,3,6,7,5])) (.seg [.as 40 (.v (.c (.int .u8 b))),.ty .u8,.call [0,1,2,3] (.tup []) z15,.call [0,1,2,6] (.tup []) z10] (.leaf () [0,1,2,3,7,8,9])))) (.seg [.as 40 (.v (.c (.int .u8 b))),.ty .u8,.call [0,1,2,3] (.tup []) z12,.call [0,1,2,5] (.tup []) z11] (.leaf () [0,1,2,3,6,7,8])),((decide (m.d.field.kind=6))=true→(Fun Tryz.prog 172 [.agg (Hg m.d.utf),vI b] [] (.tup [.agg (Hg z8),vB z17.isSome]) [])∧((!z17.isSome)=true→((.v (vI (IntKind.i64.wrap z18)):S)= .v (vI z18))∧(Fun Tryz.prog 94 [vP 0,vI 5,vI z18] z14 (.tup []) z13)∧(.tup []:S)= .tup []∧([.cells (Ab 4 5 6 z9),.dead,.dead,.dead,.tree z9.d.plan.shapes,.lst .lev z9.d.stack,.lst .ev z9.out]:List Blk)=z7)∧((!z17.isSome)=false→z16∧(Fun Tryz.prog 93 [vP 0,.agg z3] [.cells z2,.tree m.d.plan.shapes,.lst .lev m.d.stack,.lst .ev m.out] (.tup []) z15)∧(Fun Tryz.prog 120 [vP 0] [.cells z2,.tree m.d.plan.shapes,.lst .lev m.d.stack,.lst .ev (m.out++[z6])] (.tup []) z10)∧(.tup []:S)= .tup []∧(z10:List Blk)=z7))∧((decide (m.d.field.kind=6))=false→z16∧(Fun Tryz.prog 93 [vP 0,.agg z3] z14 (.tup []) z12)∧(Fun Tryz.prog 120 [vP 0] [.cells (Ab 1 2 3 m),.tree (m).d.plan.shapes,.lst .lev (m).d.stack,.lst .ev ((m).out++[z6])] (.tup []) z11)∧(.tup []:S)= .tup []∧(z11:List Blk)=z7))) Q4 ?_
 refine dsp (fun h1 p1=>?_) fun h1 p1=>?_
 refine⟨(Aef m.d.utf _),fun h2=>have q2:=Ap h2;?_,fun h2=>have q2:=Ao h2;?_⟩
 refine⟨(Ae Q2 Q2),(B4 m _ _ Q2),?_⟩
 refine have hm1:Ef m b=(A0 m 5 (m.d.at_-1)):=?_;?_
 rotate_left
 exact⟨rfl,Q5⟩
 refine⟨(Kx Q2 Q2),(E1 (⟨(⟨m.d.plan,m.d.mode,m.d.stack,m.d.scan,m.d.start,m.d.at_,m.d.field,m.d.wire,m.d.want,((Bj m.d.utf b).getD m.d.utf),m.d.end_⟩:Dcd),m.out⟩:Mac) (⟨4,0,0,0,List.map Bc [b],0,0⟩:Ev) Q7),(D0 (⟨(⟨m.d.plan,m.d.mode,m.d.stack,m.d.scan,m.d.start,m.d.at_,m.d.field,m.d.wire,m.d.want,((Bj m.d.utf b).getD m.d.utf),m.d.end_⟩:Dcd),m.out++[(⟨4,0,0,0,List.map Bc [b],0,0⟩:Ev)]⟩:Mac) (Q19) Q15),?_⟩
 refine have hm1:Ef m b=(Ac (⟨(⟨m.d.plan,m.d.mode,m.d.stack,m.d.scan,m.d.start,m.d.at_,m.d.field,m.d.wire,m.d.want,((Bj m.d.utf b).getD m.d.utf),m.d.end_⟩:Dcd),m.out++[(⟨4,0,0,0,List.map Bc [b],0,0⟩:Ev)]⟩:Mac)):=?_;?_
 rotate_left
 exact⟨rfl,Q5⟩
 refine⟨(Kx Q2 Q2),(E1 m (⟨4,0,0,0,List.map Bc [b],0,0⟩:Ev) Q2),(D0 (⟨(m).d,(m).out++[(⟨4,0,0,0,List.map Bc [b],0,0⟩:Ev)]⟩:Mac) (Q19) Q15),?_⟩
 refine have hm1:Ef m b=(Ac (⟨(m).d,(m).out++[(⟨4,0,0,0,List.map Bc [b],0,0⟩:Ev)]⟩:Mac)):=?_;?_
 rotate_left
 exact⟨rfl,Q5⟩
 all_goals first|(simp_all[Ef,Ai8,A0,A1,Zo];done)|(grind[Ef,Ai8,A0,A1,Zo])
theorem Ajw (m:Mac) (b:Int) (hp1:MW (m).d) (hp2:List.length (m).out≤50000000) (hp3:(0:Int)≤b∧b≤255) (hp4:((m).d.stack.length=0∨1≤Dh (m).d)) (hp5:(m).d.at_≤1000000000) (hp6:((m).d.mode=6∨(m).d.mode=7∨(m).d.mode=8)→0≤(m).d.want):Fun Tryz.prog 57 [vP 0,vI b] [.cells (Ab 1 2 3 m),.tree m.d.plan.shapes,.lst .lev m.d.stack,.lst .ev m.out] (.tup []) [.cells (Ab 4 5 6 (D9 m b)),.dead,.dead,.dead,.tree (D9 m b).d.plan.shapes,.lst .lev (D9 m b).d.stack,.lst .ev (D9 m b).out]:=by
 have hN:Bg=274877906944:=rfl
 have hlv:=B0 hp1.lv
 have hpt:=B6 hlv.1
 have htb:=Gk hp1.lv
 have hwm:=Acw m
 have hbb:=hp1.b0
 have hat:=hp1.at_
 have hwt:=hp1.want
 have hwd:=Hw m.d
 have hms:=hp1.step hp4 hp5 hp6
 refine Ar Tryz.func57 Q4 Q4 (w:=let zi:Int→C:= .int .i64;let z13:List C:=[zi m.d.utf.want,zi m.d.utf.low,zi m.d.utf.high,zi m.d.end_.kind,zi m.d.end_.field,.int .u64 m.d.end_.bits,zi m.d.end_.len,.str m.d.end_.text,zi m.d.end_.code,zi m.d.end_.at_];let z14:List C:=[zi m.d.utf.want,zi m.d.utf.low,zi m.d.utf.high,zi m.d.end_.kind,zi m.d.end_.field,.int .u64 m.d.end_.bits,zi m.d.end_.len,.str m.d.end_.text,zi m.d.end_.code,zi m.d.end_.at_,.own 3];let z15:=(⟨m.d.plan,m.d.mode,m.d.stack,m.d.scan,m.d.start,m.d.at_+1,m.d.field,m.d.wire,m.d.want-1,m.d.utf,m.d.end_⟩:Dcd);let z16:=(⟨m.d.plan,m.d.mode,m.d.stack,m.d.scan,m.d.start,m.d.at_+1,m.d.field,m.d.wire,m.d.want,m.d.utf,m.d.end_⟩:Dcd);let z17:List Blk:=[.cells (Ab 4 5 6 (D9 m b)),.dead,.dead,.dead,.tree (D9 m b).d.plan.shapes,.lst .lev (D9 m b).d.stack,.lst .ev (D9 m b).out];let z18:=((List.length m.d.stack:Nat):Int);let z27:=decide (m.d.mode=6);let z29:=decide (m.d.mode=7);let z30:=decide (0<Bp m.d);let z31:=m.d.want-1;let z26:=(.v (vI (IntKind.i64.wrap z31)):S)= .v (vI z31);let z32:=(.tup []:S);let z33:=vI (Bp m.d);let z34:=m.d.at_+1;let z11:List C:= .own 1::zi m.d.plan.root::zi m.d.plan.deep::zi m.d.plan.most::zi m.d.mode:: .own 2:: .int .u64 m.d.scan.bits::zi m.d.scan.have_::zi m.d.start::zi z34::zi m.d.field.number::zi m.d.field.kind:: .bool m.d.field.rep:: .bool m.d.field.packed::zi m.d.field.msg::zi m.d.wire::zi z31::z14;let z12:List C:= .own 1::zi m.d.plan.root::zi m.d.plan.deep::zi m.d.plan.most::zi m.d.mode:: .own 2:: .int .u64 m.d.scan.bits::zi m.d.scan.have_::zi m.d.start::zi z34::zi m.d.field.number::zi m.d.field.kind:: .bool m.d.field.rep:: .bool m.d.field.packed::zi m.d.field.msg::zi m.d.wire::zi m.d.want::z14;let z19:=z34-1;let z28:List Blk:=[.cells z11,.tree m.d.plan.shapes,.lst .lev m.d.stack,.lst .ev m.out];let z35:=Bo (⟨z15,m.out⟩:Mac) b z19;let z20:List Blk:=[.cells (Ab 4 5 6 z35),.dead,.dead,.dead,.tree z35.d.plan.shapes,.lst .lev z35.d.stack,.lst .ev z35.out];let z36:=Bo (⟨z16,m.out⟩:Mac) b z19;let z21:List Blk:=[.cells (Ab 4 5 6 z36),.dead,.dead,.dead,.tree z36.d.plan.shapes,.lst .lev z36.d.stack,.lst .ev z36.out];let z37:=Ef (⟨z15,m.out⟩:Mac) b;let z22:List Blk:=[.cells (Ab 4 5 6 z37),.dead,.dead,.dead,.tree z37.d.plan.shapes,.lst .lev z37.d.stack,.lst .ev z37.out];let z38:=Ac (⟨z15,m.out⟩:Mac);let z23:List Blk:=[.cells (Ab 4 5 6 z38),.dead,.dead,.dead,.tree z38.d.plan.shapes,.lst .lev z38.d.stack,.lst .ev z38.out];let z39:=C9 (⟨z15,m.out⟩:Mac) b;let z24:List Blk:=[.cells (Ab 4 5 6 z39),.dead,.dead,.dead,.tree z39.d.plan.shapes,.lst .lev z39.d.stack,.lst .ev z39.out];let z40:=C9 (⟨z16,m.out⟩:Mac) b;let z25:List Blk:=[.cells (Ab 4 5 6 z40),.dead,.dead,.dead,.tree z40.d.plan.shapes,.lst .lev z40.d.stack,.lst .ev z40.out];let z41:List V:=[vP 0,vI b];let z42:=Int.toNat (z18-1);let z43:=(.v (vI (IntKind.i64.wrap (z18-1))):S)= .v (vI (z18-1));let z44:List Blk:=[.cells z12,.tree m.d.plan.shapes,.lst .lev m.d.stack,.lst .ev m.out];let z45:=decide (m.d.mode=8);let z46:=(0:Int)≤z18-1;let z47:=z27=false;let z48:=z18-1<z18;let z49:=z29=false;(.seg [.as 9 (.v (vI z34))] (.br (.intro (fun (x1:Lev)=>m.d.stack[Int.toNat (z18-1)]? =some x1) fun x1=>let z1:=(⟨m.d.plan,m.d.mode,List.set m.d.stack z42 (⟨x1.msg,x1.left-1⟩:Lev),m.d.scan,m.d.start,m.d.at_+1,m.d.field,m.d.wire,m.d.want-1,m.d.utf,m.d.end_⟩:Dcd);let z2:=(⟨m.d.plan,m.d.mode,List.set m.d.stack z42 (⟨x1.msg,x1.left-1⟩:Lev),m.d.scan,m.d.start,m.d.at_+1,m.d.field,m.d.wire,m.d.want,m.d.utf,m.d.end_⟩:Dcd);.seg [.ord (os 19 [18]) [],.as 31 (.v (vI (z18-1))),.el .lev x1,.as 35 (.v (vI (x1.left-1))),.el .lev x1] (.br (.seg [.as 65 (.v (vI z31)),.br true,.call [0,1,2,3] (.tup []) [.cells (Ab 4 5 6 (Ef (⟨z1,m.out⟩:Mac) b)),.dead,.dead,.dead,.tree (Ef (⟨z1,m.out⟩:Mac) b).d.plan.shapes,.lst .lev (Ef (⟨z1,m.out⟩:Mac) b).d.stack,.lst .ev (Ef (⟨z1,m.out⟩:Mac) b).out]] (.leaf () [0,1,2,3,4,5,6])) (.br (.seg [.as 65 (.v (vI z31)),.br false,.br true,.call [0,1,2,3] (.tup []) [.cells (Ab 4 5 6 (Ac (⟨z1,m.out⟩:Mac))),.dead,.dead,.dead,.tree (Ac (⟨z1,m.out⟩:Mac)).d.plan.shapes,.lst .lev (Ac (⟨z1,m.out⟩:Mac)).d.stack,.lst .ev (Ac (⟨z1,m.out⟩:Mac)).out]] (.leaf () [0,1,2,3,4,5,6])) (.br (.seg [.as 65 (.v (vI z31)),.br false,.br false,.call [] (.v z33) []] (.br (.seg [.call [0,1,2,3] (.tup []) [.cells (Ab 4 5 6 (C9 (⟨z1,m.out⟩:Mac) b)),.dead,.dead,.dead,.tree (C9 (⟨z1,m.out⟩:Mac) b).d.plan.shapes,.lst .lev (C9 (⟨z1,m.out⟩:Mac) b).d.stack,.lst .ev (C9 (⟨z1,m.out⟩:Mac) b).out]] (.leaf () [0,1,2,3,4,5,6])) (.seg [.call [0,1,2,3] (.tup []) [.cells (Ab 4 5 6 (Bo (⟨z1,m.out⟩:Mac) b z19)),.dead,.dead,.dead,.tree (Bo (⟨z1,m.out⟩:Mac) b z19).d.plan.shapes,.lst .lev (Bo (⟨z1,m.out⟩:Mac) b z19).d.stack,.lst .ev (Bo (⟨z1,m.out⟩:Mac) b z19).out]] (.leaf () [0,1,2,3,4,5,6])))) (.seg [.br false,.br false,.call [] (.v z33) []] (.br (.seg [.call [0,1,2,3] (.tup []) [.cells (Ab 4 5 6 (C9 (⟨z2,m.out⟩:Mac) b)),.dead,.dead,.dead,.tree (C9 (⟨z2,m.out⟩:Mac) b).d.plan.shapes,.lst .lev (C9 (⟨z2,m.out⟩:Mac) b).d.stack,.lst .ev (C9 (⟨z2,m.out⟩:Mac) b).out]] (.leaf () [0,1,2,3,4,5,6])) (.seg [.call [0,1,2,3] (.tup []) [.cells (Ab 4 5 6 (Bo (⟨z2,m.out⟩:Mac) b z19)),.dead,.dead,.dead,.tree (Bo (⟨z2,m.out⟩:Mac) b z19).d.plan.shapes,.lst .lev (Bo (⟨z2,m.out⟩:Mac) b z19).d.stack,.lst .ev (Bo (⟨z2,m.out⟩:Mac) b z19).out]] (.leaf () [0,1,2,3,4,5,6])))))))) (.br (.seg [.as 65 (.v (vI z31)),.br true,.call [0,1,2,3] (.tup []) z22] (.leaf () [0,1,2,3,4,5,6])) (.br (.seg [.as 65 (.v (vI z31)),.br false,.br true,.call [0,1,2,3] (.tup []) z23] (.leaf () [0,1,2,3,4,5,6])) (.br (.seg [.as 65 (.v (vI z31)),.br false,.br false,.call [] (.v z33) []] (.br (.seg [.call [0,1,2,3] (.tup []) z24] (.leaf () [0,1,2,3,4,5,6])) (.seg [.call [0,1,2,3] (.tup []) z20] (.leaf () [0,1,2,3,4,5,6])))) (.seg [.br false,.br false,.call [] (.v z33) []] (.br (.seg [.call [0,1,2,3] (.tup []) z25] (.leaf () [0,1,2,3,4,5,6])) (.seg [.call [0,1,2,3] (.tup []) z21] (.leaf () [0,1,2,3,4,5,6])))))))),((.v (vI (IntKind.i64.wrap z34)):S)= .v (vI z34))∧((decide (0<z18))=true→(∃(x1:Lev),m.d.stack[Int.toNat (z18-1)]? =some x1)∧∀(x1:Lev),(m.d.stack[Int.toNat (z18-1)]? =some x1)→(let z8:=m.d.stack[Int.toNat (z18-1)]? =some x1;let z9:=(.v (vI (IntKind.i64.wrap (x1.left-1))):S)= .v (vI (x1.left-1));let z10:=(⟨x1.msg,x1.left-1⟩:Lev);let z3:=(⟨m.d.plan,m.d.mode,List.set m.d.stack z42 z10,m.d.scan,m.d.start,m.d.at_+1,m.d.field,m.d.wire,m.d.want-1,m.d.utf,m.d.end_⟩:Dcd);let z4:=(⟨m.d.plan,m.d.mode,List.set m.d.stack z42 z10,m.d.scan,m.d.start,m.d.at_+1,m.d.field,m.d.wire,m.d.want,m.d.utf,m.d.end_⟩:Dcd);let z7:=List.set m.d.stack z42 z10;let z5:List Blk:=[.cells z11,.tree m.d.plan.shapes,.lst .lev z7,.lst .ev m.out];let z6:List Blk:=[.cells z12,.tree m.d.plan.shapes,.lst .lev z7,.lst .ev m.out];z43∧z43∧z48∧z46∧z48∧z46∧z8∧z8∧z9∧z9∧z48∧z46∧z48∧z46∧z8∧(z27=true→z26∧(z27=true)∧(Fun Tryz.prog 119 z41 z5 (.tup []) [.cells (Ab 4 5 6 (Ef (⟨z3,m.out⟩:Mac) b)),.dead,.dead,.dead,.tree (Ef (⟨z3,m.out⟩:Mac) b).d.plan.shapes,.lst .lev (Ef (⟨z3,m.out⟩:Mac) b).d.stack,.lst .ev (Ef (⟨z3,m.out⟩:Mac) b).out])∧z32= .tup []∧([.cells (Ab 4 5 6 (Ef (⟨z3,m.out⟩:Mac) b)),.dead,.dead,.dead,.tree (Ef (⟨z3,m.out⟩:Mac) b).d.plan.shapes,.lst .lev (Ef (⟨z3,m.out⟩:Mac) b).d.stack,.lst .ev (Ef (⟨z3,m.out⟩:Mac) b).out]:List Blk)=z17)∧(z27=false→(z29=true→z26∧z47∧(z29=true)∧(Fun Tryz.prog 120 [vP 0] z5 (.tup []) [.cells (Ab 4 5 6 (Ac (⟨z3,m.out⟩:Mac))),.dead,.dead,.dead,.tree (Ac (⟨z3,m.out⟩:Mac)).d.plan.shapes,.lst .lev (Ac (⟨z3,m.out⟩:Mac)).d.stack,.lst .ev (Ac (⟨z3,m.out⟩:Mac)).out])∧z32= .tup []∧([.cells (Ab 4 5 6 (Ac (⟨z3,m.out⟩:Mac))),.dead,.dead,.dead,.tree (Ac (⟨z3,m.out⟩:Mac)).d.plan.shapes,.lst .lev (Ac (⟨z3,m.out⟩:Mac)).d.stack,.lst .ev (Ac (⟨z3,m.out⟩:Mac)).out]:List Blk)=z17)∧(z29=false→(z45=true→z26∧z47∧z49∧(Fun Tryz.prog 121 [.agg (.seq .shp m.d.plan.shapes::zi m.d.plan.root::zi m.d.plan.deep::zi m.d.plan.most::zi m.d.mode:: .seq .lev z7:: .int .u64 m.d.scan.bits::zi m.d.scan.have_::zi m.d.start::zi z34::zi m.d.field.number::zi m.d.field.kind:: .bool m.d.field.rep:: .bool m.d.field.packed::zi m.d.field.msg::zi m.d.wire::zi z31::z13)] [] (.v z33) [])∧(z30=true→(Fun Tryz.prog 122 z41 z5 (.tup []) [.cells (Ab 4 5 6 (C9 (⟨z3,m.out⟩:Mac) b)),.dead,.dead,.dead,.tree (C9 (⟨z3,m.out⟩:Mac) b).d.plan.shapes,.lst .lev (C9 (⟨z3,m.out⟩:Mac) b).d.stack,.lst .ev (C9 (⟨z3,m.out⟩:Mac) b).out])∧z32= .tup []∧([.cells (Ab 4 5 6 (C9 (⟨z3,m.out⟩:Mac) b)),.dead,.dead,.dead,.tree (C9 (⟨z3,m.out⟩:Mac) b).d.plan.shapes,.lst .lev (C9 (⟨z3,m.out⟩:Mac) b).d.stack,.lst .ev (C9 (⟨z3,m.out⟩:Mac) b).out]:List Blk)=z17)∧(z30=false→(Fun Tryz.prog 123 z41 z5 (.tup []) [.cells (Ab 4 5 6 (Bo (⟨z3,m.out⟩:Mac) b z19)),.dead,.dead,.dead,.tree (Bo (⟨z3,m.out⟩:Mac) b z19).d.plan.shapes,.lst .lev (Bo (⟨z3,m.out⟩:Mac) b z19).d.stack,.lst .ev (Bo (⟨z3,m.out⟩:Mac) b z19).out])∧z32= .tup []∧([.cells (Ab 4 5 6 (Bo (⟨z3,m.out⟩:Mac) b z19)),.dead,.dead,.dead,.tree (Bo (⟨z3,m.out⟩:Mac) b z19).d.plan.shapes,.lst .lev (Bo (⟨z3,m.out⟩:Mac) b z19).d.stack,.lst .ev (Bo (⟨z3,m.out⟩:Mac) b z19).out]:List Blk)=z17))∧(z45=false→z47∧z49∧(Fun Tryz.prog 121 [.agg (.seq .shp m.d.plan.shapes::zi m.d.plan.root::zi m.d.plan.deep::zi m.d.plan.most::zi m.d.mode:: .seq .lev z7:: .int .u64 m.d.scan.bits::zi m.d.scan.have_::zi m.d.start::zi z34::zi m.d.field.number::zi m.d.field.kind:: .bool m.d.field.rep:: .bool m.d.field.packed::zi m.d.field.msg::zi m.d.wire::zi m.d.want::z13)] [] (.v z33) [])∧(z30=true→(Fun Tryz.prog 122 z41 z6 (.tup []) [.cells (Ab 4 5 6 (C9 (⟨z4,m.out⟩:Mac) b)),.dead,.dead,.dead,.tree (C9 (⟨z4,m.out⟩:Mac) b).d.plan.shapes,.lst .lev (C9 (⟨z4,m.out⟩:Mac) b).d.stack,.lst .ev (C9 (⟨z4,m.out⟩:Mac) b).out])∧z32= .tup []∧([.cells (Ab 4 5 6 (C9 (⟨z4,m.out⟩:Mac) b)),.dead,.dead,.dead,.tree (C9 (⟨z4,m.out⟩:Mac) b).d.plan.shapes,.lst .lev (C9 (⟨z4,m.out⟩:Mac) b).d.stack,.lst .ev (C9 (⟨z4,m.out⟩:Mac) b).out]:List Blk)=z17)∧(z30=false→(Fun Tryz.prog 123 z41 z6 (.tup []) [.cells (Ab 4 5 6 (Bo (⟨z4,m.out⟩:Mac) b z19)),.dead,.dead,.dead,.tree (Bo (⟨z4,m.out⟩:Mac) b z19).d.plan.shapes,.lst .lev (Bo (⟨z4,m.out⟩:Mac) b z19).d.stack,.lst .ev (Bo (⟨z4,m.out⟩:Mac) b z19).out])∧z32= .tup []∧([.cells (Ab 4 5 6 (Bo (⟨z4,m.out⟩:Mac) b z19)),.dead,.dead,.dead,.tree (Bo (⟨z4,m.out⟩:Mac) b z19).d.plan.shapes,.lst .lev (Bo (⟨z4,m.out⟩:Mac) b z19).d.stack,.lst .ev (Bo (⟨z4,m.out⟩:Mac) b z19).out]:List Blk)=z17))))))∧((decide (0<z18))=false→(z27=true→z26∧(z27=true)∧(Fun Tryz.prog 119 z41 z28 (.tup []) z22)∧z32= .tup []∧(z22:List Blk)=z17)∧(z27=false→(z29=true→z26∧z47∧(z29=true)∧(Fun Tryz.prog 120 [vP 0] z28 (.tup []) z23)∧z32= .tup []∧(z23:List Blk)=z17)∧(z29=false→(z45=true→z26∧z47∧z49∧(Fun Tryz.prog 121 [.agg (.seq .shp m.d.plan.shapes::zi m.d.plan.root::zi m.d.plan.deep::zi m.d.plan.most::zi m.d.mode:: .seq .lev m.d.stack:: .int .u64 m.d.scan.bits::zi m.d.scan.have_::zi m.d.start::zi z34::zi m.d.field.number::zi m.d.field.kind:: .bool m.d.field.rep:: .bool m.d.field.packed::zi m.d.field.msg::zi m.d.wire::zi z31::z13)] [] (.v z33) [])∧(z30=true→(Fun Tryz.prog 122 z41 z28 (.tup []) z24)∧z32= .tup []∧(z24:List Blk)=z17)∧(z30=false→(Fun Tryz.prog 123 z41 z28 (.tup []) z20)∧z32= .tup []∧(z20:List Blk)=z17))∧(z45=false→z47∧z49∧(Fun Tryz.prog 121 [.agg (.seq .shp m.d.plan.shapes::zi m.d.plan.root::zi m.d.plan.deep::zi m.d.plan.most::zi m.d.mode:: .seq .lev m.d.stack:: .int .u64 m.d.scan.bits::zi m.d.scan.have_::zi m.d.start::zi z34::zi m.d.field.number::zi m.d.field.kind:: .bool m.d.field.rep:: .bool m.d.field.packed::zi m.d.field.msg::zi m.d.wire::zi m.d.want::z13)] [] (.v z33) [])∧(z30=true→(Fun Tryz.prog 122 z41 z44 (.tup []) z25)∧z32= .tup []∧(z25:List Blk)=z17)∧(z30=false→(Fun Tryz.prog 123 z41 z44 (.tup []) z21)∧z32= .tup []∧(z21:List Blk)=z17))))))) Q4 ?_
 refine⟨(Ae Q2 Q2),dsp (fun h1 p1=>?_) fun h1 p1=>?_⟩
 have hne:m.d.stack≠[]:=fun e=>by have:=congrArg List.length e;simp only[List.length_nil] at this;omega
 refine⟨(Bm (l:=m.d.stack) (i:=Int.toNat (((List.length m.d.stack:Nat):Int)-1)) Q2),fun x1 hx1=>?_⟩
 have hll:=Hs (d:=m.d) (by rw[←hx1];congr 1;omega)
 have hix:Int.toNat ((m.d.stack.length:Int)-1)=m.d.stack.length-1:=by omega
 refine⟨(Ae Q2 Q2),(Ae Q2 Q2),Q2,Q2,Q2,Q2,hx1,hx1,(Ae Q2 Q2),(Ae Q2 Q2),Q2,Q2,Q2,Q2,hx1,dsp (fun h2 p2=>?_) fun h2 p2=>?_⟩
 refine⟨(Ae Q2 Q2),h2,(V7 (⟨(⟨m.d.plan,m.d.mode,List.set m.d.stack (Int.toNat (((List.length m.d.stack:Nat):Int)-1)) (⟨x1.msg,x1.left-1⟩:Lev),m.d.scan,m.d.start,m.d.at_+1,m.d.field,m.d.wire,m.d.want-1,m.d.utf,m.d.end_⟩:Dcd),m.out⟩:Mac) _ (Q20) Q7 Q2),?_⟩
 refine have hm1:D9 m b=(Ef (⟨(⟨m.d.plan,m.d.mode,List.set m.d.stack (Int.toNat (((List.length m.d.stack:Nat):Int)-1)) (⟨x1.msg,x1.left-1⟩:Lev),m.d.scan,m.d.start,m.d.at_+1,m.d.field,m.d.wire,m.d.want-1,m.d.utf,m.d.end_⟩:Dcd),m.out⟩:Mac) b):=?_;?_
 rotate_left
 exact⟨rfl,Q5⟩
 refine dsp (fun h3 p3=>?_) fun h3 p3=>?_
 refine⟨(Ae Q2 Q2),h2,h3,(D0 (⟨(⟨m.d.plan,m.d.mode,List.set m.d.stack (Int.toNat (((List.length m.d.stack:Nat):Int)-1)) (⟨x1.msg,x1.left-1⟩:Lev),m.d.scan,m.d.start,m.d.at_+1,m.d.field,m.d.wire,m.d.want-1,m.d.utf,m.d.end_⟩:Dcd),m.out⟩:Mac) ((by have e:Di m.d=(⟨m.d.plan,m.d.mode,List.set m.d.stack (Int.toNat (((List.length m.d.stack:Nat):Int)-1)) (⟨x1.msg,x1.left-1⟩:Lev),m.d.scan,m.d.start,m.d.at_+1,m.d.field,m.d.wire,m.d.want-1,m.d.utf,m.d.end_⟩:Dcd):=Q26;exact((e▸hms:MW (⟨m.d.plan,m.d.mode,List.set m.d.stack (Int.toNat (((List.length m.d.stack:Nat):Int)-1)) (⟨x1.msg,x1.left-1⟩:Lev),m.d.scan,m.d.start,m.d.at_+1,m.d.field,m.d.wire,m.d.want-1,m.d.utf,m.d.end_⟩:Dcd))).lv)) Q7),?_⟩
 refine have hm1:D9 m b=(Ac (⟨(⟨m.d.plan,m.d.mode,List.set m.d.stack (Int.toNat (((List.length m.d.stack:Nat):Int)-1)) (⟨x1.msg,x1.left-1⟩:Lev),m.d.scan,m.d.start,m.d.at_+1,m.d.field,m.d.wire,m.d.want-1,m.d.utf,m.d.end_⟩:Dcd),m.out⟩:Mac)):=?_;?_
 rotate_left
 exact⟨rfl,Q5⟩
 refine dsp (fun h4 p4=>?_) fun h4 p4=>?_
 refine⟨(Ae Q2 Q2),h2,h3,(Pb (⟨m.d.plan,m.d.mode,List.set m.d.stack (Int.toNat (((List.length m.d.stack:Nat):Int)-1)) (⟨x1.msg,x1.left-1⟩:Lev),m.d.scan,m.d.start,m.d.at_+1,m.d.field,m.d.wire,m.d.want-1,m.d.utf,m.d.end_⟩:Dcd)),dsp (fun h5 p5=>?_) fun h5 p5=>?_⟩
 refine⟨(Ri (⟨(⟨m.d.plan,m.d.mode,List.set m.d.stack (Int.toNat (((List.length m.d.stack:Nat):Int)-1)) (⟨x1.msg,x1.left-1⟩:Lev),m.d.scan,m.d.start,m.d.at_+1,m.d.field,m.d.wire,m.d.want-1,m.d.utf,m.d.end_⟩:Dcd),m.out⟩:Mac) _ (Q20) Q7 Q2),?_⟩
 refine have hm1:D9 m b=(C9 (⟨(⟨m.d.plan,m.d.mode,List.set m.d.stack (Int.toNat (((List.length m.d.stack:Nat):Int)-1)) (⟨x1.msg,x1.left-1⟩:Lev),m.d.scan,m.d.start,m.d.at_+1,m.d.field,m.d.wire,m.d.want-1,m.d.utf,m.d.end_⟩:Dcd),m.out⟩:Mac) b):=?_;?_
 rotate_left
 exact⟨rfl,Q5⟩
 refine⟨(Rh (⟨(⟨m.d.plan,m.d.mode,List.set m.d.stack (Int.toNat (((List.length m.d.stack:Nat):Int)-1)) (⟨x1.msg,x1.left-1⟩:Lev),m.d.scan,m.d.start,m.d.at_+1,m.d.field,m.d.wire,m.d.want-1,m.d.utf,m.d.end_⟩:Dcd),m.out⟩:Mac) _ (Q20) Q7 Q2),?_⟩
 refine have hm1:D9 m b=(Bo (⟨(⟨m.d.plan,m.d.mode,List.set m.d.stack (Int.toNat (((List.length m.d.stack:Nat):Int)-1)) (⟨x1.msg,x1.left-1⟩:Lev),m.d.scan,m.d.start,m.d.at_+1,m.d.field,m.d.wire,m.d.want-1,m.d.utf,m.d.end_⟩:Dcd),m.out⟩:Mac) b ((m.d.at_+1)-1)):=?_;?_
 rotate_left
 exact⟨rfl,Q5⟩
 refine⟨h2,h3,(Pb (⟨m.d.plan,m.d.mode,List.set m.d.stack (Int.toNat (((List.length m.d.stack:Nat):Int)-1)) (⟨x1.msg,x1.left-1⟩:Lev),m.d.scan,m.d.start,m.d.at_+1,m.d.field,m.d.wire,m.d.want,m.d.utf,m.d.end_⟩:Dcd)),dsp (fun h5 p5=>?_) fun h5 p5=>?_⟩
 refine⟨(Ri (⟨(⟨m.d.plan,m.d.mode,List.set m.d.stack (Int.toNat (((List.length m.d.stack:Nat):Int)-1)) (⟨x1.msg,x1.left-1⟩:Lev),m.d.scan,m.d.start,m.d.at_+1,m.d.field,m.d.wire,m.d.want,m.d.utf,m.d.end_⟩:Dcd),m.out⟩:Mac) _ (Q36) Q7 Q2),?_⟩
 refine have hm1:D9 m b=(C9 (⟨(⟨m.d.plan,m.d.mode,List.set m.d.stack (Int.toNat (((List.length m.d.stack:Nat):Int)-1)) (⟨x1.msg,x1.left-1⟩:Lev),m.d.scan,m.d.start,m.d.at_+1,m.d.field,m.d.wire,m.d.want,m.d.utf,m.d.end_⟩:Dcd),m.out⟩:Mac) b):=?_;?_
 rotate_left
 exact⟨rfl,Q5⟩
 refine⟨(Rh (⟨(⟨m.d.plan,m.d.mode,List.set m.d.stack (Int.toNat (((List.length m.d.stack:Nat):Int)-1)) (⟨x1.msg,x1.left-1⟩:Lev),m.d.scan,m.d.start,m.d.at_+1,m.d.field,m.d.wire,m.d.want,m.d.utf,m.d.end_⟩:Dcd),m.out⟩:Mac) _ (Q36) Q7 Q2),?_⟩
 refine have hm1:D9 m b=(Bo (⟨(⟨m.d.plan,m.d.mode,List.set m.d.stack (Int.toNat (((List.length m.d.stack:Nat):Int)-1)) (⟨x1.msg,x1.left-1⟩:Lev),m.d.scan,m.d.start,m.d.at_+1,m.d.field,m.d.wire,m.d.want,m.d.utf,m.d.end_⟩:Dcd),m.out⟩:Mac) b ((m.d.at_+1)-1)):=?_;?_
 rotate_left
 exact⟨rfl,Q5⟩
 have hne:m.d.stack=[]:=List.eq_nil_of_length_eq_zero (by omega)
 refine dsp (fun h2 p2=>?_) fun h2 p2=>?_
 refine⟨(Ae Q2 Q2),h2,(V7 (⟨(⟨m.d.plan,m.d.mode,m.d.stack,m.d.scan,m.d.start,m.d.at_+1,m.d.field,m.d.wire,m.d.want-1,m.d.utf,m.d.end_⟩:Dcd),m.out⟩:Mac) _ (Q32) Q7 Q2),?_⟩
 refine have hm1:D9 m b=(Ef (⟨(⟨m.d.plan,m.d.mode,m.d.stack,m.d.scan,m.d.start,m.d.at_+1,m.d.field,m.d.wire,m.d.want-1,m.d.utf,m.d.end_⟩:Dcd),m.out⟩:Mac) b):=?_;?_
 rotate_left
 exact⟨rfl,Q5⟩
 refine dsp (fun h3 p3=>?_) fun h3 p3=>?_
 refine⟨(Ae Q2 Q2),h2,h3,(D0 (⟨(⟨m.d.plan,m.d.mode,m.d.stack,m.d.scan,m.d.start,m.d.at_+1,m.d.field,m.d.wire,m.d.want-1,m.d.utf,m.d.end_⟩:Dcd),m.out⟩:Mac) (Q19) Q7),?_⟩
 refine have hm1:D9 m b=(Ac (⟨(⟨m.d.plan,m.d.mode,m.d.stack,m.d.scan,m.d.start,m.d.at_+1,m.d.field,m.d.wire,m.d.want-1,m.d.utf,m.d.end_⟩:Dcd),m.out⟩:Mac)):=?_;?_
 rotate_left
 exact⟨rfl,Q5⟩
 refine dsp (fun h4 p4=>?_) fun h4 p4=>?_
 refine⟨(Ae Q2 Q2),h2,h3,(Pb (⟨m.d.plan,m.d.mode,m.d.stack,m.d.scan,m.d.start,m.d.at_+1,m.d.field,m.d.wire,m.d.want-1,m.d.utf,m.d.end_⟩:Dcd)),dsp (fun h5 p5=>?_) fun h5 p5=>?_⟩
 refine⟨(Ri (⟨(⟨m.d.plan,m.d.mode,m.d.stack,m.d.scan,m.d.start,m.d.at_+1,m.d.field,m.d.wire,m.d.want-1,m.d.utf,m.d.end_⟩:Dcd),m.out⟩:Mac) _ (Q32) Q7 Q2),?_⟩
 refine have hm1:D9 m b=(C9 (⟨(⟨m.d.plan,m.d.mode,m.d.stack,m.d.scan,m.d.start,m.d.at_+1,m.d.field,m.d.wire,m.d.want-1,m.d.utf,m.d.end_⟩:Dcd),m.out⟩:Mac) b):=?_;?_
 rotate_left
 exact⟨rfl,Q5⟩
 refine⟨(Rh (⟨(⟨m.d.plan,m.d.mode,m.d.stack,m.d.scan,m.d.start,m.d.at_+1,m.d.field,m.d.wire,m.d.want-1,m.d.utf,m.d.end_⟩:Dcd),m.out⟩:Mac) _ (Q32) Q7 Q2),?_⟩
 refine have hm1:D9 m b=(Bo (⟨(⟨m.d.plan,m.d.mode,m.d.stack,m.d.scan,m.d.start,m.d.at_+1,m.d.field,m.d.wire,m.d.want-1,m.d.utf,m.d.end_⟩:Dcd),m.out⟩:Mac) b ((m.d.at_+1)-1)):=?_;?_
 rotate_left
 exact⟨rfl,Q5⟩
 refine⟨h2,h3,(Pb (⟨m.d.plan,m.d.mode,m.d.stack,m.d.scan,m.d.start,m.d.at_+1,m.d.field,m.d.wire,m.d.want,m.d.utf,m.d.end_⟩:Dcd)),dsp (fun h5 p5=>?_) fun h5 p5=>?_⟩
 refine⟨(Ri (⟨(⟨m.d.plan,m.d.mode,m.d.stack,m.d.scan,m.d.start,m.d.at_+1,m.d.field,m.d.wire,m.d.want,m.d.utf,m.d.end_⟩:Dcd),m.out⟩:Mac) _ (Q45) Q7 Q2),?_⟩
 refine have hm1:D9 m b=(C9 (⟨(⟨m.d.plan,m.d.mode,m.d.stack,m.d.scan,m.d.start,m.d.at_+1,m.d.field,m.d.wire,m.d.want,m.d.utf,m.d.end_⟩:Dcd),m.out⟩:Mac) b):=?_;?_
 rotate_left
 exact⟨rfl,Q5⟩
 refine⟨(Rh (⟨(⟨m.d.plan,m.d.mode,m.d.stack,m.d.scan,m.d.start,m.d.at_+1,m.d.field,m.d.wire,m.d.want,m.d.utf,m.d.end_⟩:Dcd),m.out⟩:Mac) _ (Q45) Q7 Q2),?_⟩
 refine have hm1:D9 m b=(Bo (⟨(⟨m.d.plan,m.d.mode,m.d.stack,m.d.scan,m.d.start,m.d.at_+1,m.d.field,m.d.wire,m.d.want,m.d.utf,m.d.end_⟩:Dcd),m.out⟩:Mac) b ((m.d.at_+1)-1)):=?_;?_
 rotate_left
 exact⟨rfl,Q5⟩
 all_goals first|(simp_all[D9,Di];done)|((have hw0:Bp m.d=0:=(by omega);simp_all[D9,Di];done))|(grind[D9,Di])
theorem Ain (d:Dcd):Fun Tryz.prog 55 [.agg (Bt d)] [] (.v (vB (Eb d))) []:=by
 have hN:Bg=274877906944:=rfl
 refine Ar Tryz.func55 Q4 Q4 (w:=(.br (.leaf () []) (.leaf () []),((!decide (d.mode=9))=true→(.v (vB (decide (d.at_<1000000000))):S)= .v (vB (Eb d))∧([]:List Blk)=[])∧((!decide (d.mode=9))=false→(.v (vB false):S)= .v (vB (Eb d))∧([]:List Blk)=[]))) Q4 ?_
 refine⟨fun h1=>have q1:=Ap h1;have p1:=of_decide_eq_false q1;?_,fun h1=>have q1:=Ao h1;have p1:=of_decide_eq_true q1;?_⟩
 refine⟨(sB ?_),rfl⟩
 rotate_left
 refine⟨(sB ?_),rfl⟩
 rotate_left
 all_goals first|(simp[Eb, *];done)|(simp_all[Eb];done)|(grind[Eb])
end Go.Proofs.YtcmnedgnppnhoaaGreat.Ax
