/- The machine: lengths, numbers, texts. The machine: bytes of numbers. The machine: bytes. The machine: a byte. A byte: the program. A byte keeps a decoder right. A byte keeps a decoder right. -/
import Derived.Test.YtcmnedgnppnhoaaGreatKFnModes2
import Derived.Test.YtcmnedgnppnhoaaGreatKFnModes1
set_option linter.unusedSimpArgs false
set_option linter.unusedVariables false
namespace Go.Proofs.YtcmnedgnppnhoaaGreat.Ax
open Go.RowKit
theorem Anf (m:Mac) (u:Int) (hp1:Bn (m).d=true) (hp2:List.length (m).out≤100000000) (hp3:(0:Int)≤u∧u≤18446744073709551615) (hp4:((m).d.field=fld0∨known (m).d.plan.shapes (m).d.field=true)):Fun Tryz.prog 180 [vP 0,.c (.int .u64 u)] [.cells (Ab 1 2 3 m),.tree m.d.plan.shapes,.lst .lev m.d.stack,.lst .ev m.out] (.tup []) [.cells (Ab 4 5 6 (Cv m u)),.dead,.dead,.dead,.tree (Cv m u).d.plan.shapes,.lst .lev (Cv m u).d.stack,.lst .ev (Cv m u).out]:=by
 have hN:Be=274877906944:=rfl
 have hlv:=Cb hp1
 have hpt:=By hlv.1
 have htb:=H9 hp1
 have hwm:=Agt m
 have hwb:=D5 (Br m.d.field.kind)
 refine Ar Tryz.func180 Q4 Q4 (w:=let zi:Int→C:= .int .i64;let z7:List C:=[.own 1,zi m.d.plan.root,zi m.d.plan.deep,zi m.d.plan.most,zi m.d.mode,.own 2,.int .u64 0,zi 0,zi m.d.start,zi m.d.at_,zi m.d.field.number,zi m.d.field.kind,.bool m.d.field.rep,.bool m.d.field.packed,zi m.d.field.msg,zi m.d.wire,zi u,zi m.d.utf.want,zi m.d.utf.low,zi m.d.utf.high,zi m.d.end_.kind,zi m.d.end_.field,.int .u64 m.d.end_.bits,zi m.d.end_.len,.str m.d.end_.text,zi m.d.end_.code,zi m.d.end_.at_,.own 4];let z8:List C:=[zi m.d.end_.kind,zi m.d.end_.field,.int .u64 m.d.end_.bits,zi m.d.end_.len,.str m.d.end_.text,zi m.d.end_.code,zi m.d.end_.at_,.own 3];let z6:List C:= .own 2:: .int .u64 0::zi 0::zi m.d.start::zi m.d.at_::zi m.d.field.number::zi m.d.field.kind:: .bool m.d.field.rep:: .bool m.d.field.packed::zi m.d.field.msg::zi m.d.wire::zi u::zi m.d.utf.want::zi m.d.utf.low::zi m.d.utf.high::z8;let z9:List C:=[zi m.d.field.number,.int .u64 0,zi u,.str [],zi 0,zi 0];let z16:List Blk:=[.cells (Ab 4 5 6 (Cv m u)),.dead,.dead,.dead,.tree (Cv m u).d.plan.shapes,.lst .lev (Cv m u).d.stack,.lst .ev (Cv m u).out];let z17:=((List.length m.d.stack:Nat):Int);let z19:List Blk:=[.cells (.own 1::zi m.d.plan.root::zi m.d.plan.deep::zi m.d.plan.most::zi m.d.mode::z6),.tree m.d.plan.shapes,.lst .lev m.d.stack,.lst .ev m.out];let z21:List Blk:=[.cells (.own 1::zi m.d.plan.root::zi m.d.plan.deep::zi m.d.plan.most::zi 8::z6),.tree m.d.plan.shapes,.lst .lev m.d.stack,.lst .ev m.out];let z22:List Blk:=[.cells (.own 1::zi m.d.plan.root::zi m.d.plan.deep::zi m.d.plan.most::zi m.d.mode:: .own 2:: .int .u64 0::zi 0::zi m.d.start::zi m.d.at_::zi m.d.field.number::zi m.d.field.kind:: .bool m.d.field.rep:: .bool m.d.field.packed::zi m.d.field.msg::zi m.d.wire::zi m.d.want::zi m.d.utf.want::zi m.d.utf.low::zi m.d.utf.high::z8),.tree m.d.plan.shapes,.lst .lev m.d.stack,.lst .ev m.out];let z25:=(.v (vI (IntKind.i64.wrap (u))):S)= .v (vI u);let z28:=Br m.d.field.kind;let z29:=decide (m.d.field.number=0)&&(decide (m.d.field.kind=0)&&(decide (m.d.field.rep=false)&&(decide (m.d.field.packed=false)&&decide (m.d.field.msg=0))));let z30:=(⟨6,m.d.field.number,0,u,[],0,0⟩:Ev);let z32:=(.tup []:S);let z35:=(⟨3,m.d.field.number,0,u,[],0,0⟩:Ev);let z20:List Blk:=[.cells (.own 1::zi m.d.plan.root::zi m.d.plan.deep::zi m.d.plan.most::zi 6:: .own 2:: .int .u64 0::zi 0::zi m.d.start::zi m.d.at_::zi m.d.field.number::zi m.d.field.kind:: .bool m.d.field.rep:: .bool m.d.field.packed::zi m.d.field.msg::zi m.d.wire::zi u::zi 0::zi 0::zi 0::z8),.tree m.d.plan.shapes,.lst .lev m.d.stack,.lst .ev (m.out++[z35])];let z24:List Blk:=[.cells z7,.tree m.d.plan.shapes,.lst .lev m.d.stack,.dead,.lst .ev (m.out++[z35])];let z37:List Blk:=[.cells z7,.tree m.d.plan.shapes,.lst .lev m.d.stack,.dead,.lst .ev (m.out++[z30])];let z38:=(⟨m.d.field.msg,u⟩:Lev);let z39:=(⟨0,0⟩:Scn);let z11:=Af (⟨(⟨m.d.plan,6,m.d.stack,z39,m.d.start,m.d.at_,m.d.field,m.d.wire,u,(⟨0,0,0⟩:Utf),m.d.end_⟩:Dcd),m.out++[z35]⟩:Mac);let z12:=A7 (⟨(⟨m.d.plan,m.d.mode,m.d.stack,z39,m.d.start,m.d.at_,m.d.field,m.d.wire,m.d.want,m.d.utf,m.d.end_⟩:Dcd),m.out⟩:Mac) 8 m.d.start;let z13:=A7 (⟨(⟨m.d.plan,m.d.mode,m.d.stack,z39,m.d.start,m.d.at_,m.d.field,m.d.wire,u,m.d.utf,m.d.end_⟩:Dcd),m.out⟩:Mac) 6 m.d.start;let z14:=(⟨m.d.plan,8,m.d.stack,z39,m.d.start,m.d.at_,m.d.field,m.d.wire,u,m.d.utf,m.d.end_⟩:Dcd);let z15:=Af (⟨(⟨m.d.plan,7,m.d.stack,z39,m.d.start,m.d.at_,m.d.field,m.d.wire,u,m.d.utf,m.d.end_⟩:Dcd),m.out⟩:Mac);let z18:List Blk:=[.cells (Ab 4 5 6 z11),.dead,.dead,.dead,.tree z11.d.plan.shapes,.lst .lev z11.d.stack,.lst .ev z11.out];let z23:=A7 (⟨z14,m.out⟩:Mac) 9 m.d.at_;let z26:List Blk:=[.cells (Ab 1 2 4 z12),.tree z12.d.plan.shapes,.lst .lev z12.d.stack,.dead,.lst .ev z12.out];let z27:List Blk:=[.cells (Ab 4 5 6 z15),.dead,.dead,.dead,.tree z15.d.plan.shapes,.lst .lev z15.d.stack,.lst .ev z15.out];let z31:=([.cells (Ab 4 5 6 z12),.dead,.dead,.dead,.tree z12.d.plan.shapes,.lst .lev z12.d.stack,.lst .ev z12.out]:List Blk);let z33:List Blk:=[.cells (Ab 1 2 4 z13),.tree z13.d.plan.shapes,.lst .lev z13.d.stack,.dead,.lst .ev z13.out];let z34:List Blk:=[.cells (Ab 1 2 4 z23),.tree z23.d.plan.shapes,.lst .lev z23.d.stack,.dead,.lst .ev z23.out];let z36:=Af (⟨z14,m.out⟩:Mac);let z10:List Blk:=[.cells (Ab 4 5 6 z36),.dead,.dead,.dead,.tree z36.d.plan.shapes,.lst .lev z36.d.stack,.lst .ev z36.out];let z40:=(.v (vI (IntKind.i64.wrap (z17-1))):S)= .v (vI (z17-1));let z41:=(0:Int)≤z17-1;let z42:=Az z28;let z43:=z17-1<z17;(.br (.seg [.call [0,1,2,3] (.tup []) z26,.at 0,.cut 0 0,.cut 0 5] (.leaf () [0,1,2,3,5,6,4])) (.seg [.call [] (.v (vI (Ef m.d))) [],.as 25 (.v (.c (.int .u64 (Ef m.d))))] (.br (.seg [.call [0,1,2,3] (.tup []) z26,.at 0,.cut 0 0,.cut 0 5] (.leaf () [0,1,2,3,5,6,4])) (.seg [.as 42 (.v (vI u))] (.br (.seg [.call [0,1,2,3] (.tup []) z27] (.leaf () [0,1,2,3,5,6,7])) (.br (.seg [.ord (os 13 []) []] (.br (.seg [.call [0,1,2,3] (.tup []) z33,.at 0,.cut 0 0,.cut 0 5] (.leaf () [0,1,2,3,6,7,5])) (.seg [.as 109 (.v (vI u)),.call [0,1,2,3] (.tup []) z37] (.intro (fun (x1:Lev)=>m.d.stack[Int.toNat (z17-1)]? =some x1) fun x1=>let z1:=Af (⟨(⟨m.d.plan,2,(List.set m.d.stack (Int.toNat (z17-1)) (⟨x1.msg,x1.left-u⟩:Lev))++[z38],z39,m.d.start,m.d.at_,m.d.field,m.d.wire,0,m.d.utf,m.d.end_⟩:Dcd),m.out++[z30]⟩:Mac);.seg [.ord (os 21 [20]) [],.as 123 (.v (vI (z17-1))),.el .lev x1,.as 128 (.v (vI u)),.as 129 (.v (vI (x1.left-u))),.el .lev x1,.ord (os 17 [11,12,16]) [2],.as 141 (.v (vI u)),.ty .lev,.ty .lev,.call [0,1,7,5] (.tup []) [.cells (Ab 4 5 6 z1),.dead,.dead,.dead,.tree z1.d.plan.shapes,.lst .lev z1.d.stack,.lst .ev z1.out]] (.leaf () [0,1,2,3,8,9,10]))))) (.br (.seg [.as 169 (.v (vI u)),.call [0,1,2,3] (.tup []) z24,.call [0,1,2,5] (.tup []) z18] (.leaf () [0,1,2,3,6,7,8])) (.br (.seg [.as 169 (.v (vI u)),.call [0,1,2,3] (.tup []) z24,.call [0,1,2,5] (.tup []) z18] (.leaf () [0,1,2,3,6,7,8])) (.seg [.call [] (.v (vI z28)) [],.call [] (.v (vI z42)) []] (.br (.br (.seg [.as 63 (.v (.c (.int .u64 z42)))] (.br (.seg [.call [0,1,2,3] (.tup []) z34,.at 0,.cut 0 0,.cut 0 5] (.leaf () [0,1,2,3,6,7,5])) (.seg [.call [0,1,2,3] (.tup []) z10] (.leaf () [0,1,2,3,5,6,7])))) (.seg [.call [0,1,2,3] (.tup []) z10] (.leaf () [0,1,2,3,5,6,7]))) (.seg [.call [0,1,2,3] (.tup []) z10] (.leaf () [0,1,2,3,5,6,7]))))))))))),((decide (z17=0))=true→(Fun Tryz.prog 94 [vP 0,vI 8,vI m.d.start] z22 (.tup []) z26)∧z32= .tup []∧z31=z16)∧((decide (z17=0))=false→(Fun Tryz.prog 85 [.agg [.seq .shp m.d.plan.shapes,zi m.d.plan.root,zi m.d.plan.deep,zi m.d.plan.most,zi m.d.mode,.seq .lev m.d.stack,.int .u64 0,zi 0,zi m.d.start,zi m.d.at_,zi m.d.field.number,zi m.d.field.kind,.bool m.d.field.rep,.bool m.d.field.packed,zi m.d.field.msg,zi m.d.wire,zi m.d.want,zi m.d.utf.want,zi m.d.utf.low,zi m.d.utf.high,zi m.d.end_.kind,zi m.d.end_.field,.int .u64 m.d.end_.bits,zi m.d.end_.len,.str m.d.end_.text,zi m.d.end_.code,zi m.d.end_.at_]] [] (.v (vI (Ef m.d))) [])∧((.v (.c (.int .u64 (IntKind.u64.wrap (Ef m.d)))):S)= .v (.c (.int .u64 (Ef m.d))))∧((decide (Ef m.d<u))=true→(Fun Tryz.prog 94 [vP 0,vI 8,vI m.d.start] z22 (.tup []) z26)∧z32= .tup []∧z31=z16)∧((decide (Ef m.d<u))=false→z25∧(z29=true→(Fun Tryz.prog 120 [vP 0] [.cells (.own 1::zi m.d.plan.root::zi m.d.plan.deep::zi m.d.plan.most::zi 7::z6),.tree m.d.plan.shapes,.lst .lev m.d.stack,.lst .ev m.out] (.tup []) z27)∧z32= .tup []∧(z27:List Blk)=z16)∧(z29=false→((decide (m.d.field.kind=8))=true→((decide (m.d.plan.deep≤z17))=true→(Fun Tryz.prog 94 [vP 0,vI 6,vI m.d.start] z19 (.tup []) z33)∧z32= .tup []∧([.cells (Ab 4 5 6 z13),.dead,.dead,.dead,.tree z13.d.plan.shapes,.lst .lev z13.d.stack,.lst .ev z13.out]:List Blk)=z16)∧((decide (m.d.plan.deep≤z17))=false→z25∧(Fun Tryz.prog 93 [vP 0,.agg (zi 6::z9)] z19 (.tup []) z37)∧(∃(x1:Lev),m.d.stack[Int.toNat (z17-1)]? =some x1)∧∀(x1:Lev),(m.d.stack[Int.toNat (z17-1)]? =some x1)→(let z3:=List.set m.d.stack (Int.toNat (z17-1)) (⟨x1.msg,x1.left-u⟩:Lev);let z2:=Af (⟨(⟨m.d.plan,2,z3++[z38],z39,m.d.start,m.d.at_,m.d.field,m.d.wire,0,m.d.utf,m.d.end_⟩:Dcd),m.out++[z30]⟩:Mac);let z4:=m.d.stack[Int.toNat (z17-1)]? =some x1;let z5:=(.v (vI (IntKind.i64.wrap (x1.left-u))):S)= .v (vI (x1.left-u));z40∧z40∧z43∧z41∧z43∧z41∧z4∧z4∧z25∧z25∧z5∧z5∧z43∧z41∧z43∧z41∧z4∧z25∧z25∧(List.length z3+List.length [z38]≤Be)∧(Fun Tryz.prog 120 [vP 0] [.cells (.own 1::zi m.d.plan.root::zi m.d.plan.deep::zi m.d.plan.most::zi 2:: .own 2:: .int .u64 0::zi 0::zi m.d.start::zi m.d.at_::zi m.d.field.number::zi m.d.field.kind:: .bool m.d.field.rep:: .bool m.d.field.packed::zi m.d.field.msg::zi m.d.wire::zi 0::zi m.d.utf.want::zi m.d.utf.low::zi m.d.utf.high::z8),.tree m.d.plan.shapes,.lst .lev (z3++[z38]),.lst .ev (m.out++[z30])] (.tup []) [.cells (Ab 4 5 6 z2),.dead,.dead,.dead,.tree z2.d.plan.shapes,.lst .lev z2.d.stack,.lst .ev z2.out])∧z32= .tup []∧([.cells (Ab 4 5 6 z2),.dead,.dead,.dead,.tree z2.d.plan.shapes,.lst .lev z2.d.stack,.lst .ev z2.out]:List Blk)=z16)))∧((decide (m.d.field.kind=8))=false→((decide (m.d.field.kind=6))=true→z25∧(Fun Tryz.prog 93 [vP 0,.agg (zi 3::z9)] z19 (.tup []) z24)∧(Fun Tryz.prog 120 [vP 0] z20 (.tup []) z18)∧z32= .tup []∧(z18:List Blk)=z16)∧((decide (m.d.field.kind=6))=false→((decide (m.d.field.kind=7))=true→z25∧(Fun Tryz.prog 93 [vP 0,.agg (zi 3::z9)] z19 (.tup []) z24)∧(Fun Tryz.prog 120 [vP 0] z20 (.tup []) z18)∧z32= .tup []∧(z18:List Blk)=z16)∧((decide (m.d.field.kind=7))=false→(Fun Tryz.prog 174 [vI m.d.field.kind] [] (.v (vI z28)) [])∧(Fun Tryz.prog 146 [vI z28] [] (.v (vI z42)) [])∧((decide (0<Az z28))=true→((decide (0<u))=true→((.v (.c (.int .u64 (IntKind.u64.wrap z42))):S)= .v (.c (.int .u64 z42)))∧((decide (u<Az z28))=true→(Fun Tryz.prog 94 [vP 0,vI 9,vI m.d.at_] z21 (.tup []) z34)∧z32= .tup []∧([.cells (Ab 4 5 6 z23),.dead,.dead,.dead,.tree z23.d.plan.shapes,.lst .lev z23.d.stack,.lst .ev z23.out]:List Blk)=z16)∧((decide (u<Az z28))=false→(Fun Tryz.prog 120 [vP 0] z21 (.tup []) z10)∧z32= .tup []∧(z10:List Blk)=z16))∧((decide (0<u))=false→(Fun Tryz.prog 120 [vP 0] z21 (.tup []) z10)∧z32= .tup []∧(z10:List Blk)=z16))∧((decide (0<Az z28))=false→(Fun Tryz.prog 120 [vP 0] z21 (.tup []) z10)∧z32= .tup []∧(z10:List Blk)=z16))))))))) Q4 ?_
 refine dsp (fun h1 p1=>?_) fun h1 p1=>?_
 refine⟨(Co (⟨(⟨m.d.plan,m.d.mode,m.d.stack,(⟨0,0⟩:Scn),m.d.start,m.d.at_,m.d.field,m.d.wire,m.d.want,m.d.utf,m.d.end_⟩:Dcd),m.out⟩:Mac) _ _ Q7),?_⟩
 refine have hm1:Cv m u=(A7 (⟨(⟨m.d.plan,m.d.mode,m.d.stack,(⟨0,0⟩:Scn),m.d.start,m.d.at_,m.d.field,m.d.wire,m.d.want,m.d.utf,m.d.end_⟩:Dcd),m.out⟩:Mac) 8 m.d.start):=?_;?_
 rotate_left
 exact⟨rfl,Q5⟩
 refine⟨(Ep (⟨m.d.plan,m.d.mode,m.d.stack,(⟨0,0⟩:Scn),m.d.start,m.d.at_,m.d.field,m.d.wire,m.d.want,m.d.utf,m.d.end_⟩:Dcd) Q7),(Bp Q2 Q2),dsp (fun h2 p2=>?_) fun h2 p2=>?_⟩
 refine⟨(Co (⟨(⟨m.d.plan,m.d.mode,m.d.stack,(⟨0,0⟩:Scn),m.d.start,m.d.at_,m.d.field,m.d.wire,m.d.want,m.d.utf,m.d.end_⟩:Dcd),m.out⟩:Mac) _ _ Q7),?_⟩
 refine have hm1:Cv m u=(A7 (⟨(⟨m.d.plan,m.d.mode,m.d.stack,(⟨0,0⟩:Scn),m.d.start,m.d.at_,m.d.field,m.d.wire,m.d.want,m.d.utf,m.d.end_⟩:Dcd),m.out⟩:Mac) 8 m.d.start):=?_;?_
 rotate_left
 exact⟨rfl,Q5⟩
 refine⟨(Ac Q2 Q2),fun h3=>have p3:=(Cw dT (Cw dT (Cw dT (Cw dT dT)))).1 h3;?_,fun h3=>have p3:=(Cx dT (Cx dT (Cx dT (Cx dT dF)))).1 h3;?_⟩
 refine⟨(E3 (⟨(⟨m.d.plan,7,m.d.stack,(⟨0,0⟩:Scn),m.d.start,m.d.at_,m.d.field,m.d.wire,u,m.d.utf,m.d.end_⟩:Dcd),m.out⟩:Mac) (Q14) Q7),?_⟩
 refine have hm1:Cv m u=(Af (⟨(⟨m.d.plan,7,m.d.stack,(⟨0,0⟩:Scn),m.d.start,m.d.at_,m.d.field,m.d.wire,u,m.d.utf,m.d.end_⟩:Dcd),m.out⟩:Mac)):=?_;?_
 rotate_left
 exact⟨rfl,Q5⟩
 refine dsp (fun h4 p4=>?_) fun h4 p4=>?_
 refine dsp (fun h5 p5=>?_) fun h5 p5=>?_
 refine⟨(Co (⟨(⟨m.d.plan,m.d.mode,m.d.stack,(⟨0,0⟩:Scn),m.d.start,m.d.at_,m.d.field,m.d.wire,u,m.d.utf,m.d.end_⟩:Dcd),m.out⟩:Mac) _ _ Q7),?_⟩
 refine have hm1:Cv m u=(A7 (⟨(⟨m.d.plan,m.d.mode,m.d.stack,(⟨0,0⟩:Scn),m.d.start,m.d.at_,m.d.field,m.d.wire,u,m.d.utf,m.d.end_⟩:Dcd),m.out⟩:Mac) 6 m.d.start):=?_;?_
 rotate_left
 exact⟨rfl,Q5⟩
 refine⟨(Ac Q2 Q2),(Gu (⟨(⟨m.d.plan,m.d.mode,m.d.stack,(⟨0,0⟩:Scn),m.d.start,m.d.at_,m.d.field,m.d.wire,u,m.d.utf,m.d.end_⟩:Dcd),m.out⟩:Mac) (⟨6,m.d.field.number,0,u,[],0,0⟩:Ev) Q7),(Bq (l:=m.d.stack) (i:=Int.toNat (((List.length m.d.stack:Nat):Int)-1)) Q2),fun x1 hx1=>?_⟩
 have hll:=Kv (d:=m.d) (by rw[←hx1];congr 1;omega)
 have hix:Int.toNat ((m.d.stack.length:Int)-1)=m.d.stack.length-1:=by omega
 refine⟨(Ac Q2 Q2),(Ac Q2 Q2),Q2,Q2,Q2,Q2,hx1,hx1,(Ac Q2 Q2),(Ac Q2 Q2),(Ac Q2 Q2),(Ac Q2 Q2),Q2,Q2,Q2,Q2,hx1,(Ac Q2 Q2),(Ac Q2 Q2),Q80,(E3 (⟨(⟨m.d.plan,2,(List.set m.d.stack (Int.toNat (((List.length m.d.stack:Nat):Int)-1)) (⟨x1.msg,x1.left-u⟩:Lev))++[(⟨m.d.field.msg,u⟩:Lev)],(⟨0,0⟩:Scn),m.d.start,m.d.at_,m.d.field,m.d.wire,0,m.d.utf,m.d.end_⟩:Dcd),m.out++[(⟨6,m.d.field.number,0,u,[],0,0⟩:Ev)]⟩:Mac) (Q14) Q17),?_⟩
 refine have hm1:Cv m u=(Af (⟨(⟨m.d.plan,2,(List.set m.d.stack (Int.toNat (((List.length m.d.stack:Nat):Int)-1)) (⟨x1.msg,x1.left-u⟩:Lev))++[(⟨m.d.field.msg,u⟩:Lev)],(⟨0,0⟩:Scn),m.d.start,m.d.at_,m.d.field,m.d.wire,0,m.d.utf,m.d.end_⟩:Dcd),m.out++[(⟨6,m.d.field.number,0,u,[],0,0⟩:Ev)]⟩:Mac)):=?_;?_
 rotate_left
 exact⟨rfl,Q5⟩
 refine dsp (fun h5 p5=>?_) fun h5 p5=>?_
 refine⟨(Ac Q2 Q2),(Gu (⟨(⟨m.d.plan,m.d.mode,m.d.stack,(⟨0,0⟩:Scn),m.d.start,m.d.at_,m.d.field,m.d.wire,u,m.d.utf,m.d.end_⟩:Dcd),m.out⟩:Mac) (⟨3,m.d.field.number,0,u,[],0,0⟩:Ev) Q7),(E3 (⟨(⟨m.d.plan,6,m.d.stack,(⟨0,0⟩:Scn),m.d.start,m.d.at_,m.d.field,m.d.wire,u,(⟨0,0,0⟩:Utf),m.d.end_⟩:Dcd),m.out++[(⟨3,m.d.field.number,0,u,[],0,0⟩:Ev)]⟩:Mac) (Q14) Q17),?_⟩
 refine have hm1:Cv m u=(Af (⟨(⟨m.d.plan,6,m.d.stack,(⟨0,0⟩:Scn),m.d.start,m.d.at_,m.d.field,m.d.wire,u,(⟨0,0,0⟩:Utf),m.d.end_⟩:Dcd),m.out++[(⟨3,m.d.field.number,0,u,[],0,0⟩:Ev)]⟩:Mac)):=?_;?_
 rotate_left
 exact⟨rfl,Q5⟩
 refine dsp (fun h6 p6=>?_) fun h6 p6=>?_
 refine⟨(Ac Q2 Q2),(Gu (⟨(⟨m.d.plan,m.d.mode,m.d.stack,(⟨0,0⟩:Scn),m.d.start,m.d.at_,m.d.field,m.d.wire,u,m.d.utf,m.d.end_⟩:Dcd),m.out⟩:Mac) (⟨3,m.d.field.number,0,u,[],0,0⟩:Ev) Q7),(E3 (⟨(⟨m.d.plan,6,m.d.stack,(⟨0,0⟩:Scn),m.d.start,m.d.at_,m.d.field,m.d.wire,u,(⟨0,0,0⟩:Utf),m.d.end_⟩:Dcd),m.out++[(⟨3,m.d.field.number,0,u,[],0,0⟩:Ev)]⟩:Mac) (Q14) Q17),?_⟩
 refine have hm1:Cv m u=(Af (⟨(⟨m.d.plan,6,m.d.stack,(⟨0,0⟩:Scn),m.d.start,m.d.at_,m.d.field,m.d.wire,u,(⟨0,0,0⟩:Utf),m.d.end_⟩:Dcd),m.out++[(⟨3,m.d.field.number,0,u,[],0,0⟩:Ev)]⟩:Mac)):=?_;?_
 rotate_left
 exact⟨rfl,Q5⟩
 refine⟨(V9 _),(Fw _),dsp (fun h7 p7=>?_) fun h7 p7=>?_⟩
 refine dsp (fun h8 p8=>?_) fun h8 p8=>?_
 refine⟨(Bp Q2 Q2),dsp (fun h9 p9=>?_) fun h9 p9=>?_⟩
 refine⟨(Co (⟨(⟨m.d.plan,8,m.d.stack,(⟨0,0⟩:Scn),m.d.start,m.d.at_,m.d.field,m.d.wire,u,m.d.utf,m.d.end_⟩:Dcd),m.out⟩:Mac) _ _ Q7),?_⟩
 refine have hm1:Cv m u=(A7 (⟨(⟨m.d.plan,8,m.d.stack,(⟨0,0⟩:Scn),m.d.start,m.d.at_,m.d.field,m.d.wire,u,m.d.utf,m.d.end_⟩:Dcd),m.out⟩:Mac) 9 m.d.at_):=?_;?_
 rotate_left
 exact⟨rfl,Q5⟩
 refine⟨(E3 (⟨(⟨m.d.plan,8,m.d.stack,(⟨0,0⟩:Scn),m.d.start,m.d.at_,m.d.field,m.d.wire,u,m.d.utf,m.d.end_⟩:Dcd),m.out⟩:Mac) (Q14) Q7),?_⟩
 refine have hm1:Cv m u=(Af (⟨(⟨m.d.plan,8,m.d.stack,(⟨0,0⟩:Scn),m.d.start,m.d.at_,m.d.field,m.d.wire,u,m.d.utf,m.d.end_⟩:Dcd),m.out⟩:Mac)):=?_;?_
 rotate_left
 exact⟨rfl,Q5⟩
 refine⟨(E3 (⟨(⟨m.d.plan,8,m.d.stack,(⟨0,0⟩:Scn),m.d.start,m.d.at_,m.d.field,m.d.wire,u,m.d.utf,m.d.end_⟩:Dcd),m.out⟩:Mac) (Q14) Q7),?_⟩
 refine have hm1:Cv m u=(Af (⟨(⟨m.d.plan,8,m.d.stack,(⟨0,0⟩:Scn),m.d.start,m.d.at_,m.d.field,m.d.wire,u,m.d.utf,m.d.end_⟩:Dcd),m.out⟩:Mac)):=?_;?_
 rotate_left
 exact⟨rfl,Q5⟩
 refine⟨(E3 (⟨(⟨m.d.plan,8,m.d.stack,(⟨0,0⟩:Scn),m.d.start,m.d.at_,m.d.field,m.d.wire,u,m.d.utf,m.d.end_⟩:Dcd),m.out⟩:Mac) (Q14) Q7),?_⟩
 refine have hm1:Cv m u=(Af (⟨(⟨m.d.plan,8,m.d.stack,(⟨0,0⟩:Scn),m.d.start,m.d.at_,m.d.field,m.d.wire,u,m.d.utf,m.d.end_⟩:Dcd),m.out⟩:Mac)):=?_;?_
 rotate_left
 exact⟨rfl,Q5⟩
 all_goals first|((have e0:m.d.field≠fld0:=(fun h=>by have:=congrArg Fld.kind h;simp only[fld0] at this;omega);have e1: ¬(m.d.stack.length=0∨Ef m.d<u):=(by omega);have e2: ¬m.d.plan.deep≤(m.d.stack.length:Int):=(by omega);unfold Cv;rw[if_neg e1,if_neg e0,if_pos (by assumption),if_neg e2,hll.1,hll.2,hix];rfl))|(simp_all[Cv,A7,A8,Adm,Adn,Dc,Hb,utf0,scn0];done)|(grind[Cv,A7,A8,Adm,Adn,Dc,Hb,utf0,scn0])
theorem Adq (m:Mac) (u:Int) (hp1:List.length (m).out≤100000000) (hp2:(0:Int)≤u∧u≤18446744073709551615):Fun Tryz.prog 176 [vP 0,.c (.int .u64 u)] [.cells (Ab 1 2 3 m),.tree m.d.plan.shapes,.lst .lev m.d.stack,.lst .ev m.out] (.tup []) [.cells (Ab 1 2 4 (Bz m u)),.tree (Bz m u).d.plan.shapes,.lst .lev (Bz m u).d.stack,.dead,.lst .ev (Bz m u).out]:=by
 have hN:Be=274877906944:=rfl
 refine Ar Tryz.func176 Q4 Q4 (w:=let zi:Int→C:= .int .i64;let z1:List C:=[.own 1,zi m.d.plan.root,zi m.d.plan.deep,zi m.d.plan.most,zi 2,.own 2,.int .u64 m.d.scan.bits,zi m.d.scan.have_,zi m.d.start,zi m.d.at_,zi m.d.field.number,zi m.d.field.kind,.bool m.d.field.rep,.bool m.d.field.packed,zi m.d.field.msg,zi m.d.wire,zi m.d.want,zi m.d.utf.want,zi m.d.utf.low,zi m.d.utf.high,zi m.d.end_.kind,zi m.d.end_.field,.int .u64 m.d.end_.bits,zi m.d.end_.len,.str m.d.end_.text,zi m.d.end_.code,zi m.d.end_.at_,.own 4];let z2:= !(decide (m.d.field.number=0)&&(decide (m.d.field.kind=0)&&(decide (m.d.field.rep=false)&&(decide (m.d.field.packed=false)&&decide (m.d.field.msg=0)))));let z3:List Blk:=[.cells (Ab 1 2 4 (Bz m u)),.tree (Bz m u).d.plan.shapes,.lst .lev (Bz m u).d.stack,.dead,.lst .ev (Bz m u).out];let z6:=D1 m.d.field u;let z4:List Blk:=[.cells (Ab 1 2 4 m),.tree (m).d.plan.shapes,.lst .lev (m).d.stack,.dead,.lst .ev ((m).out++[z6])];let z5:List Blk:=[.cells z1,.tree m.d.plan.shapes,.lst .lev m.d.stack,.dead,.lst .ev (m.out++[z6])];let z7:=(.tup []:S);(.br (.br (.seg [.call [] (.v (.agg (cEv z6))) [],.call [0,1,2,3] (.tup []) z5] (.leaf () [0,1,2,3,4])) (.seg [.at 0,.cut 0 27] (.leaf () [0,1,2,3,4]))) (.br (.seg [.call [] (.v (.agg (cEv z6))) [],.call [0,1,2,3] (.tup []) z4] (.leaf () [0,1,2,3,4])) (.seg [.at 0,.cut 0 27] (.leaf () [0,1,2,3,4]))),((!decide (m.d.mode=8))=true→(z2=true→(Fun Tryz.prog 163 [.agg (Ej m.d.field),.c (.int .u64 u)] [] (.v (.agg (cEv z6))) [])∧(Fun Tryz.prog 93 [vP 0,.agg (cEv z6)] [.cells [.own 1,zi m.d.plan.root,zi m.d.plan.deep,zi m.d.plan.most,zi 2,.own 2,.int .u64 m.d.scan.bits,zi m.d.scan.have_,zi m.d.start,zi m.d.at_,zi m.d.field.number,zi m.d.field.kind,.bool m.d.field.rep,.bool m.d.field.packed,zi m.d.field.msg,zi m.d.wire,zi m.d.want,zi m.d.utf.want,zi m.d.utf.low,zi m.d.utf.high,zi m.d.end_.kind,zi m.d.end_.field,.int .u64 m.d.end_.bits,zi m.d.end_.len,.str m.d.end_.text,zi m.d.end_.code,zi m.d.end_.at_,.own 3],.tree m.d.plan.shapes,.lst .lev m.d.stack,.lst .ev m.out] (.tup []) z5)∧z7= .tup []∧(z5:List Blk)=z3)∧(z2=false→z7= .tup []∧([.cells z1,.tree m.d.plan.shapes,.lst .lev m.d.stack,.dead,.lst .ev m.out]:List Blk)=z3))∧((!decide (m.d.mode=8))=false→(z2=true→(Fun Tryz.prog 163 [.agg (Ej m.d.field),.c (.int .u64 u)] [] (.v (.agg (cEv z6))) [])∧(Fun Tryz.prog 93 [vP 0,.agg (cEv z6)] [.cells (Ab 1 2 3 m),.tree m.d.plan.shapes,.lst .lev m.d.stack,.lst .ev m.out] (.tup []) z4)∧z7= .tup []∧(z4:List Blk)=z3)∧(z2=false→z7= .tup []∧([.cells (Ab 1 2 4 m),.tree m.d.plan.shapes,.lst .lev m.d.stack,.dead,.lst .ev m.out]:List Blk)=z3)))) Q4 ?_
 refine⟨fun h1=>have q1:=Ap h1;have p1:=of_decide_eq_false q1;?_,fun h1=>have q1:=Ao h1;have p1:=of_decide_eq_true q1;?_⟩
 refine⟨fun h2=>have q2:=Ap h2;have p2:=(Cx dT (Cx dT (Cx dT (Cx dT dF)))).1 q2;?_,fun h2=>have q2:=Ao h2;have p2:=(Cw dT (Cw dT (Cw dT (Cw dT dT)))).1 q2;?_⟩
 refine⟨(Rs m.d.field _ Q2),(Gu (⟨(⟨m.d.plan,2,m.d.stack,m.d.scan,m.d.start,m.d.at_,m.d.field,m.d.wire,m.d.want,m.d.utf,m.d.end_⟩:Dcd),m.out⟩:Mac) (D1 m.d.field u) Q7),?_⟩
 refine have hm1:Bz m u=(⟨(⟨m.d.plan,2,m.d.stack,m.d.scan,m.d.start,m.d.at_,m.d.field,m.d.wire,m.d.want,m.d.utf,m.d.end_⟩:Dcd),m.out++[(D1 m.d.field u)]⟩:Mac):=?_;?_
 rotate_left
 exact⟨rfl,Q5⟩
 refine have hm1:Bz m u=(⟨(⟨m.d.plan,2,m.d.stack,m.d.scan,m.d.start,m.d.at_,m.d.field,m.d.wire,m.d.want,m.d.utf,m.d.end_⟩:Dcd),m.out⟩:Mac):=?_;?_
 rotate_left
 exact⟨rfl,Q5⟩
 refine⟨fun h2=>have q2:=Ap h2;have p2:=(Cx dT (Cx dT (Cx dT (Cx dT dF)))).1 q2;?_,fun h2=>have q2:=Ao h2;have p2:=(Cw dT (Cw dT (Cw dT (Cw dT dT)))).1 q2;?_⟩
 refine⟨(Rs m.d.field _ Q2),(Gu m (D1 m.d.field u) Q2),?_⟩
 refine have hm1:Bz m u=(⟨(m).d,(m).out++[(D1 m.d.field u)]⟩:Mac):=?_;?_
 rotate_left
 exact⟨rfl,Q5⟩
 refine have hm1:Bz m u=m:=?_;?_
 rotate_left
 exact⟨rfl,Q5⟩
 all_goals first|(simp_all[Bz,Dc];done)|((cases m with|mk d o=>cases d;simp_all[Bz,Dc];done))|((cases m with|mk d o=>cases d;grind[Bz,Dc]))|(grind[Bz,Dc])
theorem Aey (b:Int):Fun Tryz.prog 56 [vI b] [] (.v (vB (Aq b 0 255))) []:=by
 have hN:Be=274877906944:=rfl
 refine Ar Tryz.func56 Q4 Q4 (w:=let z1:=vB (Aq b 0 255);(.seg [.call [] (.v z1) []] (.leaf () []),(Fun Tryz.prog 79 [vI b,vI 0,vI 255] [] (.v z1) [])∧(.v z1:S)= .v z1∧([]:List Blk)=[])) Q4 ?_
 exact⟨(Ch _ _ _),rfl,rfl⟩
theorem Nd (s:Scn) (b:Int) (hp1:(0:Int)≤(s).bits∧(s).bits≤18446744073709551615):Fun Tryz.prog 177 [.agg (Qb s),vI b] [] (.tup [.agg (Qb (Aj s b).1),vI (Aj s b).2]) []:=by
 have hN:Be=274877906944:=rfl
 refine Ar Tryz.func177 Q4 Q4 (w:=let z1:=s.bits+(b % 128)*2 ^ (7*Int.toNat s.have_);let z2:=(b % 128)*2 ^ (7*Int.toNat s.have_);let z5:=(.v (.c (.int .u64 (IntKind.u64.wrap (((BitVec.ofInt 64 s.bits|||BitVec.ofInt 64 z2).toNat:Nat))))):S)= .v (.c (.int .u64 z1));let z6:=7*s.have_;let z7:=(.v (vI (IntKind.i64.wrap (((BitVec.ofInt 64 b&&&BitVec.ofInt 64 127).toNat:Nat)))):S)= .v (vI (b % 128));let z8:=(.v (.c (.int .u64 (IntKind.u64.wrap ((b % 128)*2 ^ min (Int.toNat z6) 64)))):S)= .v (.c (.int .u64 z2));let z9:=Aj s b;let z10:=(.v (.c (.int .u64 (IntKind.u64.wrap (b % 128)))):S)= .v (.c (.int .u64 (b % 128)));let z11:=(.v (.c (.int .u64 (IntKind.u64.wrap z6))):S)= .v (.c (.int .u64 z6));let z12:=s.have_+1;let z13:=(.tup [.agg (Qb s),vI 2]:S);let z14:=(.v (vI (IntKind.i64.wrap z12)):S)= .v (vI z12);let z15:=([]:List Blk);let z16:=(.v (vI (IntKind.i64.wrap z6)):S)= .v (vI z6);let z17:=Aq b 0 255;let z18:=Qb z9.1;let z3:=(decide (b<128))=false→(.tup [.agg [.int .u64 z1,.int .i64 z12],vI 0]:S)= .tup [.agg z18,vI z9.2]∧z15=[];let z4:=(decide (b<128))=true→(.tup [.agg [.int .u64 z1,.int .i64 z12],vI 1]:S)= .tup [.agg z18,vI z9.2]∧z15=[];(.seg [.call [] (.v (vB (Dx s))) []] (.br (.leaf () []) (.seg [.call [] (.v (vB z17)) []] (.br (.leaf () []) (.br (.br (.leaf () []) (.seg [.as 28 (.v (vI (b % 128))),.as 29 (.v (.c (.int .u64 (b % 128)))),.as 32 (.v (vI z6)),.as 33 (.v (.c (.int .u64 z6))),.as 34 (.v (.c (.int .u64 z2))),.as 35 (.v (.c (.int .u64 z1))),.as 38 (.v (vI z12))] (.br (.leaf () []) (.leaf () [])))) (.seg [.as 28 (.v (vI (b % 128))),.as 29 (.v (.c (.int .u64 (b % 128)))),.as 32 (.v (vI z6)),.as 33 (.v (.c (.int .u64 z6))),.as 34 (.v (.c (.int .u64 z2))),.as 35 (.v (.c (.int .u64 z1))),.as 38 (.v (vI z12))] (.br (.leaf () []) (.leaf () []))))))),(Fun Tryz.prog 147 [.agg (Qb s)] [] (.v (vB (Dx s))) [])∧((!(Dx s))=true→z13= .tup [.agg z18,vI z9.2]∧z15=[])∧((!(Dx s))=false→(Fun Tryz.prog 56 [vI b] [] (.v (vB z17)) [])∧((!z17)=true→z13= .tup [.agg z18,vI z9.2]∧z15=[])∧((!z17)=false→((decide (s.have_=9))=true→((decide (1<b))=true→z13= .tup [.agg z18,vI z9.2]∧z15=[])∧((decide (1<b))=false→z7∧z10∧z16∧z11∧((0:Int)≤7*s.have_)∧z8∧z5∧z14∧z4∧z3))∧((decide (s.have_=9))=false→z7∧z10∧z16∧z11∧((0:Int)≤7*s.have_)∧z8∧z5∧z14∧z4∧z3))))) Q4 ?_
 refine⟨(Aev s),fun h1=>have q1:=Ap h1;?_,fun h1=>have q1:=Ao h1;?_⟩
 refine have hm1:(Aj s b).1=s:=?_;?_
 rotate_left
 refine⟨(congrArg S.tup (Aa (congrArg V.agg (Aa (congrArg (C.int .u64) ?_) (Aa (congrArg (C.int .i64) ?_) rfl))) (Aa (congrArg V.c (congrArg (C.int .i64) ?_)) rfl))),rfl⟩
 rotate_left 3
 have hsk:=Wf q1 hp1.1
 refine⟨(Aey _),fun h2=>have q2:=Ap h2;have p2:=A4 q2;?_,fun h2=>have q2:=Ao h2;have p2:=Av q2;?_⟩
 refine have hm1:(Aj s b).1=s:=?_;?_
 rotate_left
 refine⟨(congrArg S.tup (Aa (congrArg V.agg (Aa (congrArg (C.int .u64) ?_) (Aa (congrArg (C.int .i64) ?_) rfl))) (Aa (congrArg V.c (congrArg (C.int .i64) ?_)) rfl))),rfl⟩
 rotate_left 3
 refine dsp (fun h3 p3=>?_) fun h3 p3=>?_
 refine dsp (fun h4 p4=>?_) fun h4 p4=>?_
 refine have hm1:(Aj s b).1=s:=?_;?_
 rotate_left
 refine⟨(congrArg S.tup (Aa (congrArg V.agg (Aa (congrArg (C.int .u64) ?_) (Aa (congrArg (C.int .i64) ?_) rfl))) (Aa (congrArg V.c (congrArg (C.int .i64) ?_)) rfl))),rfl⟩
 rotate_left 3
 refine⟨(G9 (k:=7) Q26 Q26),(Bp Q2 Q2),(Ac Q2 Q2),(Bp Q2 Q2),Q2,(Tv Q2 Q2 Q2 Q2 Q2),(Aeu Q2 Q2 Q2 Q2 Q2 Q2 Q2),(Ac Q2 Q2),dsp (fun h5 p5=>?_) fun h5 p5=>?_⟩
 refine have hm1:(Aj s b).1=(⟨s.bits+(b % 128)*2 ^ (7*Int.toNat s.have_),s.have_+1⟩:Scn):=?_;?_
 rotate_left
 refine⟨(congrArg S.tup (Aa (congrArg V.agg (Aa (congrArg (C.int .u64) ?_) (Aa (congrArg (C.int .i64) ?_) rfl))) (Aa (congrArg V.c (congrArg (C.int .i64) ?_)) rfl))),rfl⟩
 rotate_left 3
 refine have hm1:(Aj s b).1=(⟨s.bits+(b % 128)*2 ^ (7*Int.toNat s.have_),s.have_+1⟩:Scn):=?_;?_
 rotate_left
 refine⟨(congrArg S.tup (Aa (congrArg V.agg (Aa (congrArg (C.int .u64) ?_) (Aa (congrArg (C.int .i64) ?_) rfl))) (Aa (congrArg V.c (congrArg (C.int .i64) ?_)) rfl))),rfl⟩
 rotate_left 3
 refine⟨(G9 (k:=7) Q26 Q26),(Bp Q2 Q2),(Ac Q2 Q2),(Bp Q2 Q2),Q2,(Tv Q2 Q2 Q2 Q2 Q2),(Aeu Q2 Q2 Q2 Q2 Q2 Q2 Q2),(Ac Q2 Q2),dsp (fun h4 p4=>?_) fun h4 p4=>?_⟩
 refine have hm1:(Aj s b).1=(⟨s.bits+(b % 128)*2 ^ (7*Int.toNat s.have_),s.have_+1⟩:Scn):=?_;?_
 rotate_left
 refine⟨(congrArg S.tup (Aa (congrArg V.agg (Aa (congrArg (C.int .u64) ?_) (Aa (congrArg (C.int .i64) ?_) rfl))) (Aa (congrArg V.c (congrArg (C.int .i64) ?_)) rfl))),rfl⟩
 rotate_left 3
 refine have hm1:(Aj s b).1=(⟨s.bits+(b % 128)*2 ^ (7*Int.toNat s.have_),s.have_+1⟩:Scn):=?_;?_
 rotate_left
 refine⟨(congrArg S.tup (Aa (congrArg V.agg (Aa (congrArg (C.int .u64) ?_) (Aa (congrArg (C.int .i64) ?_) rfl))) (Aa (congrArg V.c (congrArg (C.int .i64) ?_)) rfl))),rfl⟩
 rotate_left 3
 all_goals first|(simp_all[Aj];done)|(grind[Aj])
theorem Nf (s:Scn) (b:Int) (hp1:(0:Int)≤(s).bits∧(s).bits≤18446744073709551615):Fun Tryz.prog 129 [.agg (Qb s),vI b] [] (.tup [.agg (Qb (Aj s b).1),vI (Aj s b).2]) []:=by
 have hN:Be=274877906944:=rfl
 refine Ar Tryz.func129 Q4 Q4 (w:=let z1:=s.bits+(b % 128)*2 ^ (7*Int.toNat s.have_);let z2:=(b % 128)*2 ^ (7*Int.toNat s.have_);let z5:=7*s.have_;let z6:=(.v (.c (.int .u64 (IntKind.u64.wrap ((b % 128)*2 ^ min (Int.toNat z5) 64)))):S)= .v (.c (.int .u64 z2));let z7:=Aj s b;let z8:=(.v (.c (.int .u64 (IntKind.u64.wrap (b % 128)))):S)= .v (.c (.int .u64 (b % 128)));let z9:=(.v (.c (.int .u64 (IntKind.u64.wrap (s.bits+z2)))):S)= .v (.c (.int .u64 z1));let z10:=(.v (.c (.int .u64 (IntKind.u64.wrap z5))):S)= .v (.c (.int .u64 z5));let z11:=s.have_+1;let z12:=(.tup [.agg (Qb s),vI 2]:S);let z13:=(.v (vI (Int.tmod b 128)):S)= .v (vI (b % 128));let z14:=(.v (vI (IntKind.i64.wrap z11)):S)= .v (vI z11);let z15:=([]:List Blk);let z16:=(.v (vI (IntKind.i64.wrap z5)):S)= .v (vI z5);let z17:=Aq b 0 255;let z18:=Qb z7.1;let z3:=(decide (b<128))=false→(.tup [.agg [.int .u64 z1,.int .i64 z11],vI 0]:S)= .tup [.agg z18,vI z7.2]∧z15=[];let z4:=(decide (b<128))=true→(.tup [.agg [.int .u64 z1,.int .i64 z11],vI 1]:S)= .tup [.agg z18,vI z7.2]∧z15=[];(.seg [.call [] (.v (vB (Dx s))) []] (.br (.leaf () []) (.seg [.call [] (.v (vB z17)) []] (.br (.leaf () []) (.br (.br (.leaf () []) (.seg [.as 28 (.v (vI (b % 128))),.as 29 (.v (.c (.int .u64 (b % 128)))),.as 32 (.v (vI z5)),.as 33 (.v (.c (.int .u64 z5))),.as 34 (.v (.c (.int .u64 z2))),.as 35 (.v (.c (.int .u64 z1))),.as 38 (.v (vI z11))] (.br (.leaf () []) (.leaf () [])))) (.seg [.as 28 (.v (vI (b % 128))),.as 29 (.v (.c (.int .u64 (b % 128)))),.as 32 (.v (vI z5)),.as 33 (.v (.c (.int .u64 z5))),.as 34 (.v (.c (.int .u64 z2))),.as 35 (.v (.c (.int .u64 z1))),.as 38 (.v (vI z11))] (.br (.leaf () []) (.leaf () []))))))),(Fun Tryz.prog 136 [.agg (Qb s)] [] (.v (vB (Dx s))) [])∧((!(Dx s))=true→z12= .tup [.agg z18,vI z7.2]∧z15=[])∧((!(Dx s))=false→(Fun Tryz.prog 59 [vI b,vI 0,vI 255] [] (.v (vB z17)) [])∧((!z17)=true→z12= .tup [.agg z18,vI z7.2]∧z15=[])∧((!z17)=false→((decide (s.have_=9))=true→((decide (1<b))=true→z12= .tup [.agg z18,vI z7.2]∧z15=[])∧((decide (1<b))=false→((128:Int)≠0)∧z13∧z8∧z16∧z10∧((0:Int)≤7*s.have_)∧z6∧z9∧z14∧z4∧z3))∧((decide (s.have_=9))=false→((128:Int)≠0)∧z13∧z8∧z16∧z10∧((0:Int)≤7*s.have_)∧z6∧z9∧z14∧z4∧z3))))) Q4 ?_
 refine⟨(Wj s),fun h1=>have q1:=Ap h1;?_,fun h1=>have q1:=Ao h1;?_⟩
 refine have hm1:(Aj s b).1=s:=?_;?_
 rotate_left
 refine⟨(congrArg S.tup (Aa (congrArg V.agg (Aa (congrArg (C.int .u64) ?_) (Aa (congrArg (C.int .i64) ?_) rfl))) (Aa (congrArg V.c (congrArg (C.int .i64) ?_)) rfl))),rfl⟩
 rotate_left 3
 have hsk:=Wf q1 hp1.1
 refine⟨(Bh _ _ _),fun h2=>have q2:=Ap h2;have p2:=A4 q2;?_,fun h2=>have q2:=Ao h2;have p2:=Av q2;?_⟩
 refine have hm1:(Aj s b).1=s:=?_;?_
 rotate_left
 refine⟨(congrArg S.tup (Aa (congrArg V.agg (Aa (congrArg (C.int .u64) ?_) (Aa (congrArg (C.int .i64) ?_) rfl))) (Aa (congrArg V.c (congrArg (C.int .i64) ?_)) rfl))),rfl⟩
 rotate_left 3
 refine dsp (fun h3 p3=>?_) fun h3 p3=>?_
 refine dsp (fun h4 p4=>?_) fun h4 p4=>?_
 refine have hm1:(Aj s b).1=s:=?_;?_
 rotate_left
 refine⟨(congrArg S.tup (Aa (congrArg V.agg (Aa (congrArg (C.int .u64) ?_) (Aa (congrArg (C.int .i64) ?_) rfl))) (Aa (congrArg V.c (congrArg (C.int .i64) ?_)) rfl))),rfl⟩
 rotate_left 3
 refine⟨Q26,(Us Q2),(Bp Q2 Q2),(Ac Q2 Q2),(Bp Q2 Q2),Q2,(Tv Q2 Q2 Q2 Q2 Q2),(Ab9 Q2 Q2 Q2 Q2 Q2 Q2 Q2),(Ac Q2 Q2),dsp (fun h5 p5=>?_) fun h5 p5=>?_⟩
 refine have hm1:(Aj s b).1=(⟨s.bits+(b % 128)*2 ^ (7*Int.toNat s.have_),s.have_+1⟩:Scn):=?_;?_
 rotate_left
 refine⟨(congrArg S.tup (Aa (congrArg V.agg (Aa (congrArg (C.int .u64) ?_) (Aa (congrArg (C.int .i64) ?_) rfl))) (Aa (congrArg V.c (congrArg (C.int .i64) ?_)) rfl))),rfl⟩
 rotate_left 3
 refine have hm1:(Aj s b).1=(⟨s.bits+(b % 128)*2 ^ (7*Int.toNat s.have_),s.have_+1⟩:Scn):=?_;?_
 rotate_left
 refine⟨(congrArg S.tup (Aa (congrArg V.agg (Aa (congrArg (C.int .u64) ?_) (Aa (congrArg (C.int .i64) ?_) rfl))) (Aa (congrArg V.c (congrArg (C.int .i64) ?_)) rfl))),rfl⟩
 rotate_left 3
 refine⟨Q26,(Us Q2),(Bp Q2 Q2),(Ac Q2 Q2),(Bp Q2 Q2),Q2,(Tv Q2 Q2 Q2 Q2 Q2),(Ab9 Q2 Q2 Q2 Q2 Q2 Q2 Q2),(Ac Q2 Q2),dsp (fun h4 p4=>?_) fun h4 p4=>?_⟩
 refine have hm1:(Aj s b).1=(⟨s.bits+(b % 128)*2 ^ (7*Int.toNat s.have_),s.have_+1⟩:Scn):=?_;?_
 rotate_left
 refine⟨(congrArg S.tup (Aa (congrArg V.agg (Aa (congrArg (C.int .u64) ?_) (Aa (congrArg (C.int .i64) ?_) rfl))) (Aa (congrArg V.c (congrArg (C.int .i64) ?_)) rfl))),rfl⟩
 rotate_left 3
 refine have hm1:(Aj s b).1=(⟨s.bits+(b % 128)*2 ^ (7*Int.toNat s.have_),s.have_+1⟩:Scn):=?_;?_
 rotate_left
 refine⟨(congrArg S.tup (Aa (congrArg V.agg (Aa (congrArg (C.int .u64) ?_) (Aa (congrArg (C.int .i64) ?_) rfl))) (Aa (congrArg V.c (congrArg (C.int .i64) ?_)) rfl))),rfl⟩
 rotate_left 3
 all_goals first|(simp_all[Aj];done)|(grind[Aj])
theorem Aiy (s:Scn) (b:Int):Fun Tryz.prog 175 [.agg (Qb s),vI b] [] (.v (.agg (Qb (B6 s b)))) []:=by
 have hN:Be=274877906944:=rfl
 refine Ar Tryz.func175 Q4 Q4 (w:=let z1:=8*s.have_;let z2:=Aq s.have_ 0 7;let z3:=Aq b 0 255;let z4:=Qb (B6 s b);let z5:=s.have_+1;(.seg [.call [] (.v (vB z2)) []] (.br (.leaf () []) (.seg [.call [] (.v (vB z3)) []] (.br (.leaf () []) (.seg [.as 18 (.v (.c (.int .u64 b))),.as 21 (.v (vI z1)),.as 22 (.v (.c (.int .u64 z1))),.as 27 (.v (vI z5))] (.leaf () []))))),(Fun Tryz.prog 79 [vI s.have_,vI 0,vI 7] [] (.v (vB z2)) [])∧((!z2)=true→(.v (.agg (Qb s)):S)= .v (.agg z4)∧([]:List Blk)=[])∧((!z2)=false→(Fun Tryz.prog 56 [vI b] [] (.v (vB z3)) [])∧((!z3)=true→(.v (.agg (Qb s)):S)= .v (.agg z4)∧([]:List Blk)=[])∧((!z3)=false→((.v (.c (.int .u64 (IntKind.u64.wrap (b)))):S)= .v (.c (.int .u64 b)))∧((.v (vI (IntKind.i64.wrap z1)):S)= .v (vI z1))∧((.v (.c (.int .u64 (IntKind.u64.wrap z1))):S)= .v (.c (.int .u64 z1)))∧((0:Int)≤8*s.have_)∧((.v (vI (IntKind.i64.wrap z5)):S)= .v (vI z5))∧(.v (.agg [.int .u64 (IntKind.u64.wrap (s.bits+(IntKind.u64.wrap (b*2 ^ min (Int.toNat z1) 64)))),.int .i64 z5]):S)= .v (.agg z4)∧([]:List Blk)=[])))) Q4 ?_
 refine⟨(Ch _ _ _),fun h1=>have q1:=Ap h1;have p1:=A4 q1;?_,fun h1=>have q1:=Ao h1;have p1:=Av q1;?_⟩
 refine have hm1:B6 s b=s:=?_;?_
 rotate_left
 exact⟨Q5,rfl⟩
 refine⟨(Aey _),fun h2=>have q2:=Ap h2;have p2:=A4 q2;?_,fun h2=>have q2:=Ao h2;have p2:=Av q2;?_⟩
 refine have hm1:B6 s b=s:=?_;?_
 rotate_left
 exact⟨Q5,rfl⟩
 refine⟨(Bp Q2 Q2),(Ac Q2 Q2),(Bp Q2 Q2),Q2,(Ac Q2 Q2),?_⟩
 refine have hm1:B6 s b=(⟨IntKind.u64.wrap (s.bits+(IntKind.u64.wrap (b*2 ^ min (Int.toNat (8*s.have_)) 64))),s.have_+1⟩:Scn):=?_;?_
 rotate_left
 exact⟨Q5,rfl⟩
 all_goals first|(simp_all[B6];done)|(grind[B6])
theorem Aiz (s:Scn) (b:Int):Fun Tryz.prog 126 [.agg (Qb s),vI b] [] (.v (.agg (Qb (B6 s b)))) []:=by
 have hN:Be=274877906944:=rfl
 refine Ar Tryz.func126 Q4 Q4 (w:=let z1:=8*s.have_;let z2:=Aq s.have_ 0 7;let z3:=Aq b 0 255;let z4:=Qb (B6 s b);let z5:=s.have_+1;(.seg [.call [] (.v (vB z2)) []] (.br (.leaf () []) (.seg [.call [] (.v (vB z3)) []] (.br (.leaf () []) (.seg [.as 18 (.v (.c (.int .u64 b))),.as 21 (.v (vI z1)),.as 22 (.v (.c (.int .u64 z1))),.as 27 (.v (vI z5))] (.leaf () []))))),(Fun Tryz.prog 59 [vI s.have_,vI 0,vI 7] [] (.v (vB z2)) [])∧((!z2)=true→(.v (.agg (Qb s)):S)= .v (.agg z4)∧([]:List Blk)=[])∧((!z2)=false→(Fun Tryz.prog 59 [vI b,vI 0,vI 255] [] (.v (vB z3)) [])∧((!z3)=true→(.v (.agg (Qb s)):S)= .v (.agg z4)∧([]:List Blk)=[])∧((!z3)=false→((.v (.c (.int .u64 (IntKind.u64.wrap (b)))):S)= .v (.c (.int .u64 b)))∧((.v (vI (IntKind.i64.wrap z1)):S)= .v (vI z1))∧((.v (.c (.int .u64 (IntKind.u64.wrap z1))):S)= .v (.c (.int .u64 z1)))∧((0:Int)≤8*s.have_)∧((.v (vI (IntKind.i64.wrap z5)):S)= .v (vI z5))∧(.v (.agg [.int .u64 (IntKind.u64.wrap (s.bits+(IntKind.u64.wrap (b*2 ^ min (Int.toNat z1) 64)))),.int .i64 z5]):S)= .v (.agg z4)∧([]:List Blk)=[])))) Q4 ?_
 refine⟨(Bh _ _ _),fun h1=>have q1:=Ap h1;have p1:=A4 q1;?_,fun h1=>have q1:=Ao h1;have p1:=Av q1;?_⟩
 refine have hm1:B6 s b=s:=?_;?_
 rotate_left
 exact⟨Q5,rfl⟩
 refine⟨(Bh _ _ _),fun h2=>have q2:=Ap h2;have p2:=A4 q2;?_,fun h2=>have q2:=Ao h2;have p2:=Av q2;?_⟩
 refine have hm1:B6 s b=s:=?_;?_
 rotate_left
 exact⟨Q5,rfl⟩
 refine⟨(Bp Q2 Q2),(Ac Q2 Q2),(Bp Q2 Q2),Q2,(Ac Q2 Q2),?_⟩
 refine have hm1:B6 s b=(⟨IntKind.u64.wrap (s.bits+(IntKind.u64.wrap (b*2 ^ min (Int.toNat (8*s.have_)) 64))),s.have_+1⟩:Scn):=?_;?_
 rotate_left
 exact⟨Q5,rfl⟩
 all_goals first|(simp_all[B6];done)|(grind[B6])
theorem T4 (m:Mac) (b:Int) (hp1:MW (m).d) (hp2:List.length (m).out≤50000000) (hp3:(0:Int)≤b∧b≤255):Fun Tryz.prog 123 [vP 0,vI b] [.cells (Ab 1 2 3 m),.tree m.d.plan.shapes,.lst .lev m.d.stack,.lst .ev m.out] (.tup []) [.cells (Ab 4 5 6 (B0 m b ((m).d.at_-1))),.dead,.dead,.dead,.tree (B0 m b ((m).d.at_-1)).d.plan.shapes,.lst .lev (B0 m b ((m).d.at_-1)).d.stack,.lst .ev (B0 m b ((m).d.at_-1)).out]:=by
 have hN:Be=274877906944:=rfl
 have hlv:=Cb hp1.lv
 have hpt:=By hlv.1
 have htb:=H9 hp1.lv
 have hwm:=Agt m
 have hbb:=hp1.b0
 have hat:=hp1.at_
 have hwt:=hp1.want
 have hwd:=Kx m.d
 have hsb:=U2 (b:=b) hbb.1 hbb.2
 refine Ar Tryz.func123 Q4 Q4 (w:=let zi:Int→C:= .int .i64;let z1:List C:=[zi m.d.at_,zi m.d.field.number,zi m.d.field.kind,.bool m.d.field.rep,.bool m.d.field.packed,zi m.d.field.msg,zi m.d.wire,zi m.d.want,zi m.d.utf.want,zi m.d.utf.low,zi m.d.utf.high,zi m.d.end_.kind,zi m.d.end_.field,.int .u64 m.d.end_.bits,zi m.d.end_.len,.str m.d.end_.text,zi m.d.end_.code,zi m.d.end_.at_,.own 3];let z2:List C:=[zi m.d.at_,zi m.d.field.number,zi m.d.field.kind,.bool m.d.field.rep,.bool m.d.field.packed,zi m.d.field.msg,zi m.d.wire,zi m.d.want,zi m.d.utf.want,zi m.d.utf.low,zi m.d.utf.high,zi m.d.end_.kind,zi m.d.end_.field,.int .u64 m.d.end_.bits,zi m.d.end_.len,.str m.d.end_.text,zi m.d.end_.code,zi m.d.end_.at_,.own 6];let z3:List C:=[zi m.d.at_,zi m.d.field.number,zi m.d.field.kind,.bool m.d.field.rep,.bool m.d.field.packed,zi m.d.field.msg,zi m.d.wire,zi m.d.want,zi m.d.utf.want,zi m.d.utf.low,zi m.d.utf.high,zi m.d.end_.kind,zi m.d.end_.field,.int .u64 m.d.end_.bits,zi m.d.end_.len,.str m.d.end_.text,zi m.d.end_.code,zi m.d.end_.at_];let z6:=(⟨m.d.plan,m.d.mode,m.d.stack,(⟨0,0⟩:Scn),m.d.start,m.d.at_,m.d.field,m.d.wire,m.d.want,m.d.utf,m.d.end_⟩:Dcd);let z9:=Aj m.d.scan b;let z4:=A7 (⟨(⟨m.d.plan,m.d.mode,m.d.stack,z9.1,m.d.at_-1,m.d.at_,m.d.field,m.d.wire,m.d.want,m.d.utf,m.d.end_⟩:Dcd),m.out⟩:Mac) 9 m.d.at_;let z5:=A7 (⟨(⟨m.d.plan,m.d.mode,m.d.stack,z9.1,m.d.start,m.d.at_,m.d.field,m.d.wire,m.d.want,m.d.utf,m.d.end_⟩:Dcd),m.out⟩:Mac) 9 m.d.at_;let z10:=(⟨m.d.plan,m.d.mode,m.d.stack,(⟨0,0⟩:Scn),m.d.at_-1,m.d.at_,m.d.field,m.d.wire,m.d.want,m.d.utf,m.d.end_⟩:Dcd);let z13:=([.cells (.own 4::zi m.d.plan.root::zi m.d.plan.deep::zi m.d.plan.most::zi m.d.mode:: .own 5:: .int .u64 z9.1.bits::zi z9.1.have_::zi m.d.start::z2),.dead,.dead,.dead,.tree m.d.plan.shapes,.lst .lev m.d.stack,.lst .ev m.out]:List Blk);let z14:=Bz (⟨z6,m.out⟩:Mac) z9.1.bits;let z15:List Blk:=[.cells (Ab 1 2 4 z4),.tree z4.d.plan.shapes,.lst .lev z4.d.stack,.dead,.lst .ev z4.out];let z16:List Blk:=[.cells (.own 1::zi m.d.plan.root::zi m.d.plan.deep::zi m.d.plan.most::zi m.d.mode:: .own 2:: .int .u64 z9.1.bits::zi z9.1.have_::zi m.d.start::z1),.tree m.d.plan.shapes,.lst .lev m.d.stack,.lst .ev m.out];let z17:List Blk:=[.cells (Ab 1 2 4 z5),.tree z5.d.plan.shapes,.lst .lev z5.d.stack,.dead,.lst .ev z5.out];let z18:=([.cells (Ab 4 5 6 z4),.dead,.dead,.dead,.tree z4.d.plan.shapes,.lst .lev z4.d.stack,.lst .ev z4.out]:List Blk);let z19:List Blk:=[.cells (.own 1::zi m.d.plan.root::zi m.d.plan.deep::zi m.d.plan.most::zi m.d.mode:: .own 2:: .int .u64 0::zi 0::zi m.d.start::z1),.tree m.d.plan.shapes,.lst .lev m.d.stack,.lst .ev m.out];let z21:=([.cells (Ab 4 5 6 z5),.dead,.dead,.dead,.tree z5.d.plan.shapes,.lst .lev z5.d.stack,.lst .ev z5.out]:List Blk);let z32:=(.tup []:S);let z33:=decide (m.d.mode=8);let z34:=decide (m.d.want=0);let z35:List Blk:=[.cells (Ab 1 2 4 z14),.tree z14.d.plan.shapes,.lst .lev z14.d.stack,.dead,.lst .ev z14.out];let z36:List V:=[vP 0,vI 9,vI m.d.at_];let z37:=m.d.at_-1;let z8:=A7 (⟨(⟨m.d.plan,m.d.mode,m.d.stack,m.d.scan,m.d.at_-1,m.d.at_,m.d.field,m.d.wire,m.d.want,m.d.utf,m.d.end_⟩:Dcd),m.out⟩:Mac) 1 z37;let z11:=([.cells (.own 4::zi m.d.plan.root::zi m.d.plan.deep::zi m.d.plan.most::zi m.d.mode:: .own 5:: .int .u64 z9.1.bits::zi z9.1.have_::zi z37::z2),.dead,.dead,.dead,.tree m.d.plan.shapes,.lst .lev m.d.stack,.lst .ev m.out]:List Blk);let z12:List Blk:=[.cells (.own 1::zi m.d.plan.root::zi m.d.plan.deep::zi m.d.plan.most::zi m.d.mode:: .own 2:: .int .u64 z9.1.bits::zi z9.1.have_::zi z37::z1),.tree m.d.plan.shapes,.lst .lev m.d.stack,.lst .ev m.out];let z23:List Blk:=[.cells (.own 1::zi m.d.plan.root::zi m.d.plan.deep::zi m.d.plan.most::zi m.d.mode:: .own 2:: .int .u64 m.d.scan.bits::zi m.d.scan.have_::zi z37::z1),.tree m.d.plan.shapes,.lst .lev m.d.stack,.lst .ev m.out];let z29:List Blk:=[.cells (.own 1::zi m.d.plan.root::zi m.d.plan.deep::zi m.d.plan.most::zi m.d.mode:: .own 2:: .int .u64 0::zi 0::zi z37::z1),.tree m.d.plan.shapes,.lst .lev m.d.stack,.lst .ev m.out];let z31:List Blk:=[.cells (Ab 1 2 4 z8),.tree z8.d.plan.shapes,.lst .lev z8.d.stack,.dead,.lst .ev z8.out];let z38:=([.cells (Ab 4 5 6 z8),.dead,.dead,.dead,.tree z8.d.plan.shapes,.lst .lev z8.d.stack,.lst .ev z8.out]:List Blk);let z39:List V:=[vP 0,.c (.int .u64 z9.1.bits)];let z40:= !decide (m.d.mode=1);let z43:=decide (Ef m.d=0);let z45:=decide (z9.2=2);let z46:=decide (z9.2=0);let z47:=decide (m.d.mode=1);let z48:=decide (m.d.mode=2);let z51:=vI (Ef m.d);let z52:=Db (⟨z10,m.out⟩:Mac) z9.1.bits;let z24:List Blk:=[.cells (Ab 4 5 6 z52),.dead,.dead,.dead,.tree z52.d.plan.shapes,.lst .lev z52.d.stack,.lst .ev z52.out];let z53:=Cv (⟨z10,m.out⟩:Mac) z9.1.bits;let z25:List Blk:=[.cells (Ab 4 5 6 z53),.dead,.dead,.dead,.tree z53.d.plan.shapes,.lst .lev z53.d.stack,.lst .ev z53.out];let z54:=Db (⟨z6,m.out⟩:Mac) z9.1.bits;let z26:List Blk:=[.cells (Ab 4 5 6 z54),.dead,.dead,.dead,.tree z54.d.plan.shapes,.lst .lev z54.d.stack,.lst .ev z54.out];let z55:=Fc (⟨z10,m.out⟩:Mac) z9.1.bits;let z27:List Blk:=[.cells (Ab 4 5 6 z55),.dead,.dead,.dead,.tree z55.d.plan.shapes,.lst .lev z55.d.stack,.lst .ev z55.out];let z56:=Cv (⟨z6,m.out⟩:Mac) z9.1.bits;let z28:List Blk:=[.cells (Ab 4 5 6 z56),.dead,.dead,.dead,.tree z56.d.plan.shapes,.lst .lev z56.d.stack,.lst .ev z56.out];let z57:=decide (m.d.mode=4);let z58:=Fc (⟨z6,m.out⟩:Mac) z9.1.bits;let z30:List Blk:=[.cells (Ab 4 5 6 z58),.dead,.dead,.dead,.tree z58.d.plan.shapes,.lst .lev z58.d.stack,.lst .ev z58.out];let z59:List Blk:=[.cells (Ab 1 2 3 z14),.tree z14.d.plan.shapes,.lst .lev z14.d.stack,.lst .ev z14.out];let z60:=A7 m 1 z37;let z22:List Blk:=[.cells (Ab 1 2 4 z60),.tree z60.d.plan.shapes,.lst .lev z60.d.stack,.dead,.lst .ev z60.out];let z44:=([.cells (Ab 4 5 6 z60),.dead,.dead,.dead,.tree z60.d.plan.shapes,.lst .lev z60.d.stack,.lst .ev z60.out]:List Blk);let z61:List Blk:=[.cells (Ab 1 2 3 m),.tree m.d.plan.shapes,.lst .lev m.d.stack,.lst .ev m.out];let z62:=Qb z9.1;let z63:=B0 m b ((m).d.at_-1);let z7:List Blk:=[.cells (Ab 4 5 6 z63),.dead,.dead,.dead,.tree z63.d.plan.shapes,.lst .lev z63.d.stack,.lst .ev z63.out];let z41:=z34=false→z32= .tup []∧z11=z7;let z42:=z33=false→z32= .tup []∧z11=z7;let z49:=z34=false→z32= .tup []∧z13=z7;let z50:=z33=false→z32= .tup []∧z13=z7;let z64:List V:=[vP 0,vI 1,vI z37];let z65:=Qb m.d.scan;let z66:=Af z14;let z20:List Blk:=[.cells (Ab 4 5 6 z66),.dead,.dead,.dead,.tree z66.d.plan.shapes,.lst .lev z66.d.stack,.lst .ev z66.out];(.seg [.as 12 (.v (vI z37))] (.br (.br (.seg [.call [] (.tup [.agg z62,vI z9.2]) []] (.br (.seg [.call [0,1,2,3] (.tup []) z31,.at 0,.cut 0 0,.cut 0 5] (.leaf () [0,1,2,3,6,7,5])) (.br (.br (.seg [.call [] (.v z51) []] (.br (.seg [.call [0,1,2,3] (.tup []) z15,.at 0,.cut 0 0,.cut 0 5] (.leaf () [0,1,2,3,6,7,5])) (.br (.br (.seg [.call [0,1,2,3] (.tup []) z15,.at 0,.cut 0 0,.cut 0 5] (.leaf () [0,1,2,3,6,7,5])) (.seg [.at 0,.cut 0 0,.cut 0 5,.cut 0 27] (.leaf () [0,1,2,3,5,6,7]))) (.seg [.at 0,.cut 0 0,.cut 0 5,.cut 0 27] (.leaf () [0,1,2,3,5,6,7]))))) (.br (.br (.seg [.call [0,1,2,3] (.tup []) z15,.at 0,.cut 0 0,.cut 0 5] (.leaf () [0,1,2,3,6,7,5])) (.seg [.at 0,.cut 0 0,.cut 0 5,.cut 0 27] (.leaf () [0,1,2,3,5,6,7]))) (.seg [.at 0,.cut 0 0,.cut 0 5,.cut 0 27] (.leaf () [0,1,2,3,5,6,7])))) (.seg [.br true,.call [0,1,2,3] (.tup []) z24] (.leaf () [0,1,2,3,5,6,7]))))) (.br (.seg [.call [] (.tup [.agg z62,vI z9.2]) []] (.br (.seg [.call [0,1,2,3] (.tup []) z31,.at 0,.cut 0 0,.cut 0 5] (.leaf () [0,1,2,3,6,7,5])) (.br (.br (.seg [.call [] (.v z51) []] (.br (.seg [.call [0,1,2,3] (.tup []) z15,.at 0,.cut 0 0,.cut 0 5] (.leaf () [0,1,2,3,6,7,5])) (.br (.br (.seg [.call [0,1,2,3] (.tup []) z15,.at 0,.cut 0 0,.cut 0 5] (.leaf () [0,1,2,3,6,7,5])) (.seg [.at 0,.cut 0 0,.cut 0 5,.cut 0 27] (.leaf () [0,1,2,3,5,6,7]))) (.seg [.at 0,.cut 0 0,.cut 0 5,.cut 0 27] (.leaf () [0,1,2,3,5,6,7]))))) (.br (.br (.seg [.call [0,1,2,3] (.tup []) z15,.at 0,.cut 0 0,.cut 0 5] (.leaf () [0,1,2,3,6,7,5])) (.seg [.at 0,.cut 0 0,.cut 0 5,.cut 0 27] (.leaf () [0,1,2,3,5,6,7]))) (.seg [.at 0,.cut 0 0,.cut 0 5,.cut 0 27] (.leaf () [0,1,2,3,5,6,7])))) (.seg [.br false,.br true,.call [0,1,2,3] (.tup []) z27] (.leaf () [0,1,2,3,5,6,7]))))) (.br (.seg [.call [] (.tup [.agg z62,vI z9.2]) []] (.br (.seg [.call [0,1,2,3] (.tup []) z31,.at 0,.cut 0 0,.cut 0 5] (.leaf () [0,1,2,3,6,7,5])) (.br (.br (.seg [.call [] (.v z51) []] (.br (.seg [.call [0,1,2,3] (.tup []) z15,.at 0,.cut 0 0,.cut 0 5] (.leaf () [0,1,2,3,6,7,5])) (.br (.br (.seg [.call [0,1,2,3] (.tup []) z15,.at 0,.cut 0 0,.cut 0 5] (.leaf () [0,1,2,3,6,7,5])) (.seg [.at 0,.cut 0 0,.cut 0 5,.cut 0 27] (.leaf () [0,1,2,3,5,6,7]))) (.seg [.at 0,.cut 0 0,.cut 0 5,.cut 0 27] (.leaf () [0,1,2,3,5,6,7]))))) (.br (.br (.seg [.call [0,1,2,3] (.tup []) z15,.at 0,.cut 0 0,.cut 0 5] (.leaf () [0,1,2,3,6,7,5])) (.seg [.at 0,.cut 0 0,.cut 0 5,.cut 0 27] (.leaf () [0,1,2,3,5,6,7]))) (.seg [.at 0,.cut 0 0,.cut 0 5,.cut 0 27] (.leaf () [0,1,2,3,5,6,7])))) (.seg [.br false,.br false,.br true,.call [0,1,2,3] (.tup []) z25] (.leaf () [0,1,2,3,5,6,7]))))) (.seg [.call [] (.tup [.agg z62,vI z9.2]) []] (.br (.seg [.call [0,1,2,3] (.tup []) z22,.at 0,.cut 0 0,.cut 0 5] (.leaf () [0,1,2,3,6,7,5])) (.br (.br (.seg [.call [] (.v z51) []] (.br (.seg [.call [0,1,2,3] (.tup []) z17,.at 0,.cut 0 0,.cut 0 5] (.leaf () [0,1,2,3,6,7,5])) (.br (.br (.seg [.call [0,1,2,3] (.tup []) z17,.at 0,.cut 0 0,.cut 0 5] (.leaf () [0,1,2,3,6,7,5])) (.seg [.at 0,.cut 0 0,.cut 0 5,.cut 0 27] (.leaf () [0,1,2,3,5,6,7]))) (.seg [.at 0,.cut 0 0,.cut 0 5,.cut 0 27] (.leaf () [0,1,2,3,5,6,7]))))) (.br (.br (.seg [.call [0,1,2,3] (.tup []) z17,.at 0,.cut 0 0,.cut 0 5] (.leaf () [0,1,2,3,6,7,5])) (.seg [.at 0,.cut 0 0,.cut 0 5,.cut 0 27] (.leaf () [0,1,2,3,5,6,7]))) (.seg [.at 0,.cut 0 0,.cut 0 5,.cut 0 27] (.leaf () [0,1,2,3,5,6,7])))) (.seg [.br false,.br false,.br false,.call [0,1,2,3] (.tup []) z35,.call [0,1,2,5] (.tup []) z20] (.leaf () [0,1,2,3,6,7,8])))))))) (.seg [.call [] (.tup [.agg z62,vI z9.2]) []] (.br (.seg [.call [0,1,2,3] (.tup []) z22,.at 0,.cut 0 0,.cut 0 5] (.leaf () [0,1,2,3,6,7,5])) (.br (.br (.seg [.call [] (.v z51) []] (.br (.seg [.call [0,1,2,3] (.tup []) z17,.at 0,.cut 0 0,.cut 0 5] (.leaf () [0,1,2,3,6,7,5])) (.br (.br (.seg [.call [0,1,2,3] (.tup []) z17,.at 0,.cut 0 0,.cut 0 5] (.leaf () [0,1,2,3,6,7,5])) (.seg [.at 0,.cut 0 0,.cut 0 5,.cut 0 27] (.leaf () [0,1,2,3,5,6,7]))) (.seg [.at 0,.cut 0 0,.cut 0 5,.cut 0 27] (.leaf () [0,1,2,3,5,6,7]))))) (.br (.br (.seg [.call [0,1,2,3] (.tup []) z17,.at 0,.cut 0 0,.cut 0 5] (.leaf () [0,1,2,3,6,7,5])) (.seg [.at 0,.cut 0 0,.cut 0 5,.cut 0 27] (.leaf () [0,1,2,3,5,6,7]))) (.seg [.at 0,.cut 0 0,.cut 0 5,.cut 0 27] (.leaf () [0,1,2,3,5,6,7])))) (.br (.seg [.call [0,1,2,3] (.tup []) z26] (.leaf () [0,1,2,3,5,6,7])) (.br (.seg [.call [0,1,2,3] (.tup []) z30] (.leaf () [0,1,2,3,5,6,7])) (.br (.seg [.call [0,1,2,3] (.tup []) z28] (.leaf () [0,1,2,3,5,6,7])) (.seg [.call [0,1,2,3] (.tup []) z35,.call [0,1,2,5] (.tup []) z20] (.leaf () [0,1,2,3,6,7,8]))))))))),((.v (vI (IntKind.i64.wrap z37)):S)= .v (vI z37))∧((decide (m.d.scan.have_=0))=true→(z47=true→(Fun Tryz.prog 177 [.agg z65,vI b] [] (.tup [.agg z62,vI z9.2]) [])∧(z45=true→(Fun Tryz.prog 94 z64 z23 (.tup []) z31)∧z32= .tup []∧z38=z7)∧(z45=false→(z46=true→(z40=true→(Fun Tryz.prog 85 [.agg (.seq .shp m.d.plan.shapes::zi m.d.plan.root::zi m.d.plan.deep::zi m.d.plan.most::zi m.d.mode:: .seq .lev m.d.stack:: .int .u64 z9.1.bits::zi z9.1.have_::zi z37::z3)] [] (.v z51) [])∧(z43=true→(Fun Tryz.prog 94 z36 z12 (.tup []) z15)∧z32= .tup []∧z18=z7)∧(z43=false→(z33=true→(z34=true→(Fun Tryz.prog 94 z36 z12 (.tup []) z15)∧z32= .tup []∧z18=z7)∧z41)∧z42))∧(z40=false→(z33=true→(z34=true→(Fun Tryz.prog 94 z36 z12 (.tup []) z15)∧z32= .tup []∧z18=z7)∧z41)∧z42))∧(z46=false→(z47=true)∧(Fun Tryz.prog 178 z39 z29 (.tup []) z24)∧z32= .tup []∧(z24:List Blk)=z7)))∧(z47=false→(z48=true→(Fun Tryz.prog 177 [.agg z65,vI b] [] (.tup [.agg z62,vI z9.2]) [])∧(z45=true→(Fun Tryz.prog 94 z64 z23 (.tup []) z31)∧z32= .tup []∧z38=z7)∧(z45=false→(z46=true→(z40=true→(Fun Tryz.prog 85 [.agg (.seq .shp m.d.plan.shapes::zi m.d.plan.root::zi m.d.plan.deep::zi m.d.plan.most::zi m.d.mode:: .seq .lev m.d.stack:: .int .u64 z9.1.bits::zi z9.1.have_::zi z37::z3)] [] (.v z51) [])∧(z43=true→(Fun Tryz.prog 94 z36 z12 (.tup []) z15)∧z32= .tup []∧z18=z7)∧(z43=false→(z33=true→(z34=true→(Fun Tryz.prog 94 z36 z12 (.tup []) z15)∧z32= .tup []∧z18=z7)∧z41)∧z42))∧(z40=false→(z33=true→(z34=true→(Fun Tryz.prog 94 z36 z12 (.tup []) z15)∧z32= .tup []∧z18=z7)∧z41)∧z42))∧(z46=false→(z47=false)∧(z48=true)∧(Fun Tryz.prog 179 z39 z29 (.tup []) z27)∧z32= .tup []∧(z27:List Blk)=z7)))∧(z48=false→(z57=true→(Fun Tryz.prog 177 [.agg z65,vI b] [] (.tup [.agg z62,vI z9.2]) [])∧(z45=true→(Fun Tryz.prog 94 z64 z23 (.tup []) z31)∧z32= .tup []∧z38=z7)∧(z45=false→(z46=true→(z40=true→(Fun Tryz.prog 85 [.agg (.seq .shp m.d.plan.shapes::zi m.d.plan.root::zi m.d.plan.deep::zi m.d.plan.most::zi m.d.mode:: .seq .lev m.d.stack:: .int .u64 z9.1.bits::zi z9.1.have_::zi z37::z3)] [] (.v z51) [])∧(z43=true→(Fun Tryz.prog 94 z36 z12 (.tup []) z15)∧z32= .tup []∧z18=z7)∧(z43=false→(z33=true→(z34=true→(Fun Tryz.prog 94 z36 z12 (.tup []) z15)∧z32= .tup []∧z18=z7)∧z41)∧z42))∧(z40=false→(z33=true→(z34=true→(Fun Tryz.prog 94 z36 z12 (.tup []) z15)∧z32= .tup []∧z18=z7)∧z41)∧z42))∧(z46=false→(z47=false)∧(z48=false)∧(z57=true)∧(Fun Tryz.prog 180 z39 z29 (.tup []) z25)∧z32= .tup []∧(z25:List Blk)=z7)))∧(z57=false→(Fun Tryz.prog 177 [.agg z65,vI b] [] (.tup [.agg z62,vI z9.2]) [])∧(z45=true→(Fun Tryz.prog 94 z64 z61 (.tup []) z22)∧z32= .tup []∧z44=z7)∧(z45=false→(z46=true→(z40=true→(Fun Tryz.prog 85 [.agg (.seq .shp m.d.plan.shapes::zi m.d.plan.root::zi m.d.plan.deep::zi m.d.plan.most::zi m.d.mode:: .seq .lev m.d.stack:: .int .u64 z9.1.bits::zi z9.1.have_::zi m.d.start::z3)] [] (.v z51) [])∧(z43=true→(Fun Tryz.prog 94 z36 z16 (.tup []) z17)∧z32= .tup []∧z21=z7)∧(z43=false→(z33=true→(z34=true→(Fun Tryz.prog 94 z36 z16 (.tup []) z17)∧z32= .tup []∧z21=z7)∧z49)∧z50))∧(z40=false→(z33=true→(z34=true→(Fun Tryz.prog 94 z36 z16 (.tup []) z17)∧z32= .tup []∧z21=z7)∧z49)∧z50))∧(z46=false→(z47=false)∧(z48=false)∧(z57=false)∧(Fun Tryz.prog 176 z39 z19 (.tup []) z35)∧(Fun Tryz.prog 120 [vP 0] z59 (.tup []) z20)∧z32= .tup []∧(z20:List Blk)=z7))))))∧((decide (m.d.scan.have_=0))=false→(Fun Tryz.prog 177 [.agg z65,vI b] [] (.tup [.agg z62,vI z9.2]) [])∧(z45=true→(Fun Tryz.prog 94 z64 z61 (.tup []) z22)∧z32= .tup []∧z44=z7)∧(z45=false→(z46=true→(z40=true→(Fun Tryz.prog 85 [.agg (.seq .shp m.d.plan.shapes::zi m.d.plan.root::zi m.d.plan.deep::zi m.d.plan.most::zi m.d.mode:: .seq .lev m.d.stack:: .int .u64 z9.1.bits::zi z9.1.have_::zi m.d.start::z3)] [] (.v z51) [])∧(z43=true→(Fun Tryz.prog 94 z36 z16 (.tup []) z17)∧z32= .tup []∧z21=z7)∧(z43=false→(z33=true→(z34=true→(Fun Tryz.prog 94 z36 z16 (.tup []) z17)∧z32= .tup []∧z21=z7)∧z49)∧z50))∧(z40=false→(z33=true→(z34=true→(Fun Tryz.prog 94 z36 z16 (.tup []) z17)∧z32= .tup []∧z21=z7)∧z49)∧z50))∧(z46=false→(z47=true→(Fun Tryz.prog 178 z39 z19 (.tup []) z26)∧z32= .tup []∧(z26:List Blk)=z7)∧(z47=false→(z48=true→(Fun Tryz.prog 179 z39 z19 (.tup []) z30)∧z32= .tup []∧(z30:List Blk)=z7)∧(z48=false→(z57=true→(Fun Tryz.prog 180 z39 z19 (.tup []) z28)∧z32= .tup []∧(z28:List Blk)=z7)∧(z57=false→(Fun Tryz.prog 176 z39 z19 (.tup []) z35)∧(Fun Tryz.prog 120 [vP 0] z59 (.tup []) z20)∧z32= .tup []∧(z20:List Blk)=z7)))))))) Q4 ?_
 refine⟨(Ac Q2 Q2),dsp (fun h1 p1=>?_) fun h1 p1=>?_⟩
 refine dsp (fun h2 p2=>?_) fun h2 p2=>?_
 refine⟨(Nd m.d.scan _ Q2),dsp (fun h3 p3=>?_) fun h3 p3=>?_⟩
 refine⟨(Co (⟨(⟨m.d.plan,m.d.mode,m.d.stack,m.d.scan,m.d.at_-1,m.d.at_,m.d.field,m.d.wire,m.d.want,m.d.utf,m.d.end_⟩:Dcd),m.out⟩:Mac) _ _ Q7),?_⟩
 refine have hm1:B0 m b ((m).d.at_-1)=(A7 (⟨(⟨m.d.plan,m.d.mode,m.d.stack,m.d.scan,m.d.at_-1,m.d.at_,m.d.field,m.d.wire,m.d.want,m.d.utf,m.d.end_⟩:Dcd),m.out⟩:Mac) 1 (m.d.at_-1)):=?_;?_
 rotate_left
 exact⟨rfl,Q5⟩
 refine dsp (fun h4 p4=>?_) fun h4 p4=>?_
 refine⟨fun h5=>have q5:=Ap h5;have p5:=of_decide_eq_false q5;?_,fun h5=>have q5:=Ao h5;have p5:=of_decide_eq_true q5;?_⟩
 refine⟨(Ep (⟨m.d.plan,m.d.mode,m.d.stack,(Aj m.d.scan b).1,m.d.at_-1,m.d.at_,m.d.field,m.d.wire,m.d.want,m.d.utf,m.d.end_⟩:Dcd) Q7),dsp (fun h6 p6=>?_) fun h6 p6=>?_⟩
 refine⟨(Co (⟨(⟨m.d.plan,m.d.mode,m.d.stack,(Aj m.d.scan b).1,m.d.at_-1,m.d.at_,m.d.field,m.d.wire,m.d.want,m.d.utf,m.d.end_⟩:Dcd),m.out⟩:Mac) _ _ Q7),?_⟩
 refine have hm1:B0 m b ((m).d.at_-1)=(A7 (⟨(⟨m.d.plan,m.d.mode,m.d.stack,(Aj m.d.scan b).1,m.d.at_-1,m.d.at_,m.d.field,m.d.wire,m.d.want,m.d.utf,m.d.end_⟩:Dcd),m.out⟩:Mac) 9 m.d.at_):=?_;?_
 rotate_left
 exact⟨rfl,Q5⟩
 refine dsp (fun h7 p7=>?_) fun h7 p7=>?_
 refine dsp (fun h8 p8=>?_) fun h8 p8=>?_
 refine⟨(Co (⟨(⟨m.d.plan,m.d.mode,m.d.stack,(Aj m.d.scan b).1,m.d.at_-1,m.d.at_,m.d.field,m.d.wire,m.d.want,m.d.utf,m.d.end_⟩:Dcd),m.out⟩:Mac) _ _ Q7),?_⟩
 refine have hm1:B0 m b ((m).d.at_-1)=(A7 (⟨(⟨m.d.plan,m.d.mode,m.d.stack,(Aj m.d.scan b).1,m.d.at_-1,m.d.at_,m.d.field,m.d.wire,m.d.want,m.d.utf,m.d.end_⟩:Dcd),m.out⟩:Mac) 9 m.d.at_):=?_;?_
 rotate_left
 exact⟨rfl,Q5⟩
 refine have hm1:B0 m b ((m).d.at_-1)=(⟨(⟨m.d.plan,m.d.mode,m.d.stack,(Aj m.d.scan b).1,m.d.at_-1,m.d.at_,m.d.field,m.d.wire,m.d.want,m.d.utf,m.d.end_⟩:Dcd),m.out⟩:Mac):=?_;?_
 rotate_left
 exact⟨rfl,Q5⟩
 refine have hm1:B0 m b ((m).d.at_-1)=(⟨(⟨m.d.plan,m.d.mode,m.d.stack,(Aj m.d.scan b).1,m.d.at_-1,m.d.at_,m.d.field,m.d.wire,m.d.want,m.d.utf,m.d.end_⟩:Dcd),m.out⟩:Mac):=?_;?_
 rotate_left
 exact⟨rfl,Q5⟩
 refine dsp (fun h6 p6=>?_) fun h6 p6=>?_
 refine dsp (fun h7 p7=>?_) fun h7 p7=>?_
 refine⟨(Co (⟨(⟨m.d.plan,m.d.mode,m.d.stack,(Aj m.d.scan b).1,m.d.at_-1,m.d.at_,m.d.field,m.d.wire,m.d.want,m.d.utf,m.d.end_⟩:Dcd),m.out⟩:Mac) _ _ Q7),?_⟩
 refine have hm1:B0 m b ((m).d.at_-1)=(A7 (⟨(⟨m.d.plan,m.d.mode,m.d.stack,(Aj m.d.scan b).1,m.d.at_-1,m.d.at_,m.d.field,m.d.wire,m.d.want,m.d.utf,m.d.end_⟩:Dcd),m.out⟩:Mac) 9 m.d.at_):=?_;?_
 rotate_left
 exact⟨rfl,Q5⟩
 refine have hm1:B0 m b ((m).d.at_-1)=(⟨(⟨m.d.plan,m.d.mode,m.d.stack,(Aj m.d.scan b).1,m.d.at_-1,m.d.at_,m.d.field,m.d.wire,m.d.want,m.d.utf,m.d.end_⟩:Dcd),m.out⟩:Mac):=?_;?_
 rotate_left
 exact⟨rfl,Q5⟩
 refine have hm1:B0 m b ((m).d.at_-1)=(⟨(⟨m.d.plan,m.d.mode,m.d.stack,(Aj m.d.scan b).1,m.d.at_-1,m.d.at_,m.d.field,m.d.wire,m.d.want,m.d.utf,m.d.end_⟩:Dcd),m.out⟩:Mac):=?_;?_
 rotate_left
 exact⟨rfl,Q5⟩
 refine⟨h2,(Aix (⟨(⟨m.d.plan,m.d.mode,m.d.stack,(⟨0,0⟩:Scn),m.d.at_-1,m.d.at_,m.d.field,m.d.wire,m.d.want,m.d.utf,m.d.end_⟩:Dcd),m.out⟩:Mac) _ (Q19) Q7 Q2),?_⟩
 refine have hm1:B0 m b ((m).d.at_-1)=(Db (⟨(⟨m.d.plan,m.d.mode,m.d.stack,(⟨0,0⟩:Scn),m.d.at_-1,m.d.at_,m.d.field,m.d.wire,m.d.want,m.d.utf,m.d.end_⟩:Dcd),m.out⟩:Mac) (Aj m.d.scan b).1.bits):=?_;?_
 rotate_left
 exact⟨rfl,Q5⟩
 refine dsp (fun h3 p3=>?_) fun h3 p3=>?_
 refine⟨(Nd m.d.scan _ Q2),dsp (fun h4 p4=>?_) fun h4 p4=>?_⟩
 refine⟨(Co (⟨(⟨m.d.plan,m.d.mode,m.d.stack,m.d.scan,m.d.at_-1,m.d.at_,m.d.field,m.d.wire,m.d.want,m.d.utf,m.d.end_⟩:Dcd),m.out⟩:Mac) _ _ Q7),?_⟩
 refine have hm1:B0 m b ((m).d.at_-1)=(A7 (⟨(⟨m.d.plan,m.d.mode,m.d.stack,m.d.scan,m.d.at_-1,m.d.at_,m.d.field,m.d.wire,m.d.want,m.d.utf,m.d.end_⟩:Dcd),m.out⟩:Mac) 1 (m.d.at_-1)):=?_;?_
 rotate_left
 exact⟨rfl,Q5⟩
 refine dsp (fun h5 p5=>?_) fun h5 p5=>?_
 refine⟨fun h6=>have q6:=Ap h6;have p6:=of_decide_eq_false q6;?_,fun h6=>have q6:=Ao h6;have p6:=of_decide_eq_true q6;?_⟩
 refine⟨(Ep (⟨m.d.plan,m.d.mode,m.d.stack,(Aj m.d.scan b).1,m.d.at_-1,m.d.at_,m.d.field,m.d.wire,m.d.want,m.d.utf,m.d.end_⟩:Dcd) Q7),dsp (fun h7 p7=>?_) fun h7 p7=>?_⟩
 refine⟨(Co (⟨(⟨m.d.plan,m.d.mode,m.d.stack,(Aj m.d.scan b).1,m.d.at_-1,m.d.at_,m.d.field,m.d.wire,m.d.want,m.d.utf,m.d.end_⟩:Dcd),m.out⟩:Mac) _ _ Q7),?_⟩
 refine have hm1:B0 m b ((m).d.at_-1)=(A7 (⟨(⟨m.d.plan,m.d.mode,m.d.stack,(Aj m.d.scan b).1,m.d.at_-1,m.d.at_,m.d.field,m.d.wire,m.d.want,m.d.utf,m.d.end_⟩:Dcd),m.out⟩:Mac) 9 m.d.at_):=?_;?_
 rotate_left
 exact⟨rfl,Q5⟩
 refine dsp (fun h8 p8=>?_) fun h8 p8=>?_
 refine dsp (fun h9 p9=>?_) fun h9 p9=>?_
 refine⟨(Co (⟨(⟨m.d.plan,m.d.mode,m.d.stack,(Aj m.d.scan b).1,m.d.at_-1,m.d.at_,m.d.field,m.d.wire,m.d.want,m.d.utf,m.d.end_⟩:Dcd),m.out⟩:Mac) _ _ Q7),?_⟩
 refine have hm1:B0 m b ((m).d.at_-1)=(A7 (⟨(⟨m.d.plan,m.d.mode,m.d.stack,(Aj m.d.scan b).1,m.d.at_-1,m.d.at_,m.d.field,m.d.wire,m.d.want,m.d.utf,m.d.end_⟩:Dcd),m.out⟩:Mac) 9 m.d.at_):=?_;?_
 rotate_left
 exact⟨rfl,Q5⟩
 refine have hm1:B0 m b ((m).d.at_-1)=(⟨(⟨m.d.plan,m.d.mode,m.d.stack,(Aj m.d.scan b).1,m.d.at_-1,m.d.at_,m.d.field,m.d.wire,m.d.want,m.d.utf,m.d.end_⟩:Dcd),m.out⟩:Mac):=?_;?_
 rotate_left
 exact⟨rfl,Q5⟩
 refine have hm1:B0 m b ((m).d.at_-1)=(⟨(⟨m.d.plan,m.d.mode,m.d.stack,(Aj m.d.scan b).1,m.d.at_-1,m.d.at_,m.d.field,m.d.wire,m.d.want,m.d.utf,m.d.end_⟩:Dcd),m.out⟩:Mac):=?_;?_
 rotate_left
 exact⟨rfl,Q5⟩
 refine dsp (fun h7 p7=>?_) fun h7 p7=>?_
 refine dsp (fun h8 p8=>?_) fun h8 p8=>?_
 refine⟨(Co (⟨(⟨m.d.plan,m.d.mode,m.d.stack,(Aj m.d.scan b).1,m.d.at_-1,m.d.at_,m.d.field,m.d.wire,m.d.want,m.d.utf,m.d.end_⟩:Dcd),m.out⟩:Mac) _ _ Q7),?_⟩
 refine have hm1:B0 m b ((m).d.at_-1)=(A7 (⟨(⟨m.d.plan,m.d.mode,m.d.stack,(Aj m.d.scan b).1,m.d.at_-1,m.d.at_,m.d.field,m.d.wire,m.d.want,m.d.utf,m.d.end_⟩:Dcd),m.out⟩:Mac) 9 m.d.at_):=?_;?_
 rotate_left
 exact⟨rfl,Q5⟩
 refine have hm1:B0 m b ((m).d.at_-1)=(⟨(⟨m.d.plan,m.d.mode,m.d.stack,(Aj m.d.scan b).1,m.d.at_-1,m.d.at_,m.d.field,m.d.wire,m.d.want,m.d.utf,m.d.end_⟩:Dcd),m.out⟩:Mac):=?_;?_
 rotate_left
 exact⟨rfl,Q5⟩
 refine have hm1:B0 m b ((m).d.at_-1)=(⟨(⟨m.d.plan,m.d.mode,m.d.stack,(Aj m.d.scan b).1,m.d.at_-1,m.d.at_,m.d.field,m.d.wire,m.d.want,m.d.utf,m.d.end_⟩:Dcd),m.out⟩:Mac):=?_;?_
 rotate_left
 exact⟨rfl,Q5⟩
 refine⟨h2,h3,(Ap3 (⟨(⟨m.d.plan,m.d.mode,m.d.stack,(⟨0,0⟩:Scn),m.d.at_-1,m.d.at_,m.d.field,m.d.wire,m.d.want,m.d.utf,m.d.end_⟩:Dcd),m.out⟩:Mac) _ (Q19) Q7 Q2),?_⟩
 refine have hm1:B0 m b ((m).d.at_-1)=(Fc (⟨(⟨m.d.plan,m.d.mode,m.d.stack,(⟨0,0⟩:Scn),m.d.at_-1,m.d.at_,m.d.field,m.d.wire,m.d.want,m.d.utf,m.d.end_⟩:Dcd),m.out⟩:Mac) (Aj m.d.scan b).1.bits):=?_;?_
 rotate_left
 exact⟨rfl,Q5⟩
 refine dsp (fun h4 p4=>?_) fun h4 p4=>?_
 refine⟨(Nd m.d.scan _ Q2),dsp (fun h5 p5=>?_) fun h5 p5=>?_⟩
 refine⟨(Co (⟨(⟨m.d.plan,m.d.mode,m.d.stack,m.d.scan,m.d.at_-1,m.d.at_,m.d.field,m.d.wire,m.d.want,m.d.utf,m.d.end_⟩:Dcd),m.out⟩:Mac) _ _ Q7),?_⟩
 refine have hm1:B0 m b ((m).d.at_-1)=(A7 (⟨(⟨m.d.plan,m.d.mode,m.d.stack,m.d.scan,m.d.at_-1,m.d.at_,m.d.field,m.d.wire,m.d.want,m.d.utf,m.d.end_⟩:Dcd),m.out⟩:Mac) 1 (m.d.at_-1)):=?_;?_
 rotate_left
 exact⟨rfl,Q5⟩
 refine dsp (fun h6 p6=>?_) fun h6 p6=>?_
 refine⟨fun h7=>have q7:=Ap h7;have p7:=of_decide_eq_false q7;?_,fun h7=>have q7:=Ao h7;have p7:=of_decide_eq_true q7;?_⟩
 refine⟨(Ep (⟨m.d.plan,m.d.mode,m.d.stack,(Aj m.d.scan b).1,m.d.at_-1,m.d.at_,m.d.field,m.d.wire,m.d.want,m.d.utf,m.d.end_⟩:Dcd) Q7),dsp (fun h8 p8=>?_) fun h8 p8=>?_⟩
 refine⟨(Co (⟨(⟨m.d.plan,m.d.mode,m.d.stack,(Aj m.d.scan b).1,m.d.at_-1,m.d.at_,m.d.field,m.d.wire,m.d.want,m.d.utf,m.d.end_⟩:Dcd),m.out⟩:Mac) _ _ Q7),?_⟩
 refine have hm1:B0 m b ((m).d.at_-1)=(A7 (⟨(⟨m.d.plan,m.d.mode,m.d.stack,(Aj m.d.scan b).1,m.d.at_-1,m.d.at_,m.d.field,m.d.wire,m.d.want,m.d.utf,m.d.end_⟩:Dcd),m.out⟩:Mac) 9 m.d.at_):=?_;?_
 rotate_left
 exact⟨rfl,Q5⟩
 refine dsp (fun h9 p9=>?_) fun h9 p9=>?_
 refine dsp (fun h10 p10=>?_) fun h10 p10=>?_
 refine⟨(Co (⟨(⟨m.d.plan,m.d.mode,m.d.stack,(Aj m.d.scan b).1,m.d.at_-1,m.d.at_,m.d.field,m.d.wire,m.d.want,m.d.utf,m.d.end_⟩:Dcd),m.out⟩:Mac) _ _ Q7),?_⟩
 refine have hm1:B0 m b ((m).d.at_-1)=(A7 (⟨(⟨m.d.plan,m.d.mode,m.d.stack,(Aj m.d.scan b).1,m.d.at_-1,m.d.at_,m.d.field,m.d.wire,m.d.want,m.d.utf,m.d.end_⟩:Dcd),m.out⟩:Mac) 9 m.d.at_):=?_;?_
 rotate_left
 exact⟨rfl,Q5⟩
 refine have hm1:B0 m b ((m).d.at_-1)=(⟨(⟨m.d.plan,m.d.mode,m.d.stack,(Aj m.d.scan b).1,m.d.at_-1,m.d.at_,m.d.field,m.d.wire,m.d.want,m.d.utf,m.d.end_⟩:Dcd),m.out⟩:Mac):=?_;?_
 rotate_left
 exact⟨rfl,Q5⟩
 refine have hm1:B0 m b ((m).d.at_-1)=(⟨(⟨m.d.plan,m.d.mode,m.d.stack,(Aj m.d.scan b).1,m.d.at_-1,m.d.at_,m.d.field,m.d.wire,m.d.want,m.d.utf,m.d.end_⟩:Dcd),m.out⟩:Mac):=?_;?_
 rotate_left
 exact⟨rfl,Q5⟩
 refine dsp (fun h8 p8=>?_) fun h8 p8=>?_
 refine dsp (fun h9 p9=>?_) fun h9 p9=>?_
 refine⟨(Co (⟨(⟨m.d.plan,m.d.mode,m.d.stack,(Aj m.d.scan b).1,m.d.at_-1,m.d.at_,m.d.field,m.d.wire,m.d.want,m.d.utf,m.d.end_⟩:Dcd),m.out⟩:Mac) _ _ Q7),?_⟩
 refine have hm1:B0 m b ((m).d.at_-1)=(A7 (⟨(⟨m.d.plan,m.d.mode,m.d.stack,(Aj m.d.scan b).1,m.d.at_-1,m.d.at_,m.d.field,m.d.wire,m.d.want,m.d.utf,m.d.end_⟩:Dcd),m.out⟩:Mac) 9 m.d.at_):=?_;?_
 rotate_left
 exact⟨rfl,Q5⟩
 refine have hm1:B0 m b ((m).d.at_-1)=(⟨(⟨m.d.plan,m.d.mode,m.d.stack,(Aj m.d.scan b).1,m.d.at_-1,m.d.at_,m.d.field,m.d.wire,m.d.want,m.d.utf,m.d.end_⟩:Dcd),m.out⟩:Mac):=?_;?_
 rotate_left
 exact⟨rfl,Q5⟩
 refine have hm1:B0 m b ((m).d.at_-1)=(⟨(⟨m.d.plan,m.d.mode,m.d.stack,(Aj m.d.scan b).1,m.d.at_-1,m.d.at_,m.d.field,m.d.wire,m.d.want,m.d.utf,m.d.end_⟩:Dcd),m.out⟩:Mac):=?_;?_
 rotate_left
 exact⟨rfl,Q5⟩
 refine⟨h2,h3,h4,(Anf (⟨(⟨m.d.plan,m.d.mode,m.d.stack,(⟨0,0⟩:Scn),m.d.at_-1,m.d.at_,m.d.field,m.d.wire,m.d.want,m.d.utf,m.d.end_⟩:Dcd),m.out⟩:Mac) _ (Q19) Q7 Q2 (hp1.kn)),?_⟩
 refine have hm1:B0 m b ((m).d.at_-1)=(Cv (⟨(⟨m.d.plan,m.d.mode,m.d.stack,(⟨0,0⟩:Scn),m.d.at_-1,m.d.at_,m.d.field,m.d.wire,m.d.want,m.d.utf,m.d.end_⟩:Dcd),m.out⟩:Mac) (Aj m.d.scan b).1.bits):=?_;?_
 rotate_left
 exact⟨rfl,Q5⟩
 refine⟨(Nd m.d.scan _ Q2),dsp (fun h5 p5=>?_) fun h5 p5=>?_⟩
 refine⟨(Co m _ _ Q2),?_⟩
 refine have hm1:B0 m b ((m).d.at_-1)=(A7 m 1 (m.d.at_-1)):=?_;?_
 rotate_left
 exact⟨rfl,Q5⟩
 refine dsp (fun h6 p6=>?_) fun h6 p6=>?_
 refine⟨fun h7=>have q7:=Ap h7;have p7:=of_decide_eq_false q7;?_,fun h7=>have q7:=Ao h7;have p7:=of_decide_eq_true q7;?_⟩
 refine⟨(Ep (⟨m.d.plan,m.d.mode,m.d.stack,(Aj m.d.scan b).1,m.d.start,m.d.at_,m.d.field,m.d.wire,m.d.want,m.d.utf,m.d.end_⟩:Dcd) Q7),dsp (fun h8 p8=>?_) fun h8 p8=>?_⟩
 refine⟨(Co (⟨(⟨m.d.plan,m.d.mode,m.d.stack,(Aj m.d.scan b).1,m.d.start,m.d.at_,m.d.field,m.d.wire,m.d.want,m.d.utf,m.d.end_⟩:Dcd),m.out⟩:Mac) _ _ Q7),?_⟩
 refine have hm1:B0 m b ((m).d.at_-1)=(A7 (⟨(⟨m.d.plan,m.d.mode,m.d.stack,(Aj m.d.scan b).1,m.d.start,m.d.at_,m.d.field,m.d.wire,m.d.want,m.d.utf,m.d.end_⟩:Dcd),m.out⟩:Mac) 9 m.d.at_):=?_;?_
 rotate_left
 exact⟨rfl,Q5⟩
 refine dsp (fun h9 p9=>?_) fun h9 p9=>?_
 refine dsp (fun h10 p10=>?_) fun h10 p10=>?_
 refine⟨(Co (⟨(⟨m.d.plan,m.d.mode,m.d.stack,(Aj m.d.scan b).1,m.d.start,m.d.at_,m.d.field,m.d.wire,m.d.want,m.d.utf,m.d.end_⟩:Dcd),m.out⟩:Mac) _ _ Q7),?_⟩
 refine have hm1:B0 m b ((m).d.at_-1)=(A7 (⟨(⟨m.d.plan,m.d.mode,m.d.stack,(Aj m.d.scan b).1,m.d.start,m.d.at_,m.d.field,m.d.wire,m.d.want,m.d.utf,m.d.end_⟩:Dcd),m.out⟩:Mac) 9 m.d.at_):=?_;?_
 rotate_left
 exact⟨rfl,Q5⟩
 refine have hm1:B0 m b ((m).d.at_-1)=(⟨(⟨m.d.plan,m.d.mode,m.d.stack,(Aj m.d.scan b).1,m.d.start,m.d.at_,m.d.field,m.d.wire,m.d.want,m.d.utf,m.d.end_⟩:Dcd),m.out⟩:Mac):=?_;?_
 rotate_left
 exact⟨rfl,Q5⟩
 refine have hm1:B0 m b ((m).d.at_-1)=(⟨(⟨m.d.plan,m.d.mode,m.d.stack,(Aj m.d.scan b).1,m.d.start,m.d.at_,m.d.field,m.d.wire,m.d.want,m.d.utf,m.d.end_⟩:Dcd),m.out⟩:Mac):=?_;?_
 rotate_left
 exact⟨rfl,Q5⟩
 refine dsp (fun h8 p8=>?_) fun h8 p8=>?_
 refine dsp (fun h9 p9=>?_) fun h9 p9=>?_
 refine⟨(Co (⟨(⟨m.d.plan,m.d.mode,m.d.stack,(Aj m.d.scan b).1,m.d.start,m.d.at_,m.d.field,m.d.wire,m.d.want,m.d.utf,m.d.end_⟩:Dcd),m.out⟩:Mac) _ _ Q7),?_⟩
 refine have hm1:B0 m b ((m).d.at_-1)=(A7 (⟨(⟨m.d.plan,m.d.mode,m.d.stack,(Aj m.d.scan b).1,m.d.start,m.d.at_,m.d.field,m.d.wire,m.d.want,m.d.utf,m.d.end_⟩:Dcd),m.out⟩:Mac) 9 m.d.at_):=?_;?_
 rotate_left
 exact⟨rfl,Q5⟩
 refine have hm1:B0 m b ((m).d.at_-1)=(⟨(⟨m.d.plan,m.d.mode,m.d.stack,(Aj m.d.scan b).1,m.d.start,m.d.at_,m.d.field,m.d.wire,m.d.want,m.d.utf,m.d.end_⟩:Dcd),m.out⟩:Mac):=?_;?_
 rotate_left
 exact⟨rfl,Q5⟩
 refine have hm1:B0 m b ((m).d.at_-1)=(⟨(⟨m.d.plan,m.d.mode,m.d.stack,(Aj m.d.scan b).1,m.d.start,m.d.at_,m.d.field,m.d.wire,m.d.want,m.d.utf,m.d.end_⟩:Dcd),m.out⟩:Mac):=?_;?_
 rotate_left
 exact⟨rfl,Q5⟩
 refine⟨h2,h3,h4,(Adq (⟨(⟨m.d.plan,m.d.mode,m.d.stack,(⟨0,0⟩:Scn),m.d.start,m.d.at_,m.d.field,m.d.wire,m.d.want,m.d.utf,m.d.end_⟩:Dcd),m.out⟩:Mac) _ Q7 Q2),(E3 (Bz (⟨(⟨m.d.plan,m.d.mode,m.d.stack,(⟨0,0⟩:Scn),m.d.start,m.d.at_,m.d.field,m.d.wire,m.d.want,m.d.utf,m.d.end_⟩:Dcd),m.out⟩:Mac) (Aj m.d.scan b).1.bits) (Q19) (Nat.le_trans (Gn _ _) Q72)),?_⟩
 refine have hm1:B0 m b ((m).d.at_-1)=(Af (Bz (⟨(⟨m.d.plan,m.d.mode,m.d.stack,(⟨0,0⟩:Scn),m.d.start,m.d.at_,m.d.field,m.d.wire,m.d.want,m.d.utf,m.d.end_⟩:Dcd),m.out⟩:Mac) (Aj m.d.scan b).1.bits)):=?_;?_
 rotate_left
 exact⟨rfl,Q5⟩
 refine⟨(Nd m.d.scan _ Q2),dsp (fun h2 p2=>?_) fun h2 p2=>?_⟩
 refine⟨(Co m _ _ Q2),?_⟩
 refine have hm1:B0 m b ((m).d.at_-1)=(A7 m 1 (m.d.at_-1)):=?_;?_
 rotate_left
 exact⟨rfl,Q5⟩
 refine dsp (fun h3 p3=>?_) fun h3 p3=>?_
 refine⟨fun h4=>have q4:=Ap h4;have p4:=of_decide_eq_false q4;?_,fun h4=>have q4:=Ao h4;have p4:=of_decide_eq_true q4;?_⟩
 refine⟨(Ep (⟨m.d.plan,m.d.mode,m.d.stack,(Aj m.d.scan b).1,m.d.start,m.d.at_,m.d.field,m.d.wire,m.d.want,m.d.utf,m.d.end_⟩:Dcd) Q7),dsp (fun h5 p5=>?_) fun h5 p5=>?_⟩
 refine⟨(Co (⟨(⟨m.d.plan,m.d.mode,m.d.stack,(Aj m.d.scan b).1,m.d.start,m.d.at_,m.d.field,m.d.wire,m.d.want,m.d.utf,m.d.end_⟩:Dcd),m.out⟩:Mac) _ _ Q7),?_⟩
 refine have hm1:B0 m b ((m).d.at_-1)=(A7 (⟨(⟨m.d.plan,m.d.mode,m.d.stack,(Aj m.d.scan b).1,m.d.start,m.d.at_,m.d.field,m.d.wire,m.d.want,m.d.utf,m.d.end_⟩:Dcd),m.out⟩:Mac) 9 m.d.at_):=?_;?_
 rotate_left
 exact⟨rfl,Q5⟩
 refine dsp (fun h6 p6=>?_) fun h6 p6=>?_
 refine dsp (fun h7 p7=>?_) fun h7 p7=>?_
 refine⟨(Co (⟨(⟨m.d.plan,m.d.mode,m.d.stack,(Aj m.d.scan b).1,m.d.start,m.d.at_,m.d.field,m.d.wire,m.d.want,m.d.utf,m.d.end_⟩:Dcd),m.out⟩:Mac) _ _ Q7),?_⟩
 refine have hm1:B0 m b ((m).d.at_-1)=(A7 (⟨(⟨m.d.plan,m.d.mode,m.d.stack,(Aj m.d.scan b).1,m.d.start,m.d.at_,m.d.field,m.d.wire,m.d.want,m.d.utf,m.d.end_⟩:Dcd),m.out⟩:Mac) 9 m.d.at_):=?_;?_
 rotate_left
 exact⟨rfl,Q5⟩
 refine have hm1:B0 m b ((m).d.at_-1)=(⟨(⟨m.d.plan,m.d.mode,m.d.stack,(Aj m.d.scan b).1,m.d.start,m.d.at_,m.d.field,m.d.wire,m.d.want,m.d.utf,m.d.end_⟩:Dcd),m.out⟩:Mac):=?_;?_
 rotate_left
 exact⟨rfl,Q5⟩
 refine have hm1:B0 m b ((m).d.at_-1)=(⟨(⟨m.d.plan,m.d.mode,m.d.stack,(Aj m.d.scan b).1,m.d.start,m.d.at_,m.d.field,m.d.wire,m.d.want,m.d.utf,m.d.end_⟩:Dcd),m.out⟩:Mac):=?_;?_
 rotate_left
 exact⟨rfl,Q5⟩
 refine dsp (fun h5 p5=>?_) fun h5 p5=>?_
 refine dsp (fun h6 p6=>?_) fun h6 p6=>?_
 refine⟨(Co (⟨(⟨m.d.plan,m.d.mode,m.d.stack,(Aj m.d.scan b).1,m.d.start,m.d.at_,m.d.field,m.d.wire,m.d.want,m.d.utf,m.d.end_⟩:Dcd),m.out⟩:Mac) _ _ Q7),?_⟩
 refine have hm1:B0 m b ((m).d.at_-1)=(A7 (⟨(⟨m.d.plan,m.d.mode,m.d.stack,(Aj m.d.scan b).1,m.d.start,m.d.at_,m.d.field,m.d.wire,m.d.want,m.d.utf,m.d.end_⟩:Dcd),m.out⟩:Mac) 9 m.d.at_):=?_;?_
 rotate_left
 exact⟨rfl,Q5⟩
 refine have hm1:B0 m b ((m).d.at_-1)=(⟨(⟨m.d.plan,m.d.mode,m.d.stack,(Aj m.d.scan b).1,m.d.start,m.d.at_,m.d.field,m.d.wire,m.d.want,m.d.utf,m.d.end_⟩:Dcd),m.out⟩:Mac):=?_;?_
 rotate_left
 exact⟨rfl,Q5⟩
 refine have hm1:B0 m b ((m).d.at_-1)=(⟨(⟨m.d.plan,m.d.mode,m.d.stack,(Aj m.d.scan b).1,m.d.start,m.d.at_,m.d.field,m.d.wire,m.d.want,m.d.utf,m.d.end_⟩:Dcd),m.out⟩:Mac):=?_;?_
 rotate_left
 exact⟨rfl,Q5⟩
 refine dsp (fun h4 p4=>?_) fun h4 p4=>?_
 refine⟨(Aix (⟨(⟨m.d.plan,m.d.mode,m.d.stack,(⟨0,0⟩:Scn),m.d.start,m.d.at_,m.d.field,m.d.wire,m.d.want,m.d.utf,m.d.end_⟩:Dcd),m.out⟩:Mac) _ (Q19) Q7 Q2),?_⟩
 refine have hm1:B0 m b ((m).d.at_-1)=(Db (⟨(⟨m.d.plan,m.d.mode,m.d.stack,(⟨0,0⟩:Scn),m.d.start,m.d.at_,m.d.field,m.d.wire,m.d.want,m.d.utf,m.d.end_⟩:Dcd),m.out⟩:Mac) (Aj m.d.scan b).1.bits):=?_;?_
 rotate_left
 exact⟨rfl,Q5⟩
 refine dsp (fun h5 p5=>?_) fun h5 p5=>?_
 refine⟨(Ap3 (⟨(⟨m.d.plan,m.d.mode,m.d.stack,(⟨0,0⟩:Scn),m.d.start,m.d.at_,m.d.field,m.d.wire,m.d.want,m.d.utf,m.d.end_⟩:Dcd),m.out⟩:Mac) _ (Q19) Q7 Q2),?_⟩
 refine have hm1:B0 m b ((m).d.at_-1)=(Fc (⟨(⟨m.d.plan,m.d.mode,m.d.stack,(⟨0,0⟩:Scn),m.d.start,m.d.at_,m.d.field,m.d.wire,m.d.want,m.d.utf,m.d.end_⟩:Dcd),m.out⟩:Mac) (Aj m.d.scan b).1.bits):=?_;?_
 rotate_left
 exact⟨rfl,Q5⟩
 refine dsp (fun h6 p6=>?_) fun h6 p6=>?_
 refine⟨(Anf (⟨(⟨m.d.plan,m.d.mode,m.d.stack,(⟨0,0⟩:Scn),m.d.start,m.d.at_,m.d.field,m.d.wire,m.d.want,m.d.utf,m.d.end_⟩:Dcd),m.out⟩:Mac) _ (Q19) Q7 Q2 (hp1.kn)),?_⟩
 refine have hm1:B0 m b ((m).d.at_-1)=(Cv (⟨(⟨m.d.plan,m.d.mode,m.d.stack,(⟨0,0⟩:Scn),m.d.start,m.d.at_,m.d.field,m.d.wire,m.d.want,m.d.utf,m.d.end_⟩:Dcd),m.out⟩:Mac) (Aj m.d.scan b).1.bits):=?_;?_
 rotate_left
 exact⟨rfl,Q5⟩
 refine⟨(Adq (⟨(⟨m.d.plan,m.d.mode,m.d.stack,(⟨0,0⟩:Scn),m.d.start,m.d.at_,m.d.field,m.d.wire,m.d.want,m.d.utf,m.d.end_⟩:Dcd),m.out⟩:Mac) _ Q7 Q2),(E3 (Bz (⟨(⟨m.d.plan,m.d.mode,m.d.stack,(⟨0,0⟩:Scn),m.d.start,m.d.at_,m.d.field,m.d.wire,m.d.want,m.d.utf,m.d.end_⟩:Dcd),m.out⟩:Mac) (Aj m.d.scan b).1.bits) (Q19) (Nat.le_trans (Gn _ _) Q72)),?_⟩
 refine have hm1:B0 m b ((m).d.at_-1)=(Af (Bz (⟨(⟨m.d.plan,m.d.mode,m.d.stack,(⟨0,0⟩:Scn),m.d.start,m.d.at_,m.d.field,m.d.wire,m.d.want,m.d.utf,m.d.end_⟩:Dcd),m.out⟩:Mac) (Aj m.d.scan b).1.bits)):=?_;?_
 rotate_left
 exact⟨rfl,Q5⟩
 all_goals first|(simp_all[B0,Nb,Kd,Aar,A7,A8,scn0];done)|(grind[B0,Nb,Kd,Aar,A7,A8,scn0])
theorem T5 (m:Mac) (b:Int) (hp1:MW (m).d) (hp2:List.length (m).out≤50000000) (hp3:(0:Int)≤b∧b≤255):Fun Tryz.prog 122 [vP 0,vI b] [.cells (Ab 1 2 3 m),.tree m.d.plan.shapes,.lst .lev m.d.stack,.lst .ev m.out] (.tup []) [.cells (Ab 4 5 6 (D0 m b)),.dead,.dead,.dead,.tree (D0 m b).d.plan.shapes,.lst .lev (D0 m b).d.stack,.lst .ev (D0 m b).out]:=by
 have hN:Be=274877906944:=rfl
 have hlv:=Cb hp1.lv
 have hpt:=By hlv.1
 have htb:=H9 hp1.lv
 have hwm:=Agt m
 have hbb:=hp1.b0
 have hat:=hp1.at_
 have hwt:=hp1.want
 have hwd:=Kx m.d
 have hfb:=Aca (b:=b) hbb
 refine Ar Tryz.func122 Q4 Q4 (w:=let zi:Int→C:= .int .i64;let z3:List Blk:=[.cells (Ab 4 5 6 (D0 m b)),.dead,.dead,.dead,.tree (D0 m b).d.plan.shapes,.lst .lev (D0 m b).d.stack,.lst .ev (D0 m b).out];let z6:=B6 m.d.scan b;let z1:=Bz (⟨(⟨m.d.plan,m.d.mode,m.d.stack,(⟨0,0⟩:Scn),m.d.start,m.d.at_,m.d.field,m.d.wire,m.d.want,m.d.utf,m.d.end_⟩:Dcd),m.out⟩:Mac) z6.bits;let z2:List Blk:=[.cells (Ab 4 5 6 (Af z1)),.dead,.dead,.dead,.tree (Af z1).d.plan.shapes,.lst .lev (Af z1).d.stack,.lst .ev (Af z1).out];let z4:List Blk:=[.cells (Ab 1 2 3 z1),.tree z1.d.plan.shapes,.lst .lev z1.d.stack,.lst .ev z1.out];let z5:=A7 z1 9 z1.d.at_;let z7:List Blk:=[.cells (Ab 1 2 4 z1),.tree z1.d.plan.shapes,.lst .lev z1.d.stack,.dead,.lst .ev z1.out];let z8:List Blk:=[.cells (Ab 1 2 4 z5),.tree z5.d.plan.shapes,.lst .lev z5.d.stack,.dead,.lst .ev z5.out];let z9:=(.tup []:S);let z10:=decide (z1.d.want<B1 m.d);let z11:=decide (z6.have_<B1 m.d);(.seg [.ord [(0,true),(1,true),(2,true),(3,true),(5,true),(6,true),(7,true),(8,true),(9,true),(10,true),(4,false),(11,true),(12,true)] [],.call [] (.v (vI (B1 m.d))) [],.call [] (.v (.agg (Qb z6))) []] (.br (.seg [.at 0,.cut 0 0,.cut 0 5,.cut 0 27] (.leaf () [0,1,2,3,4,5,6])) (.seg [.call [0,1,2,3] (.tup []) z7] (.br (.br (.br (.seg [.call [0,1,2,4] (.tup []) z8,.at 0,.cut 0 0,.cut 0 5] (.leaf () [0,1,2,3,6,7,5])) (.seg [.call [0,1,2,4] (.tup []) z2] (.leaf () [0,1,2,3,5,6,7]))) (.seg [.call [0,1,2,4] (.tup []) z2] (.leaf () [0,1,2,3,5,6,7]))) (.seg [.call [0,1,2,4] (.tup []) z2] (.leaf () [0,1,2,3,5,6,7]))))),(Fun Tryz.prog 121 [.agg (Cd m.d)] [] (.v (vI (B1 m.d))) [])∧(Fun Tryz.prog 175 [.agg (Qb m.d.scan),vI b] [] (.v (.agg (Qb z6))) [])∧(z11=true→z9= .tup []∧([.cells [.own 4,zi m.d.plan.root,zi m.d.plan.deep,zi m.d.plan.most,zi m.d.mode,.own 5,.int .u64 z6.bits,zi z6.have_,zi m.d.start,zi m.d.at_,zi m.d.field.number,zi m.d.field.kind,.bool m.d.field.rep,.bool m.d.field.packed,zi m.d.field.msg,zi m.d.wire,zi m.d.want,zi m.d.utf.want,zi m.d.utf.low,zi m.d.utf.high,zi m.d.end_.kind,zi m.d.end_.field,.int .u64 m.d.end_.bits,zi m.d.end_.len,.str m.d.end_.text,zi m.d.end_.code,zi m.d.end_.at_,.own 6],.dead,.dead,.dead,.tree m.d.plan.shapes,.lst .lev m.d.stack,.lst .ev m.out]:List Blk)=z3)∧(z11=false→(Fun Tryz.prog 176 [vP 0,.c (.int .u64 z6.bits)] [.cells [.own 1,zi m.d.plan.root,zi m.d.plan.deep,zi m.d.plan.most,zi m.d.mode,.own 2,.int .u64 0,zi 0,zi m.d.start,zi m.d.at_,zi m.d.field.number,zi m.d.field.kind,.bool m.d.field.rep,.bool m.d.field.packed,zi m.d.field.msg,zi m.d.wire,zi m.d.want,zi m.d.utf.want,zi m.d.utf.low,zi m.d.utf.high,zi m.d.end_.kind,zi m.d.end_.field,.int .u64 m.d.end_.bits,zi m.d.end_.len,.str m.d.end_.text,zi m.d.end_.code,zi m.d.end_.at_,.own 3],.tree m.d.plan.shapes,.lst .lev m.d.stack,.lst .ev m.out] (.tup []) z7)∧((decide (m.d.mode=8))=true→((decide (0<z1.d.want))=true→(z10=true→(Fun Tryz.prog 94 [vP 0,vI 9,vI z1.d.at_] z4 (.tup []) z8)∧z9= .tup []∧([.cells (Ab 4 5 6 z5),.dead,.dead,.dead,.tree z5.d.plan.shapes,.lst .lev z5.d.stack,.lst .ev z5.out]:List Blk)=z3)∧(z10=false→(Fun Tryz.prog 120 [vP 0] z4 (.tup []) z2)∧z9= .tup []∧(z2:List Blk)=z3))∧((decide (0<z1.d.want))=false→(Fun Tryz.prog 120 [vP 0] z4 (.tup []) z2)∧z9= .tup []∧(z2:List Blk)=z3))∧((decide (m.d.mode=8))=false→(Fun Tryz.prog 120 [vP 0] z4 (.tup []) z2)∧z9= .tup []∧(z2:List Blk)=z3)))) Q4 ?_
 refine⟨(R6 m.d),(Aiy m.d.scan _),dsp (fun h1 p1=>?_) fun h1 p1=>?_⟩
 refine have hm1:D0 m b=(⟨(⟨m.d.plan,m.d.mode,m.d.stack,(B6 m.d.scan b),m.d.start,m.d.at_,m.d.field,m.d.wire,m.d.want,m.d.utf,m.d.end_⟩:Dcd),m.out⟩:Mac):=?_;?_
 rotate_left
 exact⟨rfl,Q5⟩
 refine⟨(Adq (⟨(⟨m.d.plan,m.d.mode,m.d.stack,(⟨0,0⟩:Scn),m.d.start,m.d.at_,m.d.field,m.d.wire,m.d.want,m.d.utf,m.d.end_⟩:Dcd),m.out⟩:Mac) _ Q7 Q2),dsp (fun h2 p2=>?_) fun h2 p2=>?_⟩
 refine dsp (fun h3 p3=>?_) fun h3 p3=>?_
 refine dsp (fun h4 p4=>?_) fun h4 p4=>?_
 refine⟨(Co (Bz (⟨(⟨m.d.plan,m.d.mode,m.d.stack,(⟨0,0⟩:Scn),m.d.start,m.d.at_,m.d.field,m.d.wire,m.d.want,m.d.utf,m.d.end_⟩:Dcd),m.out⟩:Mac) (B6 m.d.scan b).bits) _ _ (Nat.le_trans (Gn _ _) Q72)),?_⟩
 refine have hm1:D0 m b=(A7 (Bz (⟨(⟨m.d.plan,m.d.mode,m.d.stack,(⟨0,0⟩:Scn),m.d.start,m.d.at_,m.d.field,m.d.wire,m.d.want,m.d.utf,m.d.end_⟩:Dcd),m.out⟩:Mac) (B6 m.d.scan b).bits) 9 (Bz (⟨(⟨m.d.plan,m.d.mode,m.d.stack,(⟨0,0⟩:Scn),m.d.start,m.d.at_,m.d.field,m.d.wire,m.d.want,m.d.utf,m.d.end_⟩:Dcd),m.out⟩:Mac) (B6 m.d.scan b).bits).d.at_):=?_;?_
 rotate_left
 exact⟨rfl,Q5⟩
 refine⟨(E3 (Bz (⟨(⟨m.d.plan,m.d.mode,m.d.stack,(⟨0,0⟩:Scn),m.d.start,m.d.at_,m.d.field,m.d.wire,m.d.want,m.d.utf,m.d.end_⟩:Dcd),m.out⟩:Mac) (B6 m.d.scan b).bits) (Q19) (Nat.le_trans (Gn _ _) Q72)),?_⟩
 refine have hm1:D0 m b=(Af (Bz (⟨(⟨m.d.plan,m.d.mode,m.d.stack,(⟨0,0⟩:Scn),m.d.start,m.d.at_,m.d.field,m.d.wire,m.d.want,m.d.utf,m.d.end_⟩:Dcd),m.out⟩:Mac) (B6 m.d.scan b).bits)):=?_;?_
 rotate_left
 exact⟨rfl,Q5⟩
 refine⟨(E3 (Bz (⟨(⟨m.d.plan,m.d.mode,m.d.stack,(⟨0,0⟩:Scn),m.d.start,m.d.at_,m.d.field,m.d.wire,m.d.want,m.d.utf,m.d.end_⟩:Dcd),m.out⟩:Mac) (B6 m.d.scan b).bits) (Q19) (Nat.le_trans (Gn _ _) Q72)),?_⟩
 refine have hm1:D0 m b=(Af (Bz (⟨(⟨m.d.plan,m.d.mode,m.d.stack,(⟨0,0⟩:Scn),m.d.start,m.d.at_,m.d.field,m.d.wire,m.d.want,m.d.utf,m.d.end_⟩:Dcd),m.out⟩:Mac) (B6 m.d.scan b).bits)):=?_;?_
 rotate_left
 exact⟨rfl,Q5⟩
 refine⟨(E3 (Bz (⟨(⟨m.d.plan,m.d.mode,m.d.stack,(⟨0,0⟩:Scn),m.d.start,m.d.at_,m.d.field,m.d.wire,m.d.want,m.d.utf,m.d.end_⟩:Dcd),m.out⟩:Mac) (B6 m.d.scan b).bits) (Q19) (Nat.le_trans (Gn _ _) Q72)),?_⟩
 refine have hm1:D0 m b=(Af (Bz (⟨(⟨m.d.plan,m.d.mode,m.d.stack,(⟨0,0⟩:Scn),m.d.start,m.d.at_,m.d.field,m.d.wire,m.d.want,m.d.utf,m.d.end_⟩:Dcd),m.out⟩:Mac) (B6 m.d.scan b).bits)):=?_;?_
 rotate_left
 exact⟨rfl,Q5⟩
 all_goals first|(simp_all[D0,Kd,A7,A8,scn0,Tw,Ps];done)|(grind[D0,Kd,A7,A8,scn0,Tw,Ps])
theorem Zs (m:Mac) (b:Int) (hp1:MW (m).d) (hp2:List.length (m).out≤50000000) (hp3:(0:Int)≤b∧b≤255):Fun Tryz.prog 119 [vP 0,vI b] [.cells (Ab 1 2 3 m),.tree m.d.plan.shapes,.lst .lev m.d.stack,.lst .ev m.out] (.tup []) [.cells (Ab 4 5 6 (Fr m b)),.dead,.dead,.dead,.tree (Fr m b).d.plan.shapes,.lst .lev (Fr m b).d.stack,.lst .ev (Fr m b).out]:=by
 have hN:Be=274877906944:=rfl
 have hlv:=Cb hp1.lv
 have hpt:=By hlv.1
 have htb:=H9 hp1.lv
 have hwm:=Agt m
 have hbb:=hp1.b0
 have hat:=hp1.at_
 have hwt:=hp1.want
 have hwd:=Kx m.d
 refine Ar Tryz.func119 Q4 Q4 (w:=let zi:Int→C:= .int .i64;let z3:List C:=[zi 4,zi 0,.int .u64 0,zi 0,.str (List.map Bv [b]),zi 0,zi 0];let z6:=(⟨4,0,0,0,List.map Bv [b],0,0⟩:Ev);let z5:=Af (⟨(m).d,(m).out++[z6]⟩:Mac);let z7:List Blk:=[.cells (Ab 4 5 6 (Fr m b)),.dead,.dead,.dead,.tree (Fr m b).d.plan.shapes,.lst .lev (Fr m b).d.stack,.lst .ev (Fr m b).out];let z11:List Blk:=[.cells (Ab 4 5 6 z5),.dead,.dead,.dead,.tree z5.d.plan.shapes,.lst .lev z5.d.stack,.lst .ev z5.out];let z12:List Blk:=[.cells (Ab 1 2 4 m),.tree (m).d.plan.shapes,.lst .lev (m).d.stack,.dead,.lst .ev ((m).out++[z6])];let z14:List Blk:=[.cells (Ab 1 2 3 m),.tree m.d.plan.shapes,.lst .lev m.d.stack,.lst .ev m.out];let z16:=(.v (.c (.int .u8 (IntKind.u8.wrap (b)))):S)= .v (.c (.int .u8 b));let z17:=Bi m.d.utf b;let z8:=z17.getD m.d.utf;let z1:List C:=[.own 1,zi m.d.plan.root,zi m.d.plan.deep,zi m.d.plan.most,zi m.d.mode,.own 2,.int .u64 m.d.scan.bits,zi m.d.scan.have_,zi m.d.start,zi m.d.at_,zi m.d.field.number,zi m.d.field.kind,.bool m.d.field.rep,.bool m.d.field.packed,zi m.d.field.msg,zi m.d.wire,zi m.d.want,zi z8.want,zi z8.low,zi z8.high,zi m.d.end_.kind,zi m.d.end_.field,.int .u64 m.d.end_.bits,zi m.d.end_.len,.str m.d.end_.text,zi m.d.end_.code,zi m.d.end_.at_,.own 4];let z2:List C:=[.own 1,zi m.d.plan.root,zi m.d.plan.deep,zi m.d.plan.most,zi m.d.mode,.own 2,.int .u64 m.d.scan.bits,zi m.d.scan.have_,zi m.d.start,zi m.d.at_,zi m.d.field.number,zi m.d.field.kind,.bool m.d.field.rep,.bool m.d.field.packed,zi m.d.field.msg,zi m.d.wire,zi m.d.want,zi z8.want,zi z8.low,zi z8.high,zi m.d.end_.kind,zi m.d.end_.field,.int .u64 m.d.end_.bits,zi m.d.end_.len,.str m.d.end_.text,zi m.d.end_.code,zi m.d.end_.at_,.own 3];let z4:=Af (⟨(⟨m.d.plan,m.d.mode,m.d.stack,m.d.scan,m.d.start,m.d.at_,m.d.field,m.d.wire,m.d.want,z8,m.d.end_⟩:Dcd),m.out++[z6]⟩:Mac);let z10:List Blk:=[.cells (Ab 4 5 6 z4),.dead,.dead,.dead,.tree z4.d.plan.shapes,.lst .lev z4.d.stack,.lst .ev z4.out];let z15:List Blk:=[.cells z1,.tree m.d.plan.shapes,.lst .lev m.d.stack,.dead,.lst .ev (m.out++[z6])];let z18:=m.d.at_-1;let z9:=A7 m 5 z18;let z13:List Blk:=[.cells (Ab 1 2 4 z9),.tree z9.d.plan.shapes,.lst .lev z9.d.stack,.dead,.lst .ev z9.out];(.br (.seg [.call [] (.tup [.agg (Hn z8),vB z17.isSome]) []] (.br (.seg [.as 31 (.v (vI z18)),.call [0,1,2,3] (.tup []) z13,.at 0,.cut 0 0,.cut 0 5] (.leaf () [0,1,2,3,6,7,5])) (.seg [.as 40 (.v (.c (.int .u8 b))),.ty .u8,.call [0,1,2,3] (.tup []) z15,.call [0,1,2,6] (.tup []) z10] (.leaf () [0,1,2,3,7,8,9])))) (.seg [.as 40 (.v (.c (.int .u8 b))),.ty .u8,.call [0,1,2,3] (.tup []) z12,.call [0,1,2,5] (.tup []) z11] (.leaf () [0,1,2,3,6,7,8])),((decide (m.d.field.kind=6))=true→(Fun Tryz.prog 172 [.agg (Hn m.d.utf),vI b] [] (.tup [.agg (Hn z8),vB z17.isSome]) [])∧((!z17.isSome)=true→((.v (vI (IntKind.i64.wrap z18)):S)= .v (vI z18))∧(Fun Tryz.prog 94 [vP 0,vI 5,vI z18] z14 (.tup []) z13)∧(.tup []:S)= .tup []∧([.cells (Ab 4 5 6 z9),.dead,.dead,.dead,.tree z9.d.plan.shapes,.lst .lev z9.d.stack,.lst .ev z9.out]:List Blk)=z7)∧((!z17.isSome)=false→z16∧(Fun Tryz.prog 93 [vP 0,.agg z3] [.cells z2,.tree m.d.plan.shapes,.lst .lev m.d.stack,.lst .ev m.out] (.tup []) z15)∧(Fun Tryz.prog 120 [vP 0] [.cells z2,.tree m.d.plan.shapes,.lst .lev m.d.stack,.lst .ev (m.out++[z6])] (.tup []) z10)∧(.tup []:S)= .tup []∧(z10:List Blk)=z7))∧((decide (m.d.field.kind=6))=false→z16∧(Fun Tryz.prog 93 [vP 0,.agg z3] z14 (.tup []) z12)∧(Fun Tryz.prog 120 [vP 0] [.cells (Ab 1 2 3 m),.tree (m).d.plan.shapes,.lst .lev (m).d.stack,.lst .ev ((m).out++[z6])] (.tup []) z11)∧(.tup []:S)= .tup []∧(z11:List Blk)=z7))) Q4 ?_
 refine dsp (fun h1 p1=>?_) fun h1 p1=>?_
 refine⟨(Xm m.d.utf _),fun h2=>have q2:=Ap h2;?_,fun h2=>have q2:=Ao h2;?_⟩
 refine⟨(Ac Q2 Q2),(Co m _ _ Q2),?_⟩
 refine have hm1:Fr m b=(A7 m 5 (m.d.at_-1)):=?_;?_
 rotate_left
 exact⟨rfl,Q5⟩
 refine⟨(Mv Q2 Q2),(Gu (⟨(⟨m.d.plan,m.d.mode,m.d.stack,m.d.scan,m.d.start,m.d.at_,m.d.field,m.d.wire,m.d.want,((Bi m.d.utf b).getD m.d.utf),m.d.end_⟩:Dcd),m.out⟩:Mac) (⟨4,0,0,0,List.map Bv [b],0,0⟩:Ev) Q7),(E3 (⟨(⟨m.d.plan,m.d.mode,m.d.stack,m.d.scan,m.d.start,m.d.at_,m.d.field,m.d.wire,m.d.want,((Bi m.d.utf b).getD m.d.utf),m.d.end_⟩:Dcd),m.out++[(⟨4,0,0,0,List.map Bv [b],0,0⟩:Ev)]⟩:Mac) (Q19) Q17),?_⟩
 refine have hm1:Fr m b=(Af (⟨(⟨m.d.plan,m.d.mode,m.d.stack,m.d.scan,m.d.start,m.d.at_,m.d.field,m.d.wire,m.d.want,((Bi m.d.utf b).getD m.d.utf),m.d.end_⟩:Dcd),m.out++[(⟨4,0,0,0,List.map Bv [b],0,0⟩:Ev)]⟩:Mac)):=?_;?_
 rotate_left
 exact⟨rfl,Q5⟩
 refine⟨(Mv Q2 Q2),(Gu m (⟨4,0,0,0,List.map Bv [b],0,0⟩:Ev) Q2),(E3 (⟨(m).d,(m).out++[(⟨4,0,0,0,List.map Bv [b],0,0⟩:Ev)]⟩:Mac) (Q19) Q17),?_⟩
 refine have hm1:Fr m b=(Af (⟨(m).d,(m).out++[(⟨4,0,0,0,List.map Bv [b],0,0⟩:Ev)]⟩:Mac)):=?_;?_
 rotate_left
 exact⟨rfl,Q5⟩
 all_goals first|(simp_all[Fr,Aph,A7,A8,Ado];done)|(grind[Fr,Aph,A7,A8,Ado])
theorem Ang (m:Mac) (b:Int) (hp1:MW (m).d) (hp2:List.length (m).out≤50000000) (hp3:(0:Int)≤b∧b≤255) (hp4:((m).d.stack.length=0∨1≤Ef (m).d)) (hp5:(m).d.at_≤1000000000) (hp6:((m).d.mode=6∨(m).d.mode=7∨(m).d.mode=8)→0≤(m).d.want):Fun Tryz.prog 57 [vP 0,vI b] [.cells (Ab 1 2 3 m),.tree m.d.plan.shapes,.lst .lev m.d.stack,.lst .ev m.out] (.tup []) [.cells (Ab 4 5 6 (Et m b)),.dead,.dead,.dead,.tree (Et m b).d.plan.shapes,.lst .lev (Et m b).d.stack,.lst .ev (Et m b).out]:=by
 have hN:Be=274877906944:=rfl
 have hlv:=Cb hp1.lv
 have hpt:=By hlv.1
 have htb:=H9 hp1.lv
 have hwm:=Agt m
 have hbb:=hp1.b0
 have hat:=hp1.at_
 have hwt:=hp1.want
 have hwd:=Kx m.d
 have hms:=hp1.step hp4 hp5 hp6
 refine Ar Tryz.func57 Q4 Q4 (w:=let zi:Int→C:= .int .i64;let z13:List C:=[zi m.d.utf.want,zi m.d.utf.low,zi m.d.utf.high,zi m.d.end_.kind,zi m.d.end_.field,.int .u64 m.d.end_.bits,zi m.d.end_.len,.str m.d.end_.text,zi m.d.end_.code,zi m.d.end_.at_];let z14:List C:=[zi m.d.utf.want,zi m.d.utf.low,zi m.d.utf.high,zi m.d.end_.kind,zi m.d.end_.field,.int .u64 m.d.end_.bits,zi m.d.end_.len,.str m.d.end_.text,zi m.d.end_.code,zi m.d.end_.at_,.own 3];let z15:=(⟨m.d.plan,m.d.mode,m.d.stack,m.d.scan,m.d.start,m.d.at_+1,m.d.field,m.d.wire,m.d.want-1,m.d.utf,m.d.end_⟩:Dcd);let z16:=(⟨m.d.plan,m.d.mode,m.d.stack,m.d.scan,m.d.start,m.d.at_+1,m.d.field,m.d.wire,m.d.want,m.d.utf,m.d.end_⟩:Dcd);let z17:List Blk:=[.cells (Ab 4 5 6 (Et m b)),.dead,.dead,.dead,.tree (Et m b).d.plan.shapes,.lst .lev (Et m b).d.stack,.lst .ev (Et m b).out];let z18:=((List.length m.d.stack:Nat):Int);let z27:=decide (m.d.mode=6);let z29:=decide (m.d.mode=7);let z30:=decide (0<B1 m.d);let z31:=m.d.want-1;let z26:=(.v (vI (IntKind.i64.wrap z31)):S)= .v (vI z31);let z32:=(.tup []:S);let z33:=vI (B1 m.d);let z34:=m.d.at_+1;let z11:List C:= .own 1::zi m.d.plan.root::zi m.d.plan.deep::zi m.d.plan.most::zi m.d.mode:: .own 2:: .int .u64 m.d.scan.bits::zi m.d.scan.have_::zi m.d.start::zi z34::zi m.d.field.number::zi m.d.field.kind:: .bool m.d.field.rep:: .bool m.d.field.packed::zi m.d.field.msg::zi m.d.wire::zi z31::z14;let z12:List C:= .own 1::zi m.d.plan.root::zi m.d.plan.deep::zi m.d.plan.most::zi m.d.mode:: .own 2:: .int .u64 m.d.scan.bits::zi m.d.scan.have_::zi m.d.start::zi z34::zi m.d.field.number::zi m.d.field.kind:: .bool m.d.field.rep:: .bool m.d.field.packed::zi m.d.field.msg::zi m.d.wire::zi m.d.want::z14;let z19:=z34-1;let z28:List Blk:=[.cells z11,.tree m.d.plan.shapes,.lst .lev m.d.stack,.lst .ev m.out];let z35:=B0 (⟨z15,m.out⟩:Mac) b z19;let z20:List Blk:=[.cells (Ab 4 5 6 z35),.dead,.dead,.dead,.tree z35.d.plan.shapes,.lst .lev z35.d.stack,.lst .ev z35.out];let z36:=B0 (⟨z16,m.out⟩:Mac) b z19;let z21:List Blk:=[.cells (Ab 4 5 6 z36),.dead,.dead,.dead,.tree z36.d.plan.shapes,.lst .lev z36.d.stack,.lst .ev z36.out];let z37:=Fr (⟨z15,m.out⟩:Mac) b;let z22:List Blk:=[.cells (Ab 4 5 6 z37),.dead,.dead,.dead,.tree z37.d.plan.shapes,.lst .lev z37.d.stack,.lst .ev z37.out];let z38:=Af (⟨z15,m.out⟩:Mac);let z23:List Blk:=[.cells (Ab 4 5 6 z38),.dead,.dead,.dead,.tree z38.d.plan.shapes,.lst .lev z38.d.stack,.lst .ev z38.out];let z39:=D0 (⟨z15,m.out⟩:Mac) b;let z24:List Blk:=[.cells (Ab 4 5 6 z39),.dead,.dead,.dead,.tree z39.d.plan.shapes,.lst .lev z39.d.stack,.lst .ev z39.out];let z40:=D0 (⟨z16,m.out⟩:Mac) b;let z25:List Blk:=[.cells (Ab 4 5 6 z40),.dead,.dead,.dead,.tree z40.d.plan.shapes,.lst .lev z40.d.stack,.lst .ev z40.out];let z41:List V:=[vP 0,vI b];let z42:=Int.toNat (z18-1);let z43:=(.v (vI (IntKind.i64.wrap (z18-1))):S)= .v (vI (z18-1));let z44:List Blk:=[.cells z12,.tree m.d.plan.shapes,.lst .lev m.d.stack,.lst .ev m.out];let z45:=decide (m.d.mode=8);let z46:=(0:Int)≤z18-1;let z47:=z27=false;let z48:=z18-1<z18;let z49:=z29=false;(.seg [.as 9 (.v (vI z34))] (.br (.intro (fun (x1:Lev)=>m.d.stack[Int.toNat (z18-1)]? =some x1) fun x1=>let z1:=(⟨m.d.plan,m.d.mode,List.set m.d.stack z42 (⟨x1.msg,x1.left-1⟩:Lev),m.d.scan,m.d.start,m.d.at_+1,m.d.field,m.d.wire,m.d.want-1,m.d.utf,m.d.end_⟩:Dcd);let z2:=(⟨m.d.plan,m.d.mode,List.set m.d.stack z42 (⟨x1.msg,x1.left-1⟩:Lev),m.d.scan,m.d.start,m.d.at_+1,m.d.field,m.d.wire,m.d.want,m.d.utf,m.d.end_⟩:Dcd);.seg [.ord (os 19 [18]) [],.as 31 (.v (vI (z18-1))),.el .lev x1,.as 35 (.v (vI (x1.left-1))),.el .lev x1] (.br (.seg [.as 65 (.v (vI z31)),.br true,.call [0,1,2,3] (.tup []) [.cells (Ab 4 5 6 (Fr (⟨z1,m.out⟩:Mac) b)),.dead,.dead,.dead,.tree (Fr (⟨z1,m.out⟩:Mac) b).d.plan.shapes,.lst .lev (Fr (⟨z1,m.out⟩:Mac) b).d.stack,.lst .ev (Fr (⟨z1,m.out⟩:Mac) b).out]] (.leaf () [0,1,2,3,4,5,6])) (.br (.seg [.as 65 (.v (vI z31)),.br false,.br true,.call [0,1,2,3] (.tup []) [.cells (Ab 4 5 6 (Af (⟨z1,m.out⟩:Mac))),.dead,.dead,.dead,.tree (Af (⟨z1,m.out⟩:Mac)).d.plan.shapes,.lst .lev (Af (⟨z1,m.out⟩:Mac)).d.stack,.lst .ev (Af (⟨z1,m.out⟩:Mac)).out]] (.leaf () [0,1,2,3,4,5,6])) (.br (.seg [.as 65 (.v (vI z31)),.br false,.br false,.call [] (.v z33) []] (.br (.seg [.call [0,1,2,3] (.tup []) [.cells (Ab 4 5 6 (D0 (⟨z1,m.out⟩:Mac) b)),.dead,.dead,.dead,.tree (D0 (⟨z1,m.out⟩:Mac) b).d.plan.shapes,.lst .lev (D0 (⟨z1,m.out⟩:Mac) b).d.stack,.lst .ev (D0 (⟨z1,m.out⟩:Mac) b).out]] (.leaf () [0,1,2,3,4,5,6])) (.seg [.call [0,1,2,3] (.tup []) [.cells (Ab 4 5 6 (B0 (⟨z1,m.out⟩:Mac) b z19)),.dead,.dead,.dead,.tree (B0 (⟨z1,m.out⟩:Mac) b z19).d.plan.shapes,.lst .lev (B0 (⟨z1,m.out⟩:Mac) b z19).d.stack,.lst .ev (B0 (⟨z1,m.out⟩:Mac) b z19).out]] (.leaf () [0,1,2,3,4,5,6])))) (.seg [.br false,.br false,.call [] (.v z33) []] (.br (.seg [.call [0,1,2,3] (.tup []) [.cells (Ab 4 5 6 (D0 (⟨z2,m.out⟩:Mac) b)),.dead,.dead,.dead,.tree (D0 (⟨z2,m.out⟩:Mac) b).d.plan.shapes,.lst .lev (D0 (⟨z2,m.out⟩:Mac) b).d.stack,.lst .ev (D0 (⟨z2,m.out⟩:Mac) b).out]] (.leaf () [0,1,2,3,4,5,6])) (.seg [.call [0,1,2,3] (.tup []) [.cells (Ab 4 5 6 (B0 (⟨z2,m.out⟩:Mac) b z19)),.dead,.dead,.dead,.tree (B0 (⟨z2,m.out⟩:Mac) b z19).d.plan.shapes,.lst .lev (B0 (⟨z2,m.out⟩:Mac) b z19).d.stack,.lst .ev (B0 (⟨z2,m.out⟩:Mac) b z19).out]] (.leaf () [0,1,2,3,4,5,6])))))))) (.br (.seg [.as 65 (.v (vI z31)),.br true,.call [0,1,2,3] (.tup []) z22] (.leaf () [0,1,2,3,4,5,6])) (.br (.seg [.as 65 (.v (vI z31)),.br false,.br true,.call [0,1,2,3] (.tup []) z23] (.leaf () [0,1,2,3,4,5,6])) (.br (.seg [.as 65 (.v (vI z31)),.br false,.br false,.call [] (.v z33) []] (.br (.seg [.call [0,1,2,3] (.tup []) z24] (.leaf () [0,1,2,3,4,5,6])) (.seg [.call [0,1,2,3] (.tup []) z20] (.leaf () [0,1,2,3,4,5,6])))) (.seg [.br false,.br false,.call [] (.v z33) []] (.br (.seg [.call [0,1,2,3] (.tup []) z25] (.leaf () [0,1,2,3,4,5,6])) (.seg [.call [0,1,2,3] (.tup []) z21] (.leaf () [0,1,2,3,4,5,6])))))))),((.v (vI (IntKind.i64.wrap z34)):S)= .v (vI z34))∧((decide (0<z18))=true→(∃(x1:Lev),m.d.stack[Int.toNat (z18-1)]? =some x1)∧∀(x1:Lev),(m.d.stack[Int.toNat (z18-1)]? =some x1)→(let z8:=m.d.stack[Int.toNat (z18-1)]? =some x1;let z9:=(.v (vI (IntKind.i64.wrap (x1.left-1))):S)= .v (vI (x1.left-1));let z10:=(⟨x1.msg,x1.left-1⟩:Lev);let z3:=(⟨m.d.plan,m.d.mode,List.set m.d.stack z42 z10,m.d.scan,m.d.start,m.d.at_+1,m.d.field,m.d.wire,m.d.want-1,m.d.utf,m.d.end_⟩:Dcd);let z4:=(⟨m.d.plan,m.d.mode,List.set m.d.stack z42 z10,m.d.scan,m.d.start,m.d.at_+1,m.d.field,m.d.wire,m.d.want,m.d.utf,m.d.end_⟩:Dcd);let z7:=List.set m.d.stack z42 z10;let z5:List Blk:=[.cells z11,.tree m.d.plan.shapes,.lst .lev z7,.lst .ev m.out];let z6:List Blk:=[.cells z12,.tree m.d.plan.shapes,.lst .lev z7,.lst .ev m.out];z43∧z43∧z48∧z46∧z48∧z46∧z8∧z8∧z9∧z9∧z48∧z46∧z48∧z46∧z8∧(z27=true→z26∧(z27=true)∧(Fun Tryz.prog 119 z41 z5 (.tup []) [.cells (Ab 4 5 6 (Fr (⟨z3,m.out⟩:Mac) b)),.dead,.dead,.dead,.tree (Fr (⟨z3,m.out⟩:Mac) b).d.plan.shapes,.lst .lev (Fr (⟨z3,m.out⟩:Mac) b).d.stack,.lst .ev (Fr (⟨z3,m.out⟩:Mac) b).out])∧z32= .tup []∧([.cells (Ab 4 5 6 (Fr (⟨z3,m.out⟩:Mac) b)),.dead,.dead,.dead,.tree (Fr (⟨z3,m.out⟩:Mac) b).d.plan.shapes,.lst .lev (Fr (⟨z3,m.out⟩:Mac) b).d.stack,.lst .ev (Fr (⟨z3,m.out⟩:Mac) b).out]:List Blk)=z17)∧(z27=false→(z29=true→z26∧z47∧(z29=true)∧(Fun Tryz.prog 120 [vP 0] z5 (.tup []) [.cells (Ab 4 5 6 (Af (⟨z3,m.out⟩:Mac))),.dead,.dead,.dead,.tree (Af (⟨z3,m.out⟩:Mac)).d.plan.shapes,.lst .lev (Af (⟨z3,m.out⟩:Mac)).d.stack,.lst .ev (Af (⟨z3,m.out⟩:Mac)).out])∧z32= .tup []∧([.cells (Ab 4 5 6 (Af (⟨z3,m.out⟩:Mac))),.dead,.dead,.dead,.tree (Af (⟨z3,m.out⟩:Mac)).d.plan.shapes,.lst .lev (Af (⟨z3,m.out⟩:Mac)).d.stack,.lst .ev (Af (⟨z3,m.out⟩:Mac)).out]:List Blk)=z17)∧(z29=false→(z45=true→z26∧z47∧z49∧(Fun Tryz.prog 121 [.agg (.seq .shp m.d.plan.shapes::zi m.d.plan.root::zi m.d.plan.deep::zi m.d.plan.most::zi m.d.mode:: .seq .lev z7:: .int .u64 m.d.scan.bits::zi m.d.scan.have_::zi m.d.start::zi z34::zi m.d.field.number::zi m.d.field.kind:: .bool m.d.field.rep:: .bool m.d.field.packed::zi m.d.field.msg::zi m.d.wire::zi z31::z13)] [] (.v z33) [])∧(z30=true→(Fun Tryz.prog 122 z41 z5 (.tup []) [.cells (Ab 4 5 6 (D0 (⟨z3,m.out⟩:Mac) b)),.dead,.dead,.dead,.tree (D0 (⟨z3,m.out⟩:Mac) b).d.plan.shapes,.lst .lev (D0 (⟨z3,m.out⟩:Mac) b).d.stack,.lst .ev (D0 (⟨z3,m.out⟩:Mac) b).out])∧z32= .tup []∧([.cells (Ab 4 5 6 (D0 (⟨z3,m.out⟩:Mac) b)),.dead,.dead,.dead,.tree (D0 (⟨z3,m.out⟩:Mac) b).d.plan.shapes,.lst .lev (D0 (⟨z3,m.out⟩:Mac) b).d.stack,.lst .ev (D0 (⟨z3,m.out⟩:Mac) b).out]:List Blk)=z17)∧(z30=false→(Fun Tryz.prog 123 z41 z5 (.tup []) [.cells (Ab 4 5 6 (B0 (⟨z3,m.out⟩:Mac) b z19)),.dead,.dead,.dead,.tree (B0 (⟨z3,m.out⟩:Mac) b z19).d.plan.shapes,.lst .lev (B0 (⟨z3,m.out⟩:Mac) b z19).d.stack,.lst .ev (B0 (⟨z3,m.out⟩:Mac) b z19).out])∧z32= .tup []∧([.cells (Ab 4 5 6 (B0 (⟨z3,m.out⟩:Mac) b z19)),.dead,.dead,.dead,.tree (B0 (⟨z3,m.out⟩:Mac) b z19).d.plan.shapes,.lst .lev (B0 (⟨z3,m.out⟩:Mac) b z19).d.stack,.lst .ev (B0 (⟨z3,m.out⟩:Mac) b z19).out]:List Blk)=z17))∧(z45=false→z47∧z49∧(Fun Tryz.prog 121 [.agg (.seq .shp m.d.plan.shapes::zi m.d.plan.root::zi m.d.plan.deep::zi m.d.plan.most::zi m.d.mode:: .seq .lev z7:: .int .u64 m.d.scan.bits::zi m.d.scan.have_::zi m.d.start::zi z34::zi m.d.field.number::zi m.d.field.kind:: .bool m.d.field.rep:: .bool m.d.field.packed::zi m.d.field.msg::zi m.d.wire::zi m.d.want::z13)] [] (.v z33) [])∧(z30=true→(Fun Tryz.prog 122 z41 z6 (.tup []) [.cells (Ab 4 5 6 (D0 (⟨z4,m.out⟩:Mac) b)),.dead,.dead,.dead,.tree (D0 (⟨z4,m.out⟩:Mac) b).d.plan.shapes,.lst .lev (D0 (⟨z4,m.out⟩:Mac) b).d.stack,.lst .ev (D0 (⟨z4,m.out⟩:Mac) b).out])∧z32= .tup []∧([.cells (Ab 4 5 6 (D0 (⟨z4,m.out⟩:Mac) b)),.dead,.dead,.dead,.tree (D0 (⟨z4,m.out⟩:Mac) b).d.plan.shapes,.lst .lev (D0 (⟨z4,m.out⟩:Mac) b).d.stack,.lst .ev (D0 (⟨z4,m.out⟩:Mac) b).out]:List Blk)=z17)∧(z30=false→(Fun Tryz.prog 123 z41 z6 (.tup []) [.cells (Ab 4 5 6 (B0 (⟨z4,m.out⟩:Mac) b z19)),.dead,.dead,.dead,.tree (B0 (⟨z4,m.out⟩:Mac) b z19).d.plan.shapes,.lst .lev (B0 (⟨z4,m.out⟩:Mac) b z19).d.stack,.lst .ev (B0 (⟨z4,m.out⟩:Mac) b z19).out])∧z32= .tup []∧([.cells (Ab 4 5 6 (B0 (⟨z4,m.out⟩:Mac) b z19)),.dead,.dead,.dead,.tree (B0 (⟨z4,m.out⟩:Mac) b z19).d.plan.shapes,.lst .lev (B0 (⟨z4,m.out⟩:Mac) b z19).d.stack,.lst .ev (B0 (⟨z4,m.out⟩:Mac) b z19).out]:List Blk)=z17))))))∧((decide (0<z18))=false→(z27=true→z26∧(z27=true)∧(Fun Tryz.prog 119 z41 z28 (.tup []) z22)∧z32= .tup []∧(z22:List Blk)=z17)∧(z27=false→(z29=true→z26∧z47∧(z29=true)∧(Fun Tryz.prog 120 [vP 0] z28 (.tup []) z23)∧z32= .tup []∧(z23:List Blk)=z17)∧(z29=false→(z45=true→z26∧z47∧z49∧(Fun Tryz.prog 121 [.agg (.seq .shp m.d.plan.shapes::zi m.d.plan.root::zi m.d.plan.deep::zi m.d.plan.most::zi m.d.mode:: .seq .lev m.d.stack:: .int .u64 m.d.scan.bits::zi m.d.scan.have_::zi m.d.start::zi z34::zi m.d.field.number::zi m.d.field.kind:: .bool m.d.field.rep:: .bool m.d.field.packed::zi m.d.field.msg::zi m.d.wire::zi z31::z13)] [] (.v z33) [])∧(z30=true→(Fun Tryz.prog 122 z41 z28 (.tup []) z24)∧z32= .tup []∧(z24:List Blk)=z17)∧(z30=false→(Fun Tryz.prog 123 z41 z28 (.tup []) z20)∧z32= .tup []∧(z20:List Blk)=z17))∧(z45=false→z47∧z49∧(Fun Tryz.prog 121 [.agg (.seq .shp m.d.plan.shapes::zi m.d.plan.root::zi m.d.plan.deep::zi m.d.plan.most::zi m.d.mode:: .seq .lev m.d.stack:: .int .u64 m.d.scan.bits::zi m.d.scan.have_::zi m.d.start::zi z34::zi m.d.field.number::zi m.d.field.kind:: .bool m.d.field.rep:: .bool m.d.field.packed::zi m.d.field.msg::zi m.d.wire::zi m.d.want::z13)] [] (.v z33) [])∧(z30=true→(Fun Tryz.prog 122 z41 z44 (.tup []) z25)∧z32= .tup []∧(z25:List Blk)=z17)∧(z30=false→(Fun Tryz.prog 123 z41 z44 (.tup []) z21)∧z32= .tup []∧(z21:List Blk)=z17))))))) Q4 ?_
 refine⟨(Ac Q2 Q2),dsp (fun h1 p1=>?_) fun h1 p1=>?_⟩
 have hne:m.d.stack≠[]:=fun e=>by have:=congrArg List.length e;simp only[List.length_nil] at this;omega
 refine⟨(Bq (l:=m.d.stack) (i:=Int.toNat (((List.length m.d.stack:Nat):Int)-1)) Q2),fun x1 hx1=>?_⟩
 have hll:=Kv (d:=m.d) (by rw[←hx1];congr 1;omega)
 have hix:Int.toNat ((m.d.stack.length:Int)-1)=m.d.stack.length-1:=by omega
 refine⟨(Ac Q2 Q2),(Ac Q2 Q2),Q2,Q2,Q2,Q2,hx1,hx1,(Ac Q2 Q2),(Ac Q2 Q2),Q2,Q2,Q2,Q2,hx1,dsp (fun h2 p2=>?_) fun h2 p2=>?_⟩
 refine⟨(Ac Q2 Q2),h2,(Zs (⟨(⟨m.d.plan,m.d.mode,List.set m.d.stack (Int.toNat (((List.length m.d.stack:Nat):Int)-1)) (⟨x1.msg,x1.left-1⟩:Lev),m.d.scan,m.d.start,m.d.at_+1,m.d.field,m.d.wire,m.d.want-1,m.d.utf,m.d.end_⟩:Dcd),m.out⟩:Mac) _ (Q20) Q7 Q2),?_⟩
 refine have hm1:Et m b=(Fr (⟨(⟨m.d.plan,m.d.mode,List.set m.d.stack (Int.toNat (((List.length m.d.stack:Nat):Int)-1)) (⟨x1.msg,x1.left-1⟩:Lev),m.d.scan,m.d.start,m.d.at_+1,m.d.field,m.d.wire,m.d.want-1,m.d.utf,m.d.end_⟩:Dcd),m.out⟩:Mac) b):=?_;?_
 rotate_left
 exact⟨rfl,Q5⟩
 refine dsp (fun h3 p3=>?_) fun h3 p3=>?_
 refine⟨(Ac Q2 Q2),h2,h3,(E3 (⟨(⟨m.d.plan,m.d.mode,List.set m.d.stack (Int.toNat (((List.length m.d.stack:Nat):Int)-1)) (⟨x1.msg,x1.left-1⟩:Lev),m.d.scan,m.d.start,m.d.at_+1,m.d.field,m.d.wire,m.d.want-1,m.d.utf,m.d.end_⟩:Dcd),m.out⟩:Mac) ((by have e:Ek m.d=(⟨m.d.plan,m.d.mode,List.set m.d.stack (Int.toNat (((List.length m.d.stack:Nat):Int)-1)) (⟨x1.msg,x1.left-1⟩:Lev),m.d.scan,m.d.start,m.d.at_+1,m.d.field,m.d.wire,m.d.want-1,m.d.utf,m.d.end_⟩:Dcd):=Q27;exact((e▸hms:MW (⟨m.d.plan,m.d.mode,List.set m.d.stack (Int.toNat (((List.length m.d.stack:Nat):Int)-1)) (⟨x1.msg,x1.left-1⟩:Lev),m.d.scan,m.d.start,m.d.at_+1,m.d.field,m.d.wire,m.d.want-1,m.d.utf,m.d.end_⟩:Dcd))).lv)) Q7),?_⟩
 refine have hm1:Et m b=(Af (⟨(⟨m.d.plan,m.d.mode,List.set m.d.stack (Int.toNat (((List.length m.d.stack:Nat):Int)-1)) (⟨x1.msg,x1.left-1⟩:Lev),m.d.scan,m.d.start,m.d.at_+1,m.d.field,m.d.wire,m.d.want-1,m.d.utf,m.d.end_⟩:Dcd),m.out⟩:Mac)):=?_;?_
 rotate_left
 exact⟨rfl,Q5⟩
 refine dsp (fun h4 p4=>?_) fun h4 p4=>?_
 refine⟨(Ac Q2 Q2),h2,h3,(R6 (⟨m.d.plan,m.d.mode,List.set m.d.stack (Int.toNat (((List.length m.d.stack:Nat):Int)-1)) (⟨x1.msg,x1.left-1⟩:Lev),m.d.scan,m.d.start,m.d.at_+1,m.d.field,m.d.wire,m.d.want-1,m.d.utf,m.d.end_⟩:Dcd)),dsp (fun h5 p5=>?_) fun h5 p5=>?_⟩
 refine⟨(T5 (⟨(⟨m.d.plan,m.d.mode,List.set m.d.stack (Int.toNat (((List.length m.d.stack:Nat):Int)-1)) (⟨x1.msg,x1.left-1⟩:Lev),m.d.scan,m.d.start,m.d.at_+1,m.d.field,m.d.wire,m.d.want-1,m.d.utf,m.d.end_⟩:Dcd),m.out⟩:Mac) _ (Q20) Q7 Q2),?_⟩
 refine have hm1:Et m b=(D0 (⟨(⟨m.d.plan,m.d.mode,List.set m.d.stack (Int.toNat (((List.length m.d.stack:Nat):Int)-1)) (⟨x1.msg,x1.left-1⟩:Lev),m.d.scan,m.d.start,m.d.at_+1,m.d.field,m.d.wire,m.d.want-1,m.d.utf,m.d.end_⟩:Dcd),m.out⟩:Mac) b):=?_;?_
 rotate_left
 exact⟨rfl,Q5⟩
 refine⟨(T4 (⟨(⟨m.d.plan,m.d.mode,List.set m.d.stack (Int.toNat (((List.length m.d.stack:Nat):Int)-1)) (⟨x1.msg,x1.left-1⟩:Lev),m.d.scan,m.d.start,m.d.at_+1,m.d.field,m.d.wire,m.d.want-1,m.d.utf,m.d.end_⟩:Dcd),m.out⟩:Mac) _ (Q20) Q7 Q2),?_⟩
 refine have hm1:Et m b=(B0 (⟨(⟨m.d.plan,m.d.mode,List.set m.d.stack (Int.toNat (((List.length m.d.stack:Nat):Int)-1)) (⟨x1.msg,x1.left-1⟩:Lev),m.d.scan,m.d.start,m.d.at_+1,m.d.field,m.d.wire,m.d.want-1,m.d.utf,m.d.end_⟩:Dcd),m.out⟩:Mac) b ((m.d.at_+1)-1)):=?_;?_
 rotate_left
 exact⟨rfl,Q5⟩
 refine⟨h2,h3,(R6 (⟨m.d.plan,m.d.mode,List.set m.d.stack (Int.toNat (((List.length m.d.stack:Nat):Int)-1)) (⟨x1.msg,x1.left-1⟩:Lev),m.d.scan,m.d.start,m.d.at_+1,m.d.field,m.d.wire,m.d.want,m.d.utf,m.d.end_⟩:Dcd)),dsp (fun h5 p5=>?_) fun h5 p5=>?_⟩
 refine⟨(T5 (⟨(⟨m.d.plan,m.d.mode,List.set m.d.stack (Int.toNat (((List.length m.d.stack:Nat):Int)-1)) (⟨x1.msg,x1.left-1⟩:Lev),m.d.scan,m.d.start,m.d.at_+1,m.d.field,m.d.wire,m.d.want,m.d.utf,m.d.end_⟩:Dcd),m.out⟩:Mac) _ (Q40) Q7 Q2),?_⟩
 refine have hm1:Et m b=(D0 (⟨(⟨m.d.plan,m.d.mode,List.set m.d.stack (Int.toNat (((List.length m.d.stack:Nat):Int)-1)) (⟨x1.msg,x1.left-1⟩:Lev),m.d.scan,m.d.start,m.d.at_+1,m.d.field,m.d.wire,m.d.want,m.d.utf,m.d.end_⟩:Dcd),m.out⟩:Mac) b):=?_;?_
 rotate_left
 exact⟨rfl,Q5⟩
 refine⟨(T4 (⟨(⟨m.d.plan,m.d.mode,List.set m.d.stack (Int.toNat (((List.length m.d.stack:Nat):Int)-1)) (⟨x1.msg,x1.left-1⟩:Lev),m.d.scan,m.d.start,m.d.at_+1,m.d.field,m.d.wire,m.d.want,m.d.utf,m.d.end_⟩:Dcd),m.out⟩:Mac) _ (Q40) Q7 Q2),?_⟩
 refine have hm1:Et m b=(B0 (⟨(⟨m.d.plan,m.d.mode,List.set m.d.stack (Int.toNat (((List.length m.d.stack:Nat):Int)-1)) (⟨x1.msg,x1.left-1⟩:Lev),m.d.scan,m.d.start,m.d.at_+1,m.d.field,m.d.wire,m.d.want,m.d.utf,m.d.end_⟩:Dcd),m.out⟩:Mac) b ((m.d.at_+1)-1)):=?_;?_
 rotate_left
 exact⟨rfl,Q5⟩
 have hne:m.d.stack=[]:=List.eq_nil_of_length_eq_zero (by omega)
 refine dsp (fun h2 p2=>?_) fun h2 p2=>?_
 refine⟨(Ac Q2 Q2),h2,(Zs (⟨(⟨m.d.plan,m.d.mode,m.d.stack,m.d.scan,m.d.start,m.d.at_+1,m.d.field,m.d.wire,m.d.want-1,m.d.utf,m.d.end_⟩:Dcd),m.out⟩:Mac) _ (Q33) Q7 Q2),?_⟩
 refine have hm1:Et m b=(Fr (⟨(⟨m.d.plan,m.d.mode,m.d.stack,m.d.scan,m.d.start,m.d.at_+1,m.d.field,m.d.wire,m.d.want-1,m.d.utf,m.d.end_⟩:Dcd),m.out⟩:Mac) b):=?_;?_
 rotate_left
 exact⟨rfl,Q5⟩
 refine dsp (fun h3 p3=>?_) fun h3 p3=>?_
 refine⟨(Ac Q2 Q2),h2,h3,(E3 (⟨(⟨m.d.plan,m.d.mode,m.d.stack,m.d.scan,m.d.start,m.d.at_+1,m.d.field,m.d.wire,m.d.want-1,m.d.utf,m.d.end_⟩:Dcd),m.out⟩:Mac) (Q19) Q7),?_⟩
 refine have hm1:Et m b=(Af (⟨(⟨m.d.plan,m.d.mode,m.d.stack,m.d.scan,m.d.start,m.d.at_+1,m.d.field,m.d.wire,m.d.want-1,m.d.utf,m.d.end_⟩:Dcd),m.out⟩:Mac)):=?_;?_
 rotate_left
 exact⟨rfl,Q5⟩
 refine dsp (fun h4 p4=>?_) fun h4 p4=>?_
 refine⟨(Ac Q2 Q2),h2,h3,(R6 (⟨m.d.plan,m.d.mode,m.d.stack,m.d.scan,m.d.start,m.d.at_+1,m.d.field,m.d.wire,m.d.want-1,m.d.utf,m.d.end_⟩:Dcd)),dsp (fun h5 p5=>?_) fun h5 p5=>?_⟩
 refine⟨(T5 (⟨(⟨m.d.plan,m.d.mode,m.d.stack,m.d.scan,m.d.start,m.d.at_+1,m.d.field,m.d.wire,m.d.want-1,m.d.utf,m.d.end_⟩:Dcd),m.out⟩:Mac) _ (Q33) Q7 Q2),?_⟩
 refine have hm1:Et m b=(D0 (⟨(⟨m.d.plan,m.d.mode,m.d.stack,m.d.scan,m.d.start,m.d.at_+1,m.d.field,m.d.wire,m.d.want-1,m.d.utf,m.d.end_⟩:Dcd),m.out⟩:Mac) b):=?_;?_
 rotate_left
 exact⟨rfl,Q5⟩
 refine⟨(T4 (⟨(⟨m.d.plan,m.d.mode,m.d.stack,m.d.scan,m.d.start,m.d.at_+1,m.d.field,m.d.wire,m.d.want-1,m.d.utf,m.d.end_⟩:Dcd),m.out⟩:Mac) _ (Q33) Q7 Q2),?_⟩
 refine have hm1:Et m b=(B0 (⟨(⟨m.d.plan,m.d.mode,m.d.stack,m.d.scan,m.d.start,m.d.at_+1,m.d.field,m.d.wire,m.d.want-1,m.d.utf,m.d.end_⟩:Dcd),m.out⟩:Mac) b ((m.d.at_+1)-1)):=?_;?_
 rotate_left
 exact⟨rfl,Q5⟩
 refine⟨h2,h3,(R6 (⟨m.d.plan,m.d.mode,m.d.stack,m.d.scan,m.d.start,m.d.at_+1,m.d.field,m.d.wire,m.d.want,m.d.utf,m.d.end_⟩:Dcd)),dsp (fun h5 p5=>?_) fun h5 p5=>?_⟩
 refine⟨(T5 (⟨(⟨m.d.plan,m.d.mode,m.d.stack,m.d.scan,m.d.start,m.d.at_+1,m.d.field,m.d.wire,m.d.want,m.d.utf,m.d.end_⟩:Dcd),m.out⟩:Mac) _ (Q54) Q7 Q2),?_⟩
 refine have hm1:Et m b=(D0 (⟨(⟨m.d.plan,m.d.mode,m.d.stack,m.d.scan,m.d.start,m.d.at_+1,m.d.field,m.d.wire,m.d.want,m.d.utf,m.d.end_⟩:Dcd),m.out⟩:Mac) b):=?_;?_
 rotate_left
 exact⟨rfl,Q5⟩
 refine⟨(T4 (⟨(⟨m.d.plan,m.d.mode,m.d.stack,m.d.scan,m.d.start,m.d.at_+1,m.d.field,m.d.wire,m.d.want,m.d.utf,m.d.end_⟩:Dcd),m.out⟩:Mac) _ (Q54) Q7 Q2),?_⟩
 refine have hm1:Et m b=(B0 (⟨(⟨m.d.plan,m.d.mode,m.d.stack,m.d.scan,m.d.start,m.d.at_+1,m.d.field,m.d.wire,m.d.want,m.d.utf,m.d.end_⟩:Dcd),m.out⟩:Mac) b ((m.d.at_+1)-1)):=?_;?_
 rotate_left
 exact⟨rfl,Q5⟩
 all_goals first|(simp_all[Et,Ek];done)|((have hw0:B1 m.d=0:=(by omega);simp_all[Et,Ek];done))|(grind[Et,Ek])
theorem Ai0 (d:Dcd):Fun Tryz.prog 55 [.agg (Cd d)] [] (.v (vB (Eg d))) []:=by
 have hN:Be=274877906944:=rfl
 refine Ar Tryz.func55 Q4 Q4 (w:=(.br (.leaf () []) (.leaf () []),((!decide (d.mode=9))=true→(.v (vB (decide (d.at_<1000000000))):S)= .v (vB (Eg d))∧([]:List Blk)=[])∧((!decide (d.mode=9))=false→(.v (vB false):S)= .v (vB (Eg d))∧([]:List Blk)=[]))) Q4 ?_
 refine⟨fun h1=>have q1:=Ap h1;have p1:=of_decide_eq_false q1;?_,fun h1=>have q1:=Ao h1;have p1:=of_decide_eq_true q1;?_⟩
 refine⟨(sB ?_),rfl⟩
 rotate_left
 refine⟨(sB ?_),rfl⟩
 rotate_left
 all_goals first|(simp[Eg, *];done)|(simp_all[Eg];done)|(grind[Eg])
structure Com (d:Dcd):Prop where
 lv:Bn d=true
 at_:0≤d.at_∧d.at_≤1000000000
 st:0≤d.start∧d.start≤d.at_
 ut:Fe d.utf=true
 wi:C7 d.wire=true
 fl:d.field=fld0∨known d.plan.shapes d.field=true
 en:d.end_=ev0
theorem Jr {d:Dcd} (lv:Bn d=true) (hm:1≤d.mode∧d.mode≤9) (at_:0≤d.at_∧d.at_≤1000000000) (st:0≤d.start∧d.start≤d.at_) (ut:Fe d.utf=true) (wi:C7 d.wire=true) (fl:d.field=fld0∨known d.plan.shapes d.field=true)
  (h8:Aan d=true) (h9:Lr d=true) (h10:Kb d=true) (h11:Kc d=true) (h12:Lq d=true):Dr d=true:=by
 simp only[Dr,Bool.and_eq_true,Bool.or_eq_true,decide_eq_true_eq]
 refine⟨⟨⟨⟨⟨⟨⟨⟨⟨⟨⟨lv,?_⟩,?_⟩,?_⟩,ut⟩,wi⟩,fl⟩,h8⟩,h9⟩,h10⟩,h11⟩,h12⟩<;>simp only[Aq,Bool.and_eq_true,decide_eq_true_eq]<;>assumption
theorem Anh {d:Dcd} {c a:Int} (lv:Bn d=true) (at_:0≤d.at_∧d.at_≤1000000000) (st:0≤d.start∧d.start≤d.at_) (ut:Fe d.utf=true) (wi:C7 d.wire=true) (fl:d.field=fld0∨known d.plan.shapes d.field=true) (hc:1≤c) (ha:0≤a):Dr (A8 d c a)=true:=by
 have hs:(⟨0,0⟩:Scn)=scn0:=rfl
 refine Jr (Cj lv rfl rfl) (show (1:Int)≤9∧(9:Int)≤9 by decide) at_ st ut wi fl ?_ ?_ ?_ ?_ ?_
 ·simp[Aan,A8,Kj,Pq,Aq,Vv,E8,Aw,F1,F3,hc,ha]
 ·simp[Lr,A8]
 ·simp[Kb,A8]
 ·simp[Kc,A8]
 ·simp[Lq,A8,B1,hs]
theorem Com.fail {d:Dcd} (h:Com d) {c a:Int} (hc:1≤c) (ha:0≤a):Dr (A8 d c a)=true:=Anh h.lv h.at_ h.st h.ut h.wi h.fl hc ha
theorem Aez {m:Mac} (h:m.d.mode=9∨m.d.mode=1):A9 m=none:=by
 unfold A9
 rw[if_neg (by omega),if_neg (by omega),if_neg (by omega)]
structure Pre (d:Dcd):Prop extends Com d where
 sc:d.scan=scn0
 ne:0<d.stack.length
 md:(d.mode=2∧d.want=0)∨(d.mode=6∧Hb d.field.kind=true∧0≤d.want∧d.want≤Ef d)∨(d.mode=7∧0≤d.want∧d.want≤Ef d)∨(d.mode=8∧Ta d.field=true∧0≤d.want∧d.want≤Ef d∧(d.want=0∨Az (Br d.field.kind)≤d.want))
theorem S7:Dx scn0=true:=by simp[Dx,scn0,Aq]
theorem T6 {d e:Dcd} {k:Nat} (h:Bn d=true) (hp:e.plan=d.plan) (hs:e.stack=d.stack.take k):Bn e=true:=by
 have hb:=Cb h
 refine Jk (by rw[hp];exact hb.1) ?_ fun l hl=>?_
 ·rw[hs,hp];have:=hb.2.1;simp only[List.length_take];omega
 ·rw[hp];rw[hs] at hl;exact hb.2.2.2 l (List.mem_of_mem_take hl)
theorem Adr:Fe ⟨0,0,0⟩=true:=by decide
set_option maxHeartbeats 3200000 in
theorem Pre.close {d:Dcd} (h:Pre d) (o:List Ev):(A9 ⟨d,o⟩=none∧Dr d=true)∨∃q,A9 ⟨d,o⟩=some q∧(Pre q.d∨(Dr q.d=true∧A9 q=none)):=by
 have hb:=H9 h.lv
 have hsc:=h.sc
 have hne:=h.ne
 have h0:d.scan.have_=0:=by rw[hsc];rfl
 have hb0:d.scan.bits=0:=by rw[hsc];rfl
 have hend:d.mode≠9→Aan d=true:=fun h9=>by unfold Aan;rw[if_neg h9];exact decide_eq_true h.en
 have hst:d.mode≠1→1≤Ef d→Lr d=true:=fun h1 ht=>by unfold Lr;rw[if_neg h1];split;rfl;exact decide_eq_true ht
 rcases h.md with ⟨hm,hw⟩|⟨hm,hk,hw0,hw1⟩|⟨hm,hw0,hw1⟩|⟨hm,hk,hw0,hw1,hw2⟩
 ·by_cases ht:Ef d=0
  ·right
   by_cases h1:d.stack.length=1
   ·refine⟨_,X0 hm h0 hne ht h1,.inr ⟨?_,Aez (.inr rfl)⟩⟩
    have hn:d.stack.take (d.stack.length-1)=[]:=by rw[h1];rfl
    refine Jr (T6 h.lv rfl rfl) (show (1:Int)≤1∧(1:Int)≤9 by decide) h.at_ h.st h.ut h.wi h.fl ?_ ?_ ?_ ?_ ?_
    ·simp[Aan,h.en]
    ·simp[Lr,hn]
    ·simp[Kb,hw]
    ·simp[Kc]
    ·simp[Lq,B1,hsc,S7]
   ·refine⟨_,X1 hm h0 hne ht h1,.inl ⟨⟨T6 h.lv rfl rfl,h.at_,h.st,h.ut,h.wi,h.fl,h.en⟩,hsc,?_,.inl ⟨hm,hw⟩⟩⟩
    simp only[List.length_take];omega
  ·left
   refine⟨?_,?_⟩
   ·unfold A9;simp only;rw[if_neg (by omega),if_neg (by omega),if_neg (by omega)]
   ·refine Jr h.lv (by omega) h.at_ h.st h.ut h.wi h.fl (hend (by omega)) (hst (by omega) (by omega)) ?_ ?_ ?_
    ·simp[Kb,hm,hw]
    ·simp[Kc,hm]
    ·simp[Lq,B1,hm,hsc,S7]
 ·by_cases hw:d.want<1
  ·right
   by_cases hu:0<d.utf.want
   ·refine⟨A7 ⟨d,o⟩ 5 d.at_,by unfold A9;simp only;rw[if_pos ⟨hm,hw⟩,if_pos hu],.inr ⟨h.toCom.fail (by decide) h.at_.1,Aez (.inl rfl)⟩⟩
   ·refine⟨_,by unfold A9;simp only;rw[if_pos ⟨hm,hw⟩,if_neg hu],.inl ⟨⟨Cj h.lv rfl rfl,h.at_,h.st,Adr,h.wi,h.fl,h.en⟩,hsc,hne,.inl ⟨rfl,rfl⟩⟩⟩
  ·left
   refine⟨?_,?_⟩
   ·unfold A9;simp only;rw[if_neg (by omega),if_neg (by omega),if_neg (by omega)]
   ·refine Jr h.lv (by omega) h.at_ h.st h.ut h.wi h.fl (hend (by omega)) (hst (by omega) (by omega)) ?_ ?_ ?_
    ·simp[Kb,hm,Aq];omega
    ·simp[Kc,hm,hk]
    ·simp[Lq,B1,hm,hsc]
 ·by_cases hw:d.want<1
  ·right
   refine⟨_,by unfold A9;simp only;rw[if_neg (by omega),if_pos ⟨.inl hm,hw⟩],.inl ⟨⟨Cj h.lv rfl rfl,h.at_,h.st,h.ut,h.wi,h.fl,h.en⟩,hsc,hne,.inl ⟨rfl,rfl⟩⟩⟩
  ·left
   refine⟨?_,?_⟩
   ·unfold A9;simp only;rw[if_neg (by omega),if_neg (by omega),if_neg (by omega)]
   ·refine Jr h.lv (by omega) h.at_ h.st h.ut h.wi h.fl (hend (by omega)) (hst (by omega) (by omega)) ?_ ?_ ?_
    ·simp[Kb,hm,Aq];omega
    ·simp[Kc,hm]
    ·simp[Lq,B1,hm,hsc]
 ·by_cases hw:d.want<1
  ·right
   refine⟨_,by unfold A9;simp only;rw[if_neg (by omega),if_pos ⟨.inr ⟨hm,h0⟩,hw⟩],.inl ⟨⟨Cj h.lv rfl rfl,h.at_,h.st,h.ut,h.wi,h.fl,h.en⟩,hsc,hne,.inl ⟨rfl,rfl⟩⟩⟩
  ·left
   refine⟨?_,?_⟩
   ·unfold A9;simp only;rw[if_neg (by omega),if_neg (by omega),if_neg (by omega)]
   ·refine Jr h.lv (by omega) h.at_ h.st h.ut h.wi h.fl (hend (by omega)) (hst (by omega) (by omega)) ?_ ?_ ?_
    ·simp[Kb,hm,Aq];omega
    ·simp[Kc,hm,hk]
    ·have hwd:B1 d=Az (Br d.field.kind):=by unfold B1;rw[if_neg (by omega),if_pos hm]
     have hr:Re d=d.want:=by unfold Re;rw[if_pos hm]
     unfold Lq
     split
     ·rw[h0,hb0,hr]
      simp[Aq]
      omega
     ·rw[if_neg (by omega),hsc];exact S7
theorem Pre.settle: ∀(k:Nat) (m:Mac),wM m≤k→Pre m.d→Dr (Af m).d=true:=by
 intro k
 induction k with
 |zero=>
  intro m hk h
  have:=h.ne
  have:m.d.stack.length≤wM m:=by unfold wM;omega
  omega
 |succ k ih=>
  intro m hk h
  rcases h.close m.out with ⟨h1,h2⟩|⟨q,h1,h2⟩
  ·rw[Cm h1];exact h2
  ·rw[Da h1]
   rcases h2 with h2|⟨h2,h3⟩
   ·exact ih q (by have h3:wM q<wM m:=(Cr h1).1;omega) h2
   ·rw[Cm h3];exact h2
theorem G2 {m:Mac} (h:Pre m.d):Dr (Af m).d=true:=Pre.settle _ m (Nat.le_refl _) h
theorem Amc {d:Dcd} {o:List Ev} {u:Int} (h:Com d) (hw:d.want=0) (hu:0≤u):Dr (Db ⟨d,o⟩ u).d=true:=by
 unfold Db
 simp only
 split
 ·exact h.fail (by decide) h.st.1
 ·exact G2 ⟨⟨Si (u:=u) h.lv rfl rfl hu (by omega),h.at_,h.st,h.ut,h.wi,h.fl,h.en⟩,rfl,Nat.zero_lt_one,.inl ⟨rfl,hw⟩⟩
theorem Amd {d:Dcd} {n:Int} (h:Com d) (hn:d.stack.length≠0):(fieldAt d.plan.shapes (Jj d).msg n).getD fld0=fld0∨known d.plan.shapes ((fieldAt d.plan.shapes (Jj d).msg n).getD fld0)=true:=by
 cases hf:fieldAt d.plan.shapes (Jj d).msg n with
 |none=>exact .inl rfl
 |some f=>
  right
  have hb:=Cb h.lv
  have hl:=hb.2.2.2 _ (Tt hn)
  simp only[F5,Bool.and_eq_true] at hl
  have hl:=Av hl.1
  have hk:=(Uu (By hb.1).2.1 hf).2
  show known d.plan.shapes f=true
  refine Aao (k:=(Jj d).msg.toNat) Q2 ?_
  rw[hk,show (((Jj d).msg.toNat:Nat):Int)=(Jj d).msg by omega];exact hf
theorem Ap4 {d:Dcd} {o:List Ev} {u:Int} (h:Com d) (hw:d.want=0):Dr (Fc ⟨d,o⟩ u).d=true:=by
 unfold Fc
 simp only
 split
 ·exact h.fail (by decide) h.st.1
 ·rename_i h1
  simp only[not_or] at h1
  have hk:=Amd (n:=Ba u) h h1.2
  split
  ·exact h.fail (by decide) h.st.1
  ·rename_i h2
   have h2:C7 (Ag u)=true:=by simpa using h2
   split
   ·exact h.fail (by decide) h.st.1
   ·rename_i h3
    split
    ·exact Anh (d:=⟨d.plan,d.mode,d.stack,⟨0,0⟩,d.start,d.at_,(fieldAt d.plan.shapes (Jj d).msg (Ba u)).getD fld0,Ag u,d.want,d.utf,d.end_⟩) (Cj h.lv rfl rfl) h.at_ h.st h.ut h2 hk (by decide) h.at_.1
    ·rename_i h4
     have hfit:(fieldAt d.plan.shapes (Jj d).msg (Ba u)).getD fld0=fld0∨Cq ((fieldAt d.plan.shapes (Jj d).msg (Ba u)).getD fld0) (Ag u)=true:=by
      cases hf:fieldAt d.plan.shapes (Jj d).msg (Ba u) with
      |none=>exact .inl rfl
      |some f=>right;rw[hf] at h3;simpa using h3
     have hwi:Ag u=0∨Ag u=1∨Ag u=2∨Ag u=5:=by
      simp only[C7,Bool.or_eq_true,decide_eq_true_eq] at h2;omega
     have hwb:=D5 (Ag u)
     have htop: ∀e:Dcd,e.stack=d.stack→Ef e=Ef d:=fun e he=>by unfold Ef;rw[he]
     generalize (fieldAt d.plan.shapes (Jj d).msg (Ba u)).getD fld0=f at *
     generalize Ag u=w at *
     refine Jr (Cj h.lv rfl rfl) ?_ h.at_ h.st h.ut h2 hk ?_ ?_ ?_ ?_ ?_
     ·show 1≤(if w=0 then (3:Int) else if w=2 then 4 else 5)∧(if w=0 then (3:Int) else if w=2 then 4 else 5)≤9
      split<;>(try split)<;>omega
     ·rcases hwi with rfl|rfl|rfl|rfl<;>simp[Aan,h.en]
     ·have:=htop ⟨d.plan,if w=0 then 3 else if w=2 then 4 else 5,d.stack,⟨0,0⟩,d.start,d.at_,f,w,d.want,d.utf,d.end_⟩ rfl
      rcases hwi with rfl|rfl|rfl|rfl<;>simp[Lr] at this ⊢ <;>rw[this]<;>omega
     ·rcases hwi with rfl|rfl|rfl|rfl<;>simp[Kb,hw]
     ·rcases hwi with rfl|rfl|rfl|rfl<;>simp[Kc,Anb,Az]<;>exact hfit
     ·have:=htop ⟨d.plan,if w=0 then 3 else if w=2 then 4 else 5,d.stack,⟨0,0⟩,d.start,d.at_,f,w,d.want,d.utf,d.end_⟩ rfl
      rcases hwi with rfl|rfl|rfl|rfl<;>simp[Lq,B1,Az,Re,Aq,Dx] at this h4 ⊢ <;>rw[this]<;>omega
theorem Aon {f:Fld} (h:f=fld0∨Cq f 2=true) (h0:f≠fld0) (h8:f.kind≠8) (hb:Hb f.kind=false):Ta f=true:=by
 rcases h with h|h
 ·exact absurd h h0
 ·simp only[Cq,Bool.or_eq_true,Bool.and_eq_true,decide_eq_true_eq] at h
  rcases h with h|h
  ·exfalso
   simp only[Hb,Bool.or_eq_false_iff,decide_eq_false_iff_not] at hb
   unfold Br Fd at h
   split at h
   ·rename_i hk
    have hk:=Av hk
    repeat' split at h
    all_goals omega
   ·omega
  ·exact h.2
theorem Aoo {d:Dcd} {o:List Ev} {u:Int} (h:Com d) (hw:d.want=0) (hu:0≤u) (hf:d.field=fld0∨Cq d.field 2=true):Dr (Cv ⟨d,o⟩ u).d=true:=by
 unfold Cv
 simp only
 split
 ·exact h.fail (by decide) h.st.1
 ·rename_i h1
  simp only[not_or] at h1
  have hn:0<d.stack.length:=by omega
  split
  ·exact G2 ⟨⟨Cj h.lv rfl rfl,h.at_,h.st,h.ut,h.wi,h.fl,h.en⟩,rfl,hn,.inr (.inr (.inl ⟨rfl,hu,by show u≤Ef d;omega⟩))⟩
  ·rename_i h0
   split
   ·rename_i h8
    split
    ·exact h.fail (by decide) h.st.1
    ·rename_i hd
     have hk:=h.fl.resolve_left h0
     exact G2 ⟨⟨Tu (u:=u) h.lv hk h8 h1.1 Q2 hu Q2 rfl rfl,h.at_,h.st,h.ut,h.wi,h.fl,h.en⟩,rfl,by simp,.inl ⟨rfl,rfl⟩⟩
   ·rename_i h8
    split
    ·rename_i hb
     exact G2 ⟨⟨Cj h.lv rfl rfl,h.at_,h.st,Adr,h.wi,h.fl,h.en⟩,rfl,hn,.inr (.inl ⟨rfl,hb,hu,by show u≤Ef d;omega⟩)⟩
    ·rename_i hb
     split
     ·exact h.fail (by decide) h.at_.1
     ·rename_i hx
      exact G2 ⟨⟨Cj h.lv rfl rfl,h.at_,h.st,h.ut,h.wi,h.fl,h.en⟩,rfl,hn,.inr (.inr (.inr ⟨rfl,Aon hf h0 h8 (by simpa using hb),hu,by show u≤Ef d;omega,by show u=0∨Az (Br d.field.kind)≤u;omega⟩))⟩
theorem Com.start {d:Dcd} (h:Com d) {a:Int} (ha:0≤a∧a≤d.at_):Com (Nb d a):=by
 refine⟨Cj h.lv rfl rfl,h.at_,?_,h.ut,h.wi,h.fl,h.en⟩
 show 0≤(if d.scan.have_=0∧(d.mode=1∨d.mode=2∨d.mode=4) then a else d.start)∧(if d.scan.have_=0∧(d.mode=1∨d.mode=2∨d.mode=4) then a else d.start)≤d.at_
 split
 ·exact ha
 ·exact h.st
theorem Com.scan {d:Dcd} (h:Com d) (s:Scn):Com (Kd d s):=⟨Cj h.lv rfl rfl,h.at_,h.st,h.ut,h.wi,h.fl,h.en⟩
theorem Ai1 {s:Scn} {b:Int} (h0:0≤s.bits) (h:(Aj s b).2=0):Dx (Aj s b).1=true:=by
 unfold Aj at h ⊢
 split at h
 ·simp at h
 ·rename_i hc
  rw[if_neg hc]
  simp only[not_or] at hc
  have hs:Dx s=true:=by simpa using hc.1
  have hb:=Av (show Aq b 0 255=true by simpa using hc.2.1)
  have hk:=Wf hs h0
  have hb2: ¬b<128:=fun hx=>by rw[if_pos hx] at h;simp at h
  have h9:s.have_≠9:=fun e=>hc.2.2 ⟨e,by omega⟩
  obtain ⟨u,hv⟩:=s
  simp only at h0 hk h9 ⊢
  obtain ⟨k,rfl⟩:=Int.eq_ofNat_of_zero_le hk.1
  have hk9:k<9:=by omega
  have hu:=hk.2.2
  rw[Int.toNat_natCast] at hu ⊢
  have hp:(0:Int)<2 ^ (7*(k+1)):=Int.pow_pos (by decide)
  have hp2:(2:Int) ^ (7*(k+1))=2 ^ (7*k)*128:=by rw[show 7*(k+1)=7*k+7 by omega,Int.pow_add];rfl
  have hp0:(0:Int)<2 ^ (7*k):=Int.pow_pos (by decide)
  have hm:b % 128*2 ^ (7*k)≤127*2 ^ (7*k):=Int.mul_le_mul_of_nonneg_right (by omega) (by omega)
  have hm0:0≤b % 128*2 ^ (7*k):=Int.mul_nonneg (by omega) (by omega)
  simp only[Dx,Aq,Bool.and_eq_true,decide_eq_true_eq]
  refine⟨⟨by omega,by omega⟩,?_⟩
  rw[show min (Int.toNat (7*((k:Int)+1))) 64=7*(k+1) by omega,Int.fdiv_eq_ediv_of_nonneg _ (Int.le_of_lt hp)]
  exact Int.ediv_eq_zero_of_lt Q2 Q2
theorem Ap5 {d:Dcd} {o:List Ev} {b a:Int} (h:Com d) (hb:0≤d.scan.bits∧d.scan.bits≤18446744073709551615) (ha:0≤a∧a≤d.at_) (h1:d.mode=1→d.stack=[]) (hn:d.mode≠1→0<d.stack.length) (hk:Kc d=true)
  (hm:((d.mode=1∨d.mode=2∨d.mode=3∨d.mode=4)∧d.want=0)∨(d.mode=8∧Az (Br d.field.kind)=0∧0≤d.want∧d.want≤Ef d)):Dr (B0 ⟨d,o⟩ b a).d=true:=by
 have hcs:=h.start ha
 have hbt:=H9 h.lv
 have hbb:=U2 (b:=b) hb.1 hb.2
 unfold B0
 simp only
 split
 ·exact hcs.fail (by decide) ha.1
 ·split
  ·rename_i hc
   have hsn:=Ai1 hb.1 hc
   unfold Aar
   simp only
   split
   ·exact(hcs.scan _).fail (by decide) h.at_.1
   ·rename_i hx
    simp only[not_or,not_and] at hx
    have hcc:=hcs.scan (Aj d.scan b).1
    refine Jr hcc.lv (show 1≤d.mode∧d.mode≤9 by omega) hcc.at_ hcc.st hcc.ut hcc.wi hcc.fl ?_ ?_ ?_ hk ?_
    ·show (if d.mode=9 then _ else _)=true
     rw[if_neg (by omega)];exact decide_eq_true h.en
    ·show (if d.mode=1 then decide (d.stack=[]) else if d.mode=9 then true else decide (1≤Ef d))=true
     split
     ·rename_i hm1;exact decide_eq_true (h1 hm1)
     ·rename_i hm1
      rw[if_neg (by omega)];exact decide_eq_true (by have:=hx.1 hm1;omega)
    ·show (if d.mode=6∨d.mode=7∨d.mode=8 then Aq d.want 1 (Ef d) else decide (d.want=0))=true
     split
     ·have:=hx.2 (by omega)
      simp only[Aq,Bool.and_eq_true,decide_eq_true_eq];omega
     ·exact decide_eq_true (by omega)
    ·have hw:B1 (Kd (Nb d a) (Aj d.scan b).1)=0:=by
      show (if d.mode=5 then Az d.wire else if d.mode=8 then Az (Br d.field.kind) else 0)=0
      rw[if_neg (by omega)]
      split<;>omega
     unfold Lq
     rw[hw,if_neg (by decide)]
     show (if d.mode=6∨d.mode=7∨d.mode=9 then decide ((Aj d.scan b).1=scn0) else Dx (Aj d.scan b).1)=true
     rw[if_neg (by omega)]
     exact hsn
  ·split
   ·rename_i hm1
    exact Amc (hcs.scan _) (show d.want=0 by omega) hbb.1
   ·split
    ·rename_i hm1
     exact Ap4 (hcs.scan _) (show d.want=0 by omega)
    ·split
     ·rename_i hm1
      refine Aoo (hcs.scan _) (show d.want=0 by omega) hbb.1 ?_
      unfold Kc at hk
      rw[if_neg (by omega),if_neg (by omega),if_neg (by omega),if_pos hm1] at hk
      simp only[Bool.and_eq_true,decide_eq_true_eq,Anb,Bool.or_eq_true] at hk
      rw[hk.1] at hk
      exact hk.2
     ·rename_i hc1 hc2 hc3 hc4 hc5
      have hcc:=hcs.scan scn0
      refine G2 ⟨⟨Cj hcc.lv rfl rfl,hcc.at_,hcc.st,hcc.ut,hcc.wi,hcc.fl,hcc.en⟩,rfl,hn hc3,?_⟩
      rcases hm with hm|hm
      ·exact .inl ⟨by show (if d.mode=8 then (8:Int) else 2)=2;rw[if_neg (by omega)],hm.2⟩
      ·refine .inr (.inr (.inr ⟨by show (if d.mode=8 then (8:Int) else 2)=8;rw[if_pos hm.1],?_,hm.2.2.1,hm.2.2.2,?_⟩))
       ·unfold Kc at hk
        rw[if_neg (by omega),if_pos hm.1] at hk
        exact hk
       ·right;show Az (Br d.field.kind)≤d.want;omega
theorem Ame {s:Scn} {b w:Int} (h:0≤s.have_∧s.have_+1<w) (hw:w≤8) (hf:Int.fdiv s.bits (2 ^ min (Int.toNat (8*s.have_)) 64)=0) (hb:0≤b∧b≤255):(B6 s b).have_=s.have_+1∧Int.fdiv (B6 s b).bits (2 ^ min (Int.toNat (8*(s.have_+1))) 64)=0:=by
 obtain ⟨u,hv⟩:=s
 simp only at h hf
 unfold B6
 rw[if_pos ⟨by simp only[Aq,Bool.and_eq_true,decide_eq_true_eq];omega,by simp only[Aq,Bool.and_eq_true,decide_eq_true_eq];omega⟩]
 refine⟨rfl,?_⟩
 simp only
 obtain ⟨k,rfl⟩:=Int.eq_ofNat_of_zero_le h.1
 have hk:k<7:=by omega
 rw[show min (Int.toNat (8*(k:Int))) 64=8*k by omega] at hf ⊢
 rw[show min (Int.toNat (8*((k:Int)+1))) 64=8*(k+1) by omega]
 have hp0:(0:Int)<2 ^ (8*k):=Int.pow_pos (by decide)
 have hp:(0:Int)<2 ^ (8*(k+1)):=Int.pow_pos (by decide)
 have hp2:(2:Int) ^ (8*(k+1))=2 ^ (8*k)*256:=by rw[show 8*(k+1)=8*k+8 by omega,Int.pow_add];rfl
 have hp3:(2:Int) ^ (8*(k+1))≤2 ^ 56:=by
  rcases (show k=0∨k=1∨k=2∨k=3∨k=4∨k=5∨k=6 by omega) with rfl|rfl|rfl|rfl|rfl|rfl|rfl<;>decide
 have hp56:(2:Int) ^ 56=72057594037927936:=rfl
 rw[Int.fdiv_eq_ediv_of_nonneg _ (Int.le_of_lt hp0)] at hf
 have hd:=Int.mul_ediv_add_emod u (2 ^ (8*k))
 rw[hf,Int.mul_zero,Int.zero_add] at hd
 have hu0:=Int.emod_nonneg u (show (2:Int) ^ (8*k)≠0 by omega)
 have hu1:=Int.emod_lt_of_pos u hp0
 have hm:b*2 ^ (8*k)≤255*2 ^ (8*k):=Int.mul_le_mul_of_nonneg_right (by omega) (by omega)
 have hm0:0≤b*2 ^ (8*k):=Int.mul_nonneg (by omega) (by omega)
 rw[Int.fdiv_eq_ediv_of_nonneg _ (Int.le_of_lt hp),IntKind.wrap_u64,IntKind.wrap_u64]
 have e1:b*2 ^ (8*k) % 18446744073709551616=b*2 ^ (8*k):=Int.emod_eq_of_lt hm0 (by omega)
 rw[e1,Int.emod_eq_of_lt (by omega) (by omega)]
 exact Int.ediv_eq_zero_of_lt Q2 Q2
theorem Ap6 {d:Dcd} {o:List Ev} {b:Int} (h:Com d) (hn:0<d.stack.length) (hk:Kc d=true) (hb:0≤b∧b≤255) (h0:0≤d.scan.have_∧d.scan.have_≤B1 d-1) (hf:Int.fdiv d.scan.bits (2 ^ min (Int.toNat (8*d.scan.have_)) 64)=0) (hr:B1 d-d.scan.have_-1≤Re d)
  (hm:(d.mode=5∧d.want=0)∨(d.mode=8∧0≤d.want∧d.want≤Ef d)):Dr (D0 ⟨d,o⟩ b).d=true:=by
 have hbt:=H9 h.lv
 have hwb:0≤B1 d∧B1 d≤8:=by
  have h1:=D5 d.wire
  have h2:=D5 (Br d.field.kind)
  unfold B1
  split
  ·omega
  ·split<;>omega
 have hro:Re d=if d.mode=8 then d.want else Ef d:=rfl
 unfold D0
 simp only
 split
 ·rename_i hx
  have h1:d.scan.have_+1<B1 d:=by
   unfold B6 at hx
   rw[if_pos ⟨by simp only[Aq,Bool.and_eq_true,decide_eq_true_eq];omega,by simp only[Aq,Bool.and_eq_true,decide_eq_true_eq];omega⟩] at hx
   exact hx
  have hfn:=Ame ⟨h0.1,h1⟩ hwb.2 hf hb
  have hcc:=h.scan (B6 d.scan b)
  refine Jr hcc.lv (show 1≤d.mode∧d.mode≤9 by omega) hcc.at_ hcc.st hcc.ut hcc.wi hcc.fl ?_ ?_ ?_ hk ?_
  ·show (if d.mode=9 then _ else _)=true
   rw[if_neg (by omega)];exact decide_eq_true h.en
  ·show (if d.mode=1 then decide (d.stack=[]) else if d.mode=9 then true else decide (1≤Ef d))=true
   rw[if_neg (by omega),if_neg (by omega)]
   refine decide_eq_true ?_
   split at hro<;>omega
  ·show (if d.mode=6∨d.mode=7∨d.mode=8 then Aq d.want 1 (Ef d) else decide (d.want=0))=true
   split
   ·rw[if_pos (by omega)] at hro
    simp only[Aq,Bool.and_eq_true,decide_eq_true_eq];omega
   ·exact decide_eq_true (by omega)
  ·have hw:B1 (Kd d (B6 d.scan b))=B1 d:=rfl
   have hrr:Re (Kd d (B6 d.scan b))=Re d:=rfl
   have hss:(Kd d (B6 d.scan b)).scan=B6 d.scan b:=rfl
   unfold Lq
   rw[hw,if_pos (by omega),hrr,hss,hfn.1]
   simp only[Aq,Bool.and_eq_true,decide_eq_true_eq]
   exact⟨⟨⟨by omega,by omega⟩,hfn.2⟩,by omega⟩
 ·have hcc:=h.scan scn0
  have hcv:Com (Bz ⟨Kd d scn0,o⟩ (B6 d.scan b).bits).d:=⟨Cj hcc.lv rfl rfl,hcc.at_,hcc.st,hcc.ut,hcc.wi,hcc.fl,hcc.en⟩
  split
  ·exact hcv.fail (by decide) h.at_.1
  ·rename_i hx
   refine G2 ⟨hcv,rfl,hn,?_⟩
   rcases hm with hm|hm
   ·exact .inl ⟨by show (if d.mode=8 then (8:Int) else 2)=2;rw[if_neg (by omega)],hm.2⟩
   ·have hw:B1 d=Az (Br d.field.kind):=by unfold B1;rw[if_neg (by omega),if_pos hm.1]
    refine .inr (.inr (.inr ⟨by show (if d.mode=8 then (8:Int) else 2)=8;rw[if_pos hm.1],?_,hm.2.1,hm.2.2,?_⟩))
    ·unfold Kc at hk
     rw[if_neg (by omega),if_pos hm.1] at hk
     exact hk
    ·show d.want=0∨Az (Br d.field.kind)≤d.want
     omega
theorem Aop {d:Dcd} {o:List Ev} {b:Int} (h:Com d) (h1:1≤d.at_) (hm:d.mode=6) (hk:Hb d.field.kind=true) (hw:0≤d.want∧d.want≤Ef d) (hn:0<d.stack.length) (hs:d.scan=scn0):Dr (Fr ⟨d,o⟩ b).d=true:=by
 unfold Fr
 simp only
 split
 ·split
  ·exact h.fail (by decide) (by omega)
  ·rename_i u hu
   exact G2 ⟨⟨Cj h.lv rfl rfl,h.at_,h.st,Zg hu,h.wi,h.fl,h.en⟩,hs,hn,.inr (.inl ⟨hm,hk,hw.1,hw.2⟩)⟩
 ·exact G2 ⟨h,hs,hn,.inr (.inl ⟨hm,hk,hw.1,hw.2⟩)⟩
theorem Ani {u:Int} {k:Nat} (hk:k≤64) (h:Int.fdiv u (2 ^ k)=0):0≤u∧u≤18446744073709551615:=by
 have hp0:(0:Int)<2 ^ k:=Int.pow_pos (by decide)
 rw[Int.fdiv_eq_ediv_of_nonneg _ (Int.le_of_lt hp0)] at h
 have hd:=Int.mul_ediv_add_emod u (2 ^ k)
 rw[h,Int.mul_zero,Int.zero_add] at hd
 have hu0:=Int.emod_nonneg u (show (2:Int) ^ k≠0 by omega)
 have hu1:=Int.emod_lt_of_pos u hp0
 have hp:(2:Nat) ^ k≤2 ^ 64:=Nat.pow_le_pow_right (by decide) hk
 have hc:((2 ^ k:Nat):Int)=(2:Int) ^ k:=by simp
 have h64:(2:Nat) ^ 64=18446744073709551616:=rfl
 omega
theorem R7 {d:Dcd} (h:Dr d=true):0≤d.scan.bits∧d.scan.bits≤18446744073709551615:=by
 have hs:=(S6 h).2.2.2.2.2.2.2.2.2.2.2
 unfold Lq at hs
 split at hs
 ·simp only[Bool.and_eq_true,decide_eq_true_eq] at hs
  exact Ani (Nat.min_le_right _ _) hs.1.2
 ·split at hs
  ·have e:d.scan=scn0:=of_decide_eq_true hs
   rw[e];decide
  ·simp only[Dx,Bool.and_eq_true,decide_eq_true_eq] at hs
   exact Ani (Nat.min_le_right _ _) hs.2
theorem Ai2 {d:Dcd} (h:d.stack.length≠0):Ef (Ek d)=Ef d-1:=by
 show (List.getD (Ek d).stack ((Ek d).stack.length-1) Aq3).left=_
 rw[Ls]
 unfold Ek
 simp only
 rw[if_neg h,List.getD_eq_getElem?_getD,List.getElem?_set_self (by omega)]
 rfl
end Go.Proofs.YtcmnedgnppnhoaaGreat.Ax
