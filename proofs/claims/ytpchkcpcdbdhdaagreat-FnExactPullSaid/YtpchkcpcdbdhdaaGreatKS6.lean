/- The machine: lengths, numbers, texts. The machine: bytes of numbers. The machine: bytes. The machine: a byte. A byte: the program. Whole inputs: the program. -/
import Derived.Test.YtpchkcpcdbdhdaaGreatKS5
import Derived.Test.YtpchkcpcdbdhdaaGreatKS3
import Derived.Test.YtpchkcpcdbdhdaaGreatKS4
set_option linter.unusedSimpArgs false
set_option linter.unusedVariables false
namespace Go.Proofs.YtpchkcpcdbdhdaaGreat.Ax
open Go.RowKit
theorem Ag5 (m:Mac) (u:Int) (hp1:A5 (m).d=true) (hp2:List.length (m).out≤100000000) (hp3:(0:Int)≤u∧u≤18446744073709551615) (hp4:((m).d.field=fld0∨H4 (m).d.plan.shapes (m).d.field=true)):Fun Tryz.prog 231 [vP 0,.c (.int .u64 u)] [.cells (Ab 1 2 3 m),.tree m.d.plan.shapes,.lst .lev m.d.stack,.lst .ev m.out] (.tup []) [.cells (Ab 4 5 6 (Cb m u)),.dead,.dead,.dead,.tree (Cb m u).d.plan.shapes,.lst .lev (Cb m u).d.stack,.lst .ev (Cb m u).out]:=by
 have hN:bigN=274877906944:=rfl
 have hlv:=Bs hp1
 have hpt:=By hlv.1
 have htb:=Gm hp1
 have hwm:=Acc m
 have hwb:=Gc (Cq m.d.field.kind)
 refine Af Tryz.func231 (by kernel_rfl) (by kernel_rfl) (w:=let zi:Int→C:= .int .i64;let z7:List C:=[.own 1,zi m.d.plan.root,zi m.d.plan.deep,zi m.d.plan.most,zi m.d.mode,.own 2,.int .u64 0,zi 0,zi m.d.start,zi m.d.at_,zi m.d.field.number,zi m.d.field.kind,.bool m.d.field.rep,.bool m.d.field.packed,zi m.d.field.msg,zi m.d.wire,zi u,zi m.d.utf.want,zi m.d.utf.low,zi m.d.utf.high,zi m.d.end_.kind,zi m.d.end_.field,.int .u64 m.d.end_.bits,zi m.d.end_.len,.str m.d.end_.text,zi m.d.end_.code,zi m.d.end_.at_,.own 4];let z8:List C:=[zi m.d.end_.kind,zi m.d.end_.field,.int .u64 m.d.end_.bits,zi m.d.end_.len,.str m.d.end_.text,zi m.d.end_.code,zi m.d.end_.at_,.own 3];let z6:List C:= .own 2:: .int .u64 0::zi 0::zi m.d.start::zi m.d.at_::zi m.d.field.number::zi m.d.field.kind:: .bool m.d.field.rep:: .bool m.d.field.packed::zi m.d.field.msg::zi m.d.wire::zi u::zi m.d.utf.want::zi m.d.utf.low::zi m.d.utf.high::z8;let z9:List C:=[zi m.d.field.number,.int .u64 0,zi u,.str [],zi 0,zi 0];let z16:List Blk:=[.cells (Ab 4 5 6 (Cb m u)),.dead,.dead,.dead,.tree (Cb m u).d.plan.shapes,.lst .lev (Cb m u).d.stack,.lst .ev (Cb m u).out];let z17:=(m.d.stack.length:Int);let z19:List Blk:=[.cells (.own 1::zi m.d.plan.root::zi m.d.plan.deep::zi m.d.plan.most::zi m.d.mode::z6),.tree m.d.plan.shapes,.lst .lev m.d.stack,.lst .ev m.out];let z21:List Blk:=[.cells (.own 1::zi m.d.plan.root::zi m.d.plan.deep::zi m.d.plan.most::zi 8::z6),.tree m.d.plan.shapes,.lst .lev m.d.stack,.lst .ev m.out];let z22:List Blk:=[.cells (.own 1::zi m.d.plan.root::zi m.d.plan.deep::zi m.d.plan.most::zi m.d.mode:: .own 2:: .int .u64 0::zi 0::zi m.d.start::zi m.d.at_::zi m.d.field.number::zi m.d.field.kind:: .bool m.d.field.rep:: .bool m.d.field.packed::zi m.d.field.msg::zi m.d.wire::zi m.d.want::zi m.d.utf.want::zi m.d.utf.low::zi m.d.utf.high::z8),.tree m.d.plan.shapes,.lst .lev m.d.stack,.lst .ev m.out];let z25:=(.v (vI (IntKind.i64.wrap (u))):S)= .v (vI u);let z28:=Cq m.d.field.kind;let z29:=decide (m.d.field.number=0)&&(decide (m.d.field.kind=0)&&(decide (m.d.field.rep=false)&&(decide (m.d.field.packed=false)&&decide (m.d.field.msg=0))));let z30:=(⟨6,m.d.field.number,0,u,[],0,0⟩:Ev);let z32:=(.tup []:S);let z35:=(⟨3,m.d.field.number,0,u,[],0,0⟩:Ev);let z20:List Blk:=[.cells (.own 1::zi m.d.plan.root::zi m.d.plan.deep::zi m.d.plan.most::zi 6:: .own 2:: .int .u64 0::zi 0::zi m.d.start::zi m.d.at_::zi m.d.field.number::zi m.d.field.kind:: .bool m.d.field.rep:: .bool m.d.field.packed::zi m.d.field.msg::zi m.d.wire::zi u::zi 0::zi 0::zi 0::z8),.tree m.d.plan.shapes,.lst .lev m.d.stack,.lst .ev (m.out++[z35])];let z24:List Blk:=[.cells z7,.tree m.d.plan.shapes,.lst .lev m.d.stack,.dead,.lst .ev (m.out++[z35])];let z37:List Blk:=[.cells z7,.tree m.d.plan.shapes,.lst .lev m.d.stack,.dead,.lst .ev (m.out++[z30])];let z38:=(⟨m.d.field.msg,u⟩:Lev);let z39:=(⟨0,0⟩:Scn);let z11:=Ad (⟨(⟨m.d.plan,6,m.d.stack,z39,m.d.start,m.d.at_,m.d.field,m.d.wire,u,utf0,m.d.end_⟩:Dcd),m.out++[z35]⟩:Mac);let z12:=As (⟨(⟨m.d.plan,m.d.mode,m.d.stack,z39,m.d.start,m.d.at_,m.d.field,m.d.wire,m.d.want,m.d.utf,m.d.end_⟩:Dcd),m.out⟩:Mac) 8 m.d.start;let z13:=As (⟨(⟨m.d.plan,m.d.mode,m.d.stack,z39,m.d.start,m.d.at_,m.d.field,m.d.wire,u,m.d.utf,m.d.end_⟩:Dcd),m.out⟩:Mac) 6 m.d.start;let z14:=(⟨m.d.plan,8,m.d.stack,z39,m.d.start,m.d.at_,m.d.field,m.d.wire,u,m.d.utf,m.d.end_⟩:Dcd);let z15:=Ad (⟨(⟨m.d.plan,7,m.d.stack,z39,m.d.start,m.d.at_,m.d.field,m.d.wire,u,m.d.utf,m.d.end_⟩:Dcd),m.out⟩:Mac);let z18:List Blk:=[.cells (Ab 4 5 6 z11),.dead,.dead,.dead,.tree z11.d.plan.shapes,.lst .lev z11.d.stack,.lst .ev z11.out];let z23:=As (⟨z14,m.out⟩:Mac) 9 m.d.at_;let z26:List Blk:=[.cells (Ab 1 2 4 z12),.tree z12.d.plan.shapes,.lst .lev z12.d.stack,.dead,.lst .ev z12.out];let z27:List Blk:=[.cells (Ab 4 5 6 z15),.dead,.dead,.dead,.tree z15.d.plan.shapes,.lst .lev z15.d.stack,.lst .ev z15.out];let z31:=([.cells (Ab 4 5 6 z12),.dead,.dead,.dead,.tree z12.d.plan.shapes,.lst .lev z12.d.stack,.lst .ev z12.out]:List Blk);let z33:List Blk:=[.cells (Ab 1 2 4 z13),.tree z13.d.plan.shapes,.lst .lev z13.d.stack,.dead,.lst .ev z13.out];let z34:List Blk:=[.cells (Ab 1 2 4 z23),.tree z23.d.plan.shapes,.lst .lev z23.d.stack,.dead,.lst .ev z23.out];let z36:=Ad (⟨z14,m.out⟩:Mac);let z10:List Blk:=[.cells (Ab 4 5 6 z36),.dead,.dead,.dead,.tree z36.d.plan.shapes,.lst .lev z36.d.stack,.lst .ev z36.out];let z40:=(.v (vI (IntKind.i64.wrap (z17-1))):S)= .v (vI (z17-1));let z41:=(0:Int)≤z17-1;let z42:=Aw z28;let z43:=z17-1<z17;(.br (.seg [.call [0,1,2,3] (.tup []) z26,.at 0,.cut 0 0,.cut 0 5] (.leaf () [0,1,2,3,5,6,4])) (.seg [.call [] (.v (vI (Dm m.d))) [],.as 25 (.v (.c (.int .u64 (Dm m.d))))] (.br (.seg [.call [0,1,2,3] (.tup []) z26,.at 0,.cut 0 0,.cut 0 5] (.leaf () [0,1,2,3,5,6,4])) (.seg [.as 42 (.v (vI u))] (.br (.seg [.call [0,1,2,3] (.tup []) z27] (.leaf () [0,1,2,3,5,6,7])) (.br (.seg [.ord (os 13 []) []] (.br (.seg [.call [0,1,2,3] (.tup []) z33,.at 0,.cut 0 0,.cut 0 5] (.leaf () [0,1,2,3,6,7,5])) (.seg [.as 109 (.v (vI u)),.call [0,1,2,3] (.tup []) z37] (.intro (fun (x1:Lev)=>m.d.stack[Int.toNat (z17-1)]? =some x1) fun x1=>let z1:=Ad (⟨(⟨m.d.plan,2,(List.set m.d.stack (Int.toNat (z17-1)) (⟨x1.msg,x1.left-u⟩:Lev))++[z38],z39,m.d.start,m.d.at_,m.d.field,m.d.wire,0,m.d.utf,m.d.end_⟩:Dcd),m.out++[z30]⟩:Mac);.seg [.ord (os 21 [20]) [],.as 123 (.v (vI (z17-1))),.el .lev x1,.as 128 (.v (vI u)),.as 129 (.v (vI (x1.left-u))),.el .lev x1,.ord (os 17 [11,12,16]) [2],.as 141 (.v (vI u)),.ty .lev,.ty .lev,.call [0,1,7,5] (.tup []) [.cells (Ab 4 5 6 z1),.dead,.dead,.dead,.tree z1.d.plan.shapes,.lst .lev z1.d.stack,.lst .ev z1.out]] (.leaf () [0,1,2,3,8,9,10]))))) (.br (.seg [.as 169 (.v (vI u)),.call [0,1,2,3] (.tup []) z24,.call [0,1,2,5] (.tup []) z18] (.leaf () [0,1,2,3,6,7,8])) (.br (.seg [.as 169 (.v (vI u)),.call [0,1,2,3] (.tup []) z24,.call [0,1,2,5] (.tup []) z18] (.leaf () [0,1,2,3,6,7,8])) (.seg [.call [] (.v (vI z28)) [],.call [] (.v (vI z42)) []] (.br (.br (.seg [.as 63 (.v (.c (.int .u64 z42)))] (.br (.seg [.call [0,1,2,3] (.tup []) z34,.at 0,.cut 0 0,.cut 0 5] (.leaf () [0,1,2,3,6,7,5])) (.seg [.call [0,1,2,3] (.tup []) z10] (.leaf () [0,1,2,3,5,6,7])))) (.seg [.call [0,1,2,3] (.tup []) z10] (.leaf () [0,1,2,3,5,6,7]))) (.seg [.call [0,1,2,3] (.tup []) z10] (.leaf () [0,1,2,3,5,6,7]))))))))))),((decide (z17=0))=true→(Fun Tryz.prog 219 [vP 0,vI 8,vI m.d.start] z22 (.tup []) z26)∧z32= .tup []∧z31=z16)∧((decide (z17=0))=false→(Fun Tryz.prog 179 [.agg [.seq .shp m.d.plan.shapes,zi m.d.plan.root,zi m.d.plan.deep,zi m.d.plan.most,zi m.d.mode,.seq .lev m.d.stack,.int .u64 0,zi 0,zi m.d.start,zi m.d.at_,zi m.d.field.number,zi m.d.field.kind,.bool m.d.field.rep,.bool m.d.field.packed,zi m.d.field.msg,zi m.d.wire,zi m.d.want,zi m.d.utf.want,zi m.d.utf.low,zi m.d.utf.high,zi m.d.end_.kind,zi m.d.end_.field,.int .u64 m.d.end_.bits,zi m.d.end_.len,.str m.d.end_.text,zi m.d.end_.code,zi m.d.end_.at_]] [] (.v (vI (Dm m.d))) [])∧((.v (.c (.int .u64 (IntKind.u64.wrap (Dm m.d)))):S)= .v (.c (.int .u64 (Dm m.d))))∧((decide (Dm m.d<u))=true→(Fun Tryz.prog 219 [vP 0,vI 8,vI m.d.start] z22 (.tup []) z26)∧z32= .tup []∧z31=z16)∧((decide (Dm m.d<u))=false→z25∧(z29=true→(Fun Tryz.prog 199 [vP 0] [.cells (.own 1::zi m.d.plan.root::zi m.d.plan.deep::zi m.d.plan.most::zi 7::z6),.tree m.d.plan.shapes,.lst .lev m.d.stack,.lst .ev m.out] (.tup []) z27)∧z32= .tup []∧(z27:List Blk)=z16)∧(z29=false→((decide (m.d.field.kind=8))=true→((decide (m.d.plan.deep≤z17))=true→(Fun Tryz.prog 219 [vP 0,vI 6,vI m.d.start] z19 (.tup []) z33)∧z32= .tup []∧([.cells (Ab 4 5 6 z13),.dead,.dead,.dead,.tree z13.d.plan.shapes,.lst .lev z13.d.stack,.lst .ev z13.out]:List Blk)=z16)∧((decide (m.d.plan.deep≤z17))=false→z25∧(Fun Tryz.prog 218 [vP 0,.agg (zi 6::z9)] z19 (.tup []) z37)∧(∃(x1:Lev),m.d.stack[Int.toNat (z17-1)]? =some x1)∧∀(x1:Lev),(m.d.stack[Int.toNat (z17-1)]? =some x1)→(let z3:=List.set m.d.stack (Int.toNat (z17-1)) (⟨x1.msg,x1.left-u⟩:Lev);let z2:=Ad (⟨(⟨m.d.plan,2,z3++[z38],z39,m.d.start,m.d.at_,m.d.field,m.d.wire,0,m.d.utf,m.d.end_⟩:Dcd),m.out++[z30]⟩:Mac);let z4:=m.d.stack[Int.toNat (z17-1)]? =some x1;let z5:=(.v (vI (IntKind.i64.wrap (x1.left-u))):S)= .v (vI (x1.left-u));z40∧z40∧z43∧z41∧z43∧z41∧z4∧z4∧z25∧z25∧z5∧z5∧z43∧z41∧z43∧z41∧z4∧z25∧z25∧(z3.length+List.length [z38]≤bigN)∧(Fun Tryz.prog 199 [vP 0] [.cells (.own 1::zi m.d.plan.root::zi m.d.plan.deep::zi m.d.plan.most::zi 2:: .own 2:: .int .u64 0::zi 0::zi m.d.start::zi m.d.at_::zi m.d.field.number::zi m.d.field.kind:: .bool m.d.field.rep:: .bool m.d.field.packed::zi m.d.field.msg::zi m.d.wire::zi 0::zi m.d.utf.want::zi m.d.utf.low::zi m.d.utf.high::z8),.tree m.d.plan.shapes,.lst .lev (z3++[z38]),.lst .ev (m.out++[z30])] (.tup []) [.cells (Ab 4 5 6 z2),.dead,.dead,.dead,.tree z2.d.plan.shapes,.lst .lev z2.d.stack,.lst .ev z2.out])∧z32= .tup []∧([.cells (Ab 4 5 6 z2),.dead,.dead,.dead,.tree z2.d.plan.shapes,.lst .lev z2.d.stack,.lst .ev z2.out]:List Blk)=z16)))∧((decide (m.d.field.kind=8))=false→((decide (m.d.field.kind=6))=true→z25∧(Fun Tryz.prog 218 [vP 0,.agg (zi 3::z9)] z19 (.tup []) z24)∧(Fun Tryz.prog 199 [vP 0] z20 (.tup []) z18)∧z32= .tup []∧(z18:List Blk)=z16)∧((decide (m.d.field.kind=6))=false→((decide (m.d.field.kind=7))=true→z25∧(Fun Tryz.prog 218 [vP 0,.agg (zi 3::z9)] z19 (.tup []) z24)∧(Fun Tryz.prog 199 [vP 0] z20 (.tup []) z18)∧z32= .tup []∧(z18:List Blk)=z16)∧((decide (m.d.field.kind=7))=false→(Fun Tryz.prog 225 [vI m.d.field.kind] [] (.v (vI z28)) [])∧(Fun Tryz.prog 215 [vI z28] [] (.v (vI z42)) [])∧((decide (0<Aw z28))=true→((decide (0<u))=true→((.v (.c (.int .u64 (IntKind.u64.wrap z42))):S)= .v (.c (.int .u64 z42)))∧((decide (u<Aw z28))=true→(Fun Tryz.prog 219 [vP 0,vI 9,vI m.d.at_] z21 (.tup []) z34)∧z32= .tup []∧([.cells (Ab 4 5 6 z23),.dead,.dead,.dead,.tree z23.d.plan.shapes,.lst .lev z23.d.stack,.lst .ev z23.out]:List Blk)=z16)∧((decide (u<Aw z28))=false→(Fun Tryz.prog 199 [vP 0] z21 (.tup []) z10)∧z32= .tup []∧(z10:List Blk)=z16))∧((decide (0<u))=false→(Fun Tryz.prog 199 [vP 0] z21 (.tup []) z10)∧z32= .tup []∧(z10:List Blk)=z16))∧((decide (0<Aw z28))=false→(Fun Tryz.prog 199 [vP 0] z21 (.tup []) z10)∧z32= .tup []∧(z10:List Blk)=z16))))))))) (by kernel_rfl) ?_
 refine dsp (fun h1 p1=>?_) fun h1 p1=>?_
 refine⟨(B2 (⟨(⟨m.d.plan,m.d.mode,m.d.stack,(⟨0,0⟩:Scn),m.d.start,m.d.at_,m.d.field,m.d.wire,m.d.want,m.d.utf,m.d.end_⟩:Dcd),m.out⟩:Mac) _ _ (by first|omega|rfl|(dsimp only;omega))),?_⟩
 refine have hm1:Cb m u=(As (⟨(⟨m.d.plan,m.d.mode,m.d.stack,(⟨0,0⟩:Scn),m.d.start,m.d.at_,m.d.field,m.d.wire,m.d.want,m.d.utf,m.d.end_⟩:Dcd),m.out⟩:Mac) 8 m.d.start):=?_;?_
 rotate_left
 exact⟨rfl,(by rw[hm1]<;>rfl)⟩
 refine⟨(Dz (⟨m.d.plan,m.d.mode,m.d.stack,(⟨0,0⟩:Scn),m.d.start,m.d.at_,m.d.field,m.d.wire,m.d.want,m.d.utf,m.d.end_⟩:Dcd) (by first|omega|rfl|(dsimp only;omega))),(Dx (by omega) (by omega)),dsp (fun h2 p2=>?_) fun h2 p2=>?_⟩
 refine⟨(B2 (⟨(⟨m.d.plan,m.d.mode,m.d.stack,(⟨0,0⟩:Scn),m.d.start,m.d.at_,m.d.field,m.d.wire,m.d.want,m.d.utf,m.d.end_⟩:Dcd),m.out⟩:Mac) _ _ (by first|omega|rfl|(dsimp only;omega))),?_⟩
 refine have hm1:Cb m u=(As (⟨(⟨m.d.plan,m.d.mode,m.d.stack,(⟨0,0⟩:Scn),m.d.start,m.d.at_,m.d.field,m.d.wire,m.d.want,m.d.utf,m.d.end_⟩:Dcd),m.out⟩:Mac) 8 m.d.start):=?_;?_
 rotate_left
 exact⟨rfl,(by rw[hm1]<;>rfl)⟩
 refine⟨(Ah (by omega) (by omega)),fun h3=>have p3:=(Co dT (Co dT (Co dT (Co dT dT)))).1 h3;?_,fun h3=>have p3:=(Cp dT (Cp dT (Cp dT (Cp dT dF)))).1 h3;?_⟩
 refine⟨(D3 (⟨(⟨m.d.plan,7,m.d.stack,(⟨0,0⟩:Scn),m.d.start,m.d.at_,m.d.field,m.d.wire,u,m.d.utf,m.d.end_⟩:Dcd),m.out⟩:Mac) ((by first|(exact Ao hp1 rfl rfl)|(exact D2 (u:=u) hp1 (hp4.resolve_left (fun h=>by have:=congrArg Fld.kind h;simp only[fld0] at this;omega)) (by assumption) (by omega) (by omega) (by omega) (by omega) rfl (by rw[hll.1,hll.2,show Int.toNat ((m.d.stack.length:Int)-1)=m.d.stack.length-1 by omega])))) (by first|omega|rfl|(dsimp only;omega))),?_⟩
 refine have hm1:Cb m u=(Ad (⟨(⟨m.d.plan,7,m.d.stack,(⟨0,0⟩:Scn),m.d.start,m.d.at_,m.d.field,m.d.wire,u,m.d.utf,m.d.end_⟩:Dcd),m.out⟩:Mac)):=?_;?_
 rotate_left
 exact⟨rfl,(by rw[hm1]<;>rfl)⟩
 refine dsp (fun h4 p4=>?_) fun h4 p4=>?_
 refine dsp (fun h5 p5=>?_) fun h5 p5=>?_
 refine⟨(B2 (⟨(⟨m.d.plan,m.d.mode,m.d.stack,(⟨0,0⟩:Scn),m.d.start,m.d.at_,m.d.field,m.d.wire,u,m.d.utf,m.d.end_⟩:Dcd),m.out⟩:Mac) _ _ (by first|omega|rfl|(dsimp only;omega))),?_⟩
 refine have hm1:Cb m u=(As (⟨(⟨m.d.plan,m.d.mode,m.d.stack,(⟨0,0⟩:Scn),m.d.start,m.d.at_,m.d.field,m.d.wire,u,m.d.utf,m.d.end_⟩:Dcd),m.out⟩:Mac) 6 m.d.start):=?_;?_
 rotate_left
 exact⟨rfl,(by rw[hm1]<;>rfl)⟩
 refine⟨(Ah (by omega) (by omega)),(E9 (⟨(⟨m.d.plan,m.d.mode,m.d.stack,(⟨0,0⟩:Scn),m.d.start,m.d.at_,m.d.field,m.d.wire,u,m.d.utf,m.d.end_⟩:Dcd),m.out⟩:Mac) (⟨6,m.d.field.number,0,u,[],0,0⟩:Ev) (by first|omega|rfl|(dsimp only;omega))),(Bo (l:=m.d.stack) (i:=Int.toNat ((m.d.stack.length:Int)-1)) (by omega)),fun x1 hx1=>?_⟩
 have hll:=Jb (d:=m.d) (by rw[←hx1];congr 1;omega)
 have hix:Int.toNat ((m.d.stack.length:Int)-1)=m.d.stack.length-1:=by omega
 refine⟨(Ah (by omega) (by omega)),(Ah (by omega) (by omega)),(by omega),(by omega),(by omega),(by omega),hx1,hx1,(Ah (by omega) (by omega)),(Ah (by omega) (by omega)),(Ah (by omega) (by omega)),(Ah (by omega) (by omega)),(by omega),(by omega),(by omega),(by omega),hx1,(Ah (by omega) (by omega)),(Ah (by omega) (by omega)),(by simp only[List.length_set,List.length_cons,List.length_nil];omega),(D3 (⟨(⟨m.d.plan,2,(List.set m.d.stack (Int.toNat ((m.d.stack.length:Int)-1)) (⟨x1.msg,x1.left-u⟩:Lev))++[(⟨m.d.field.msg,u⟩:Lev)],(⟨0,0⟩:Scn),m.d.start,m.d.at_,m.d.field,m.d.wire,0,m.d.utf,m.d.end_⟩:Dcd),m.out++[(⟨6,m.d.field.number,0,u,[],0,0⟩:Ev)]⟩:Mac) ((by first|(exact Ao hp1 rfl rfl)|(exact D2 (u:=u) hp1 (hp4.resolve_left (fun h=>by have:=congrArg Fld.kind h;simp only[fld0] at this;omega)) (by assumption) (by omega) (by omega) (by omega) (by omega) rfl (by rw[hll.1,hll.2,show Int.toNat ((m.d.stack.length:Int)-1)=m.d.stack.length-1 by omega])))) (by simp only[List.length_append,List.length_cons,List.length_nil,List.length_set,List.length_take];omega)),?_⟩
 refine have hm1:Cb m u=(Ad (⟨(⟨m.d.plan,2,(List.set m.d.stack (Int.toNat ((m.d.stack.length:Int)-1)) (⟨x1.msg,x1.left-u⟩:Lev))++[(⟨m.d.field.msg,u⟩:Lev)],(⟨0,0⟩:Scn),m.d.start,m.d.at_,m.d.field,m.d.wire,0,m.d.utf,m.d.end_⟩:Dcd),m.out++[(⟨6,m.d.field.number,0,u,[],0,0⟩:Ev)]⟩:Mac)):=?_;?_
 rotate_left
 exact⟨rfl,(by rw[hm1]<;>rfl)⟩
 refine dsp (fun h5 p5=>?_) fun h5 p5=>?_
 refine⟨(Ah (by omega) (by omega)),(E9 (⟨(⟨m.d.plan,m.d.mode,m.d.stack,(⟨0,0⟩:Scn),m.d.start,m.d.at_,m.d.field,m.d.wire,u,m.d.utf,m.d.end_⟩:Dcd),m.out⟩:Mac) (⟨3,m.d.field.number,0,u,[],0,0⟩:Ev) (by first|omega|rfl|(dsimp only;omega))),(D3 (⟨(⟨m.d.plan,6,m.d.stack,(⟨0,0⟩:Scn),m.d.start,m.d.at_,m.d.field,m.d.wire,u,utf0,m.d.end_⟩:Dcd),m.out++[(⟨3,m.d.field.number,0,u,[],0,0⟩:Ev)]⟩:Mac) ((by first|(exact Ao hp1 rfl rfl)|(exact D2 (u:=u) hp1 (hp4.resolve_left (fun h=>by have:=congrArg Fld.kind h;simp only[fld0] at this;omega)) (by assumption) (by omega) (by omega) (by omega) (by omega) rfl (by rw[hll.1,hll.2,show Int.toNat ((m.d.stack.length:Int)-1)=m.d.stack.length-1 by omega])))) (by simp only[List.length_append,List.length_cons,List.length_nil,List.length_set,List.length_take];omega)),?_⟩
 refine have hm1:Cb m u=(Ad (⟨(⟨m.d.plan,6,m.d.stack,(⟨0,0⟩:Scn),m.d.start,m.d.at_,m.d.field,m.d.wire,u,utf0,m.d.end_⟩:Dcd),m.out++[(⟨3,m.d.field.number,0,u,[],0,0⟩:Ev)]⟩:Mac)):=?_;?_
 rotate_left
 exact⟨rfl,(by rw[hm1]<;>rfl)⟩
 refine dsp (fun h6 p6=>?_) fun h6 p6=>?_
 refine⟨(Ah (by omega) (by omega)),(E9 (⟨(⟨m.d.plan,m.d.mode,m.d.stack,(⟨0,0⟩:Scn),m.d.start,m.d.at_,m.d.field,m.d.wire,u,m.d.utf,m.d.end_⟩:Dcd),m.out⟩:Mac) (⟨3,m.d.field.number,0,u,[],0,0⟩:Ev) (by first|omega|rfl|(dsimp only;omega))),(D3 (⟨(⟨m.d.plan,6,m.d.stack,(⟨0,0⟩:Scn),m.d.start,m.d.at_,m.d.field,m.d.wire,u,utf0,m.d.end_⟩:Dcd),m.out++[(⟨3,m.d.field.number,0,u,[],0,0⟩:Ev)]⟩:Mac) ((by first|(exact Ao hp1 rfl rfl)|(exact D2 (u:=u) hp1 (hp4.resolve_left (fun h=>by have:=congrArg Fld.kind h;simp only[fld0] at this;omega)) (by assumption) (by omega) (by omega) (by omega) (by omega) rfl (by rw[hll.1,hll.2,show Int.toNat ((m.d.stack.length:Int)-1)=m.d.stack.length-1 by omega])))) (by simp only[List.length_append,List.length_cons,List.length_nil,List.length_set,List.length_take];omega)),?_⟩
 refine have hm1:Cb m u=(Ad (⟨(⟨m.d.plan,6,m.d.stack,(⟨0,0⟩:Scn),m.d.start,m.d.at_,m.d.field,m.d.wire,u,utf0,m.d.end_⟩:Dcd),m.out++[(⟨3,m.d.field.number,0,u,[],0,0⟩:Ev)]⟩:Mac)):=?_;?_
 rotate_left
 exact⟨rfl,(by rw[hm1]<;>rfl)⟩
 refine⟨(Vt _),(E5 _),dsp (fun h7 p7=>?_) fun h7 p7=>?_⟩
 refine dsp (fun h8 p8=>?_) fun h8 p8=>?_
 refine⟨(Dx (by omega) (by omega)),dsp (fun h9 p9=>?_) fun h9 p9=>?_⟩
 refine⟨(B2 (⟨(⟨m.d.plan,8,m.d.stack,(⟨0,0⟩:Scn),m.d.start,m.d.at_,m.d.field,m.d.wire,u,m.d.utf,m.d.end_⟩:Dcd),m.out⟩:Mac) _ _ (by first|omega|rfl|(dsimp only;omega))),?_⟩
 refine have hm1:Cb m u=(As (⟨(⟨m.d.plan,8,m.d.stack,(⟨0,0⟩:Scn),m.d.start,m.d.at_,m.d.field,m.d.wire,u,m.d.utf,m.d.end_⟩:Dcd),m.out⟩:Mac) 9 m.d.at_):=?_;?_
 rotate_left
 exact⟨rfl,(by rw[hm1]<;>rfl)⟩
 refine⟨(D3 (⟨(⟨m.d.plan,8,m.d.stack,(⟨0,0⟩:Scn),m.d.start,m.d.at_,m.d.field,m.d.wire,u,m.d.utf,m.d.end_⟩:Dcd),m.out⟩:Mac) ((by first|(exact Ao hp1 rfl rfl)|(exact D2 (u:=u) hp1 (hp4.resolve_left (fun h=>by have:=congrArg Fld.kind h;simp only[fld0] at this;omega)) (by assumption) (by omega) (by omega) (by omega) (by omega) rfl (by rw[hll.1,hll.2,show Int.toNat ((m.d.stack.length:Int)-1)=m.d.stack.length-1 by omega])))) (by first|omega|rfl|(dsimp only;omega))),?_⟩
 refine have hm1:Cb m u=(Ad (⟨(⟨m.d.plan,8,m.d.stack,(⟨0,0⟩:Scn),m.d.start,m.d.at_,m.d.field,m.d.wire,u,m.d.utf,m.d.end_⟩:Dcd),m.out⟩:Mac)):=?_;?_
 rotate_left
 exact⟨rfl,(by rw[hm1]<;>rfl)⟩
 refine⟨(D3 (⟨(⟨m.d.plan,8,m.d.stack,(⟨0,0⟩:Scn),m.d.start,m.d.at_,m.d.field,m.d.wire,u,m.d.utf,m.d.end_⟩:Dcd),m.out⟩:Mac) ((by first|(exact Ao hp1 rfl rfl)|(exact D2 (u:=u) hp1 (hp4.resolve_left (fun h=>by have:=congrArg Fld.kind h;simp only[fld0] at this;omega)) (by assumption) (by omega) (by omega) (by omega) (by omega) rfl (by rw[hll.1,hll.2,show Int.toNat ((m.d.stack.length:Int)-1)=m.d.stack.length-1 by omega])))) (by first|omega|rfl|(dsimp only;omega))),?_⟩
 refine have hm1:Cb m u=(Ad (⟨(⟨m.d.plan,8,m.d.stack,(⟨0,0⟩:Scn),m.d.start,m.d.at_,m.d.field,m.d.wire,u,m.d.utf,m.d.end_⟩:Dcd),m.out⟩:Mac)):=?_;?_
 rotate_left
 exact⟨rfl,(by rw[hm1]<;>rfl)⟩
 refine⟨(D3 (⟨(⟨m.d.plan,8,m.d.stack,(⟨0,0⟩:Scn),m.d.start,m.d.at_,m.d.field,m.d.wire,u,m.d.utf,m.d.end_⟩:Dcd),m.out⟩:Mac) ((by first|(exact Ao hp1 rfl rfl)|(exact D2 (u:=u) hp1 (hp4.resolve_left (fun h=>by have:=congrArg Fld.kind h;simp only[fld0] at this;omega)) (by assumption) (by omega) (by omega) (by omega) (by omega) rfl (by rw[hll.1,hll.2,show Int.toNat ((m.d.stack.length:Int)-1)=m.d.stack.length-1 by omega])))) (by first|omega|rfl|(dsimp only;omega))),?_⟩
 refine have hm1:Cb m u=(Ad (⟨(⟨m.d.plan,8,m.d.stack,(⟨0,0⟩:Scn),m.d.start,m.d.at_,m.d.field,m.d.wire,u,m.d.utf,m.d.end_⟩:Dcd),m.out⟩:Mac)):=?_;?_
 rotate_left
 exact⟨rfl,(by rw[hm1]<;>rfl)⟩
 all_goals first|((have e0:m.d.field≠fld0:=(fun h=>by have:=congrArg Fld.kind h;simp only[fld0] at this;omega);have e1: ¬(m.d.stack.length=0∨Dm m.d<u):=(by omega);have e2: ¬m.d.plan.deep≤(m.d.stack.length:Int):=(by omega);unfold Cb;rw[if_neg e1,if_neg e0,if_pos (by assumption),if_neg e2,hll.1,hll.2,hix];rfl))|(simp_all[Cb,As,Au,Yn,Yo,B3,F1,utf0,scn0];done)|(grind[Cb,As,Au,Yn,Yo,B3,F1,utf0,scn0])
theorem Zg (m:Mac) (u:Int) (hp1:List.length (m).out≤100000000) (hp2:(0:Int)≤u∧u≤18446744073709551615):Fun Tryz.prog 227 [vP 0,.c (.int .u64 u)] [.cells (Ab 1 2 3 m),.tree m.d.plan.shapes,.lst .lev m.d.stack,.lst .ev m.out] (.tup []) [.cells (Ab 1 2 4 (Ba m u)),.tree (Ba m u).d.plan.shapes,.lst .lev (Ba m u).d.stack,.dead,.lst .ev (Ba m u).out]:=by
 have hN:bigN=274877906944:=rfl
 refine Af Tryz.func227 (by kernel_rfl) (by kernel_rfl) (w:=let zi:Int→C:= .int .i64;let z1:List C:=[.own 1,zi m.d.plan.root,zi m.d.plan.deep,zi m.d.plan.most,zi 2,.own 2,.int .u64 m.d.scan.bits,zi m.d.scan.have_,zi m.d.start,zi m.d.at_,zi m.d.field.number,zi m.d.field.kind,.bool m.d.field.rep,.bool m.d.field.packed,zi m.d.field.msg,zi m.d.wire,zi m.d.want,zi m.d.utf.want,zi m.d.utf.low,zi m.d.utf.high,zi m.d.end_.kind,zi m.d.end_.field,.int .u64 m.d.end_.bits,zi m.d.end_.len,.str m.d.end_.text,zi m.d.end_.code,zi m.d.end_.at_,.own 4];let z2:= !(decide (m.d.field.number=0)&&(decide (m.d.field.kind=0)&&(decide (m.d.field.rep=false)&&(decide (m.d.field.packed=false)&&decide (m.d.field.msg=0)))));let z3:List Blk:=[.cells (Ab 1 2 4 (Ba m u)),.tree (Ba m u).d.plan.shapes,.lst .lev (Ba m u).d.stack,.dead,.lst .ev (Ba m u).out];let z6:=Fp m.d.field u;let z4:List Blk:=[.cells (Ab 1 2 4 m),.tree (m).d.plan.shapes,.lst .lev (m).d.stack,.dead,.lst .ev ((m).out++[z6])];let z5:List Blk:=[.cells z1,.tree m.d.plan.shapes,.lst .lev m.d.stack,.dead,.lst .ev (m.out++[z6])];let z7:=(.tup []:S);(.br (.br (.seg [.call [] (.v (.agg (cEv z6))) [],.call [0,1,2,3] (.tup []) z5] (.leaf () [0,1,2,3,4])) (.seg [.at 0,.cut 0 27] (.leaf () [0,1,2,3,4]))) (.br (.seg [.call [] (.v (.agg (cEv z6))) [],.call [0,1,2,3] (.tup []) z4] (.leaf () [0,1,2,3,4])) (.seg [.at 0,.cut 0 27] (.leaf () [0,1,2,3,4]))),((!decide (m.d.mode=8))=true→(z2=true→(Fun Tryz.prog 240 [.agg (Fd m.d.field),.c (.int .u64 u)] [] (.v (.agg (cEv z6))) [])∧(Fun Tryz.prog 218 [vP 0,.agg (cEv z6)] [.cells [.own 1,zi m.d.plan.root,zi m.d.plan.deep,zi m.d.plan.most,zi 2,.own 2,.int .u64 m.d.scan.bits,zi m.d.scan.have_,zi m.d.start,zi m.d.at_,zi m.d.field.number,zi m.d.field.kind,.bool m.d.field.rep,.bool m.d.field.packed,zi m.d.field.msg,zi m.d.wire,zi m.d.want,zi m.d.utf.want,zi m.d.utf.low,zi m.d.utf.high,zi m.d.end_.kind,zi m.d.end_.field,.int .u64 m.d.end_.bits,zi m.d.end_.len,.str m.d.end_.text,zi m.d.end_.code,zi m.d.end_.at_,.own 3],.tree m.d.plan.shapes,.lst .lev m.d.stack,.lst .ev m.out] (.tup []) z5)∧z7= .tup []∧(z5:List Blk)=z3)∧(z2=false→z7= .tup []∧([.cells z1,.tree m.d.plan.shapes,.lst .lev m.d.stack,.dead,.lst .ev m.out]:List Blk)=z3))∧((!decide (m.d.mode=8))=false→(z2=true→(Fun Tryz.prog 240 [.agg (Fd m.d.field),.c (.int .u64 u)] [] (.v (.agg (cEv z6))) [])∧(Fun Tryz.prog 218 [vP 0,.agg (cEv z6)] [.cells (Ab 1 2 3 m),.tree m.d.plan.shapes,.lst .lev m.d.stack,.lst .ev m.out] (.tup []) z4)∧z7= .tup []∧(z4:List Blk)=z3)∧(z2=false→z7= .tup []∧([.cells (Ab 1 2 4 m),.tree m.d.plan.shapes,.lst .lev m.d.stack,.dead,.lst .ev m.out]:List Blk)=z3)))) (by kernel_rfl) ?_
 refine⟨fun h1=>have q1:=Am h1;have p1:=of_decide_eq_false q1;?_,fun h1=>have q1:=Aj h1;have p1:=of_decide_eq_true q1;?_⟩
 refine⟨fun h2=>have q2:=Am h2;have p2:=(Cp dT (Cp dT (Cp dT (Cp dT dF)))).1 q2;?_,fun h2=>have q2:=Aj h2;have p2:=(Co dT (Co dT (Co dT (Co dT dT)))).1 q2;?_⟩
 refine⟨(Up m.d.field _ (by omega)),(E9 (⟨(⟨m.d.plan,2,m.d.stack,m.d.scan,m.d.start,m.d.at_,m.d.field,m.d.wire,m.d.want,m.d.utf,m.d.end_⟩:Dcd),m.out⟩:Mac) (Fp m.d.field u) (by first|omega|rfl|(dsimp only;omega))),?_⟩
 refine have hm1:Ba m u=(⟨(⟨m.d.plan,2,m.d.stack,m.d.scan,m.d.start,m.d.at_,m.d.field,m.d.wire,m.d.want,m.d.utf,m.d.end_⟩:Dcd),m.out++[(Fp m.d.field u)]⟩:Mac):=?_;?_
 rotate_left
 exact⟨rfl,(by rw[hm1]<;>rfl)⟩
 refine have hm1:Ba m u=(⟨(⟨m.d.plan,2,m.d.stack,m.d.scan,m.d.start,m.d.at_,m.d.field,m.d.wire,m.d.want,m.d.utf,m.d.end_⟩:Dcd),m.out⟩:Mac):=?_;?_
 rotate_left
 exact⟨rfl,(by rw[hm1]<;>rfl)⟩
 refine⟨fun h2=>have q2:=Am h2;have p2:=(Cp dT (Cp dT (Cp dT (Cp dT dF)))).1 q2;?_,fun h2=>have q2:=Aj h2;have p2:=(Co dT (Co dT (Co dT (Co dT dT)))).1 q2;?_⟩
 refine⟨(Up m.d.field _ (by omega)),(E9 m (Fp m.d.field u) (by omega)),?_⟩
 refine have hm1:Ba m u=(⟨(m).d,(m).out++[(Fp m.d.field u)]⟩:Mac):=?_;?_
 rotate_left
 exact⟨rfl,(by rw[hm1]<;>rfl)⟩
 refine have hm1:Ba m u=m:=?_;?_
 rotate_left
 exact⟨rfl,(by rw[hm1]<;>rfl)⟩
 all_goals first|(simp_all[Ba,B3];done)|((cases m with|mk d o=>cases d;simp_all[Ba,B3];done))|((cases m with|mk d o=>cases d;grind[Ba,B3]))|(grind[Ba,B3])
theorem Aan (b:Int):Fun Tryz.prog 239 [vI b] [] (.v (vB (Ak b 0 255))) []:=by
 have hN:bigN=274877906944:=rfl
 refine Af Tryz.func239 (by kernel_rfl) (by kernel_rfl) (w:=let z1:=vB (Ak b 0 255);(.seg [.call [] (.v z1) []] (.leaf () []),(Fun Tryz.prog 173 [vI b,vI 0,vI 255] [] (.v z1) [])∧(.v z1:S)= .v z1∧([]:List Blk)=[])) (by kernel_rfl) ?_
 exact⟨(B1 _ _ _),rfl,rfl⟩
theorem K8 (s:Scn) (b:Int) (hp1:(0:Int)≤(s).bits∧(s).bits≤18446744073709551615):Fun Tryz.prog 228 [.agg (J6 s),vI b] [] (.tup [.agg (J6 (Ae s b).1),vI (Ae s b).2]) []:=by
 have hN:bigN=274877906944:=rfl
 refine Af Tryz.func228 (by kernel_rfl) (by kernel_rfl) (w:=let z1:=s.bits+(b % 128)*2 ^ (7*s.have_.toNat);let z2:=(b % 128)*2 ^ (7*s.have_.toNat);let z5:=(.v (.c (.int .u64 (IntKind.u64.wrap (((BitVec.ofInt 64 s.bits|||BitVec.ofInt 64 z2).toNat:Nat))))):S)= .v (.c (.int .u64 z1));let z6:=7*s.have_;let z7:=(.v (vI (IntKind.i64.wrap (((BitVec.ofInt 64 b&&&BitVec.ofInt 64 127).toNat:Nat)))):S)= .v (vI (b % 128));let z8:=(.v (.c (.int .u64 (IntKind.u64.wrap ((b % 128)*2 ^ min (z6.toNat) 64)))):S)= .v (.c (.int .u64 z2));let z9:=Ae s b;let z10:=(.v (.c (.int .u64 (IntKind.u64.wrap (b % 128)))):S)= .v (.c (.int .u64 (b % 128)));let z11:=(.v (.c (.int .u64 (IntKind.u64.wrap z6))):S)= .v (.c (.int .u64 z6));let z12:=s.have_+1;let z13:=(.tup [.agg (J6 s),vI 2]:S);let z14:=(.v (vI (IntKind.i64.wrap z12)):S)= .v (vI z12);let z15:=([]:List Blk);let z16:=(.v (vI (IntKind.i64.wrap z6)):S)= .v (vI z6);let z17:=Ak b 0 255;let z18:=J6 z9.1;let z3:=(decide (b<128))=false→(.tup [.agg [.int .u64 z1,.int .i64 z12],vI 0]:S)= .tup [.agg z18,vI z9.2]∧z15=[];let z4:=(decide (b<128))=true→(.tup [.agg [.int .u64 z1,.int .i64 z12],vI 1]:S)= .tup [.agg z18,vI z9.2]∧z15=[];(.seg [.call [] (.v (vB (Cz s))) []] (.br (.leaf () []) (.seg [.call [] (.v (vB z17)) []] (.br (.leaf () []) (.br (.br (.leaf () []) (.seg [.as 28 (.v (vI (b % 128))),.as 29 (.v (.c (.int .u64 (b % 128)))),.as 32 (.v (vI z6)),.as 33 (.v (.c (.int .u64 z6))),.as 34 (.v (.c (.int .u64 z2))),.as 35 (.v (.c (.int .u64 z1))),.as 38 (.v (vI z12))] (.br (.leaf () []) (.leaf () [])))) (.seg [.as 28 (.v (vI (b % 128))),.as 29 (.v (.c (.int .u64 (b % 128)))),.as 32 (.v (vI z6)),.as 33 (.v (.c (.int .u64 z6))),.as 34 (.v (.c (.int .u64 z2))),.as 35 (.v (.c (.int .u64 z1))),.as 38 (.v (vI z12))] (.br (.leaf () []) (.leaf () []))))))),(Fun Tryz.prog 216 [.agg (J6 s)] [] (.v (vB (Cz s))) [])∧((!(Cz s))=true→z13= .tup [.agg z18,vI z9.2]∧z15=[])∧((!(Cz s))=false→(Fun Tryz.prog 239 [vI b] [] (.v (vB z17)) [])∧((!z17)=true→z13= .tup [.agg z18,vI z9.2]∧z15=[])∧((!z17)=false→((decide (s.have_=9))=true→((decide (1<b))=true→z13= .tup [.agg z18,vI z9.2]∧z15=[])∧((decide (1<b))=false→z7∧z10∧z16∧z11∧((0:Int)≤7*s.have_)∧z8∧z5∧z14∧z4∧z3))∧((decide (s.have_=9))=false→z7∧z10∧z16∧z11∧((0:Int)≤7*s.have_)∧z8∧z5∧z14∧z4∧z3))))) (by kernel_rfl) ?_
 refine⟨(Aad s),fun h1=>have q1:=Am h1;?_,fun h1=>have q1:=Aj h1;?_⟩
 refine have hm1:(Ae s b).1=s:=?_;?_
 rotate_left
 refine⟨(congrArg S.tup (Aa (congrArg V.agg (Aa (congrArg (C.int .u64) ?_) (Aa (congrArg (C.int .i64) ?_) rfl))) (Aa (congrArg V.c (congrArg (C.int .i64) ?_)) rfl))),rfl⟩
 rotate_left 3
 have hsk:=Rp q1 hp1.1
 refine⟨(Aan _),fun h2=>have q2:=Am h2;have p2:=Ay q2;?_,fun h2=>have q2:=Aj h2;have p2:=Ap q2;?_⟩
 refine have hm1:(Ae s b).1=s:=?_;?_
 rotate_left
 refine⟨(congrArg S.tup (Aa (congrArg V.agg (Aa (congrArg (C.int .u64) ?_) (Aa (congrArg (C.int .i64) ?_) rfl))) (Aa (congrArg V.c (congrArg (C.int .i64) ?_)) rfl))),rfl⟩
 rotate_left 3
 refine dsp (fun h3 p3=>?_) fun h3 p3=>?_
 refine dsp (fun h4 p4=>?_) fun h4 p4=>?_
 refine have hm1:(Ae s b).1=s:=?_;?_
 rotate_left
 refine⟨(congrArg S.tup (Aa (congrArg V.agg (Aa (congrArg (C.int .u64) ?_) (Aa (congrArg (C.int .i64) ?_) rfl))) (Aa (congrArg V.c (congrArg (C.int .i64) ?_)) rfl))),rfl⟩
 rotate_left 3
 refine⟨(So (k:=7) (by decide) (by decide)),(Dx (by omega) (by omega)),(Ah (by omega) (by omega)),(Dx (by omega) (by omega)),(by omega),(Pk (by omega) (by omega) (by omega) (by omega) (by omega)),(Z8 (by omega) (by omega) (by omega) (by omega) (by omega) (by omega) (by omega)),(Ah (by omega) (by omega)),dsp (fun h5 p5=>?_) fun h5 p5=>?_⟩
 refine have hm1:(Ae s b).1=(⟨s.bits+(b % 128)*2 ^ (7*s.have_.toNat),s.have_+1⟩:Scn):=?_;?_
 rotate_left
 refine⟨(congrArg S.tup (Aa (congrArg V.agg (Aa (congrArg (C.int .u64) ?_) (Aa (congrArg (C.int .i64) ?_) rfl))) (Aa (congrArg V.c (congrArg (C.int .i64) ?_)) rfl))),rfl⟩
 rotate_left 3
 refine have hm1:(Ae s b).1=(⟨s.bits+(b % 128)*2 ^ (7*s.have_.toNat),s.have_+1⟩:Scn):=?_;?_
 rotate_left
 refine⟨(congrArg S.tup (Aa (congrArg V.agg (Aa (congrArg (C.int .u64) ?_) (Aa (congrArg (C.int .i64) ?_) rfl))) (Aa (congrArg V.c (congrArg (C.int .i64) ?_)) rfl))),rfl⟩
 rotate_left 3
 refine⟨(So (k:=7) (by decide) (by decide)),(Dx (by omega) (by omega)),(Ah (by omega) (by omega)),(Dx (by omega) (by omega)),(by omega),(Pk (by omega) (by omega) (by omega) (by omega) (by omega)),(Z8 (by omega) (by omega) (by omega) (by omega) (by omega) (by omega) (by omega)),(Ah (by omega) (by omega)),dsp (fun h4 p4=>?_) fun h4 p4=>?_⟩
 refine have hm1:(Ae s b).1=(⟨s.bits+(b % 128)*2 ^ (7*s.have_.toNat),s.have_+1⟩:Scn):=?_;?_
 rotate_left
 refine⟨(congrArg S.tup (Aa (congrArg V.agg (Aa (congrArg (C.int .u64) ?_) (Aa (congrArg (C.int .i64) ?_) rfl))) (Aa (congrArg V.c (congrArg (C.int .i64) ?_)) rfl))),rfl⟩
 rotate_left 3
 refine have hm1:(Ae s b).1=(⟨s.bits+(b % 128)*2 ^ (7*s.have_.toNat),s.have_+1⟩:Scn):=?_;?_
 rotate_left
 refine⟨(congrArg S.tup (Aa (congrArg V.agg (Aa (congrArg (C.int .u64) ?_) (Aa (congrArg (C.int .i64) ?_) rfl))) (Aa (congrArg V.c (congrArg (C.int .i64) ?_)) rfl))),rfl⟩
 rotate_left 3
 all_goals first|(simp_all[Ae];done)|(grind[Ae])
theorem K9 (s:Scn) (b:Int) (hp1:(0:Int)≤(s).bits∧(s).bits≤18446744073709551615):Fun Tryz.prog 160 [.agg (J6 s),vI b] [] (.tup [.agg (J6 (Ae s b).1),vI (Ae s b).2]) []:=by
 have hN:bigN=274877906944:=rfl
 refine Af Tryz.func160 (by kernel_rfl) (by kernel_rfl) (w:=let z1:=s.bits+(b % 128)*2 ^ (7*s.have_.toNat);let z2:=(b % 128)*2 ^ (7*s.have_.toNat);let z5:=7*s.have_;let z6:=(.v (.c (.int .u64 (IntKind.u64.wrap ((b % 128)*2 ^ min (z5.toNat) 64)))):S)= .v (.c (.int .u64 z2));let z7:=Ae s b;let z8:=(.v (.c (.int .u64 (IntKind.u64.wrap (b % 128)))):S)= .v (.c (.int .u64 (b % 128)));let z9:=(.v (.c (.int .u64 (IntKind.u64.wrap (s.bits+z2)))):S)= .v (.c (.int .u64 z1));let z10:=(.v (.c (.int .u64 (IntKind.u64.wrap z5))):S)= .v (.c (.int .u64 z5));let z11:=s.have_+1;let z12:=(.tup [.agg (J6 s),vI 2]:S);let z13:=(.v (vI (Int.tmod b 128)):S)= .v (vI (b % 128));let z14:=(.v (vI (IntKind.i64.wrap z11)):S)= .v (vI z11);let z15:=([]:List Blk);let z16:=(.v (vI (IntKind.i64.wrap z5)):S)= .v (vI z5);let z17:=Ak b 0 255;let z18:=J6 z7.1;let z3:=(decide (b<128))=false→(.tup [.agg [.int .u64 z1,.int .i64 z11],vI 0]:S)= .tup [.agg z18,vI z7.2]∧z15=[];let z4:=(decide (b<128))=true→(.tup [.agg [.int .u64 z1,.int .i64 z11],vI 1]:S)= .tup [.agg z18,vI z7.2]∧z15=[];(.seg [.call [] (.v (vB (Cz s))) []] (.br (.leaf () []) (.seg [.call [] (.v (vB z17)) []] (.br (.leaf () []) (.br (.br (.leaf () []) (.seg [.as 28 (.v (vI (b % 128))),.as 29 (.v (.c (.int .u64 (b % 128)))),.as 32 (.v (vI z5)),.as 33 (.v (.c (.int .u64 z5))),.as 34 (.v (.c (.int .u64 z2))),.as 35 (.v (.c (.int .u64 z1))),.as 38 (.v (vI z11))] (.br (.leaf () []) (.leaf () [])))) (.seg [.as 28 (.v (vI (b % 128))),.as 29 (.v (.c (.int .u64 (b % 128)))),.as 32 (.v (vI z5)),.as 33 (.v (.c (.int .u64 z5))),.as 34 (.v (.c (.int .u64 z2))),.as 35 (.v (.c (.int .u64 z1))),.as 38 (.v (vI z11))] (.br (.leaf () []) (.leaf () []))))))),(Fun Tryz.prog 193 [.agg (J6 s)] [] (.v (vB (Cz s))) [])∧((!(Cz s))=true→z12= .tup [.agg z18,vI z7.2]∧z15=[])∧((!(Cz s))=false→(Fun Tryz.prog 105 [vI b,vI 0,vI 255] [] (.v (vB z17)) [])∧((!z17)=true→z12= .tup [.agg z18,vI z7.2]∧z15=[])∧((!z17)=false→((decide (s.have_=9))=true→((decide (1<b))=true→z12= .tup [.agg z18,vI z7.2]∧z15=[])∧((decide (1<b))=false→((128:Int)≠0)∧z13∧z8∧z16∧z10∧((0:Int)≤7*s.have_)∧z6∧z9∧z14∧z4∧z3))∧((decide (s.have_=9))=false→((128:Int)≠0)∧z13∧z8∧z16∧z10∧((0:Int)≤7*s.have_)∧z6∧z9∧z14∧z4∧z3))))) (by kernel_rfl) ?_
 refine⟨(Rq s),fun h1=>have q1:=Am h1;?_,fun h1=>have q1:=Aj h1;?_⟩
 refine have hm1:(Ae s b).1=s:=?_;?_
 rotate_left
 refine⟨(congrArg S.tup (Aa (congrArg V.agg (Aa (congrArg (C.int .u64) ?_) (Aa (congrArg (C.int .i64) ?_) rfl))) (Aa (congrArg V.c (congrArg (C.int .i64) ?_)) rfl))),rfl⟩
 rotate_left 3
 have hsk:=Rp q1 hp1.1
 refine⟨(A8 _ _ _),fun h2=>have q2:=Am h2;have p2:=Ay q2;?_,fun h2=>have q2:=Aj h2;have p2:=Ap q2;?_⟩
 refine have hm1:(Ae s b).1=s:=?_;?_
 rotate_left
 refine⟨(congrArg S.tup (Aa (congrArg V.agg (Aa (congrArg (C.int .u64) ?_) (Aa (congrArg (C.int .i64) ?_) rfl))) (Aa (congrArg V.c (congrArg (C.int .i64) ?_)) rfl))),rfl⟩
 rotate_left 3
 refine dsp (fun h3 p3=>?_) fun h3 p3=>?_
 refine dsp (fun h4 p4=>?_) fun h4 p4=>?_
 refine have hm1:(Ae s b).1=s:=?_;?_
 rotate_left
 refine⟨(congrArg S.tup (Aa (congrArg V.agg (Aa (congrArg (C.int .u64) ?_) (Aa (congrArg (C.int .i64) ?_) rfl))) (Aa (congrArg V.c (congrArg (C.int .i64) ?_)) rfl))),rfl⟩
 rotate_left 3
 refine⟨(by decide),(Nv (by omega)),(Dx (by omega) (by omega)),(Ah (by omega) (by omega)),(Dx (by omega) (by omega)),(by omega),(Pk (by omega) (by omega) (by omega) (by omega) (by omega)),(W8 (by omega) (by omega) (by omega) (by omega) (by omega) (by omega) (by omega)),(Ah (by omega) (by omega)),dsp (fun h5 p5=>?_) fun h5 p5=>?_⟩
 refine have hm1:(Ae s b).1=(⟨s.bits+(b % 128)*2 ^ (7*s.have_.toNat),s.have_+1⟩:Scn):=?_;?_
 rotate_left
 refine⟨(congrArg S.tup (Aa (congrArg V.agg (Aa (congrArg (C.int .u64) ?_) (Aa (congrArg (C.int .i64) ?_) rfl))) (Aa (congrArg V.c (congrArg (C.int .i64) ?_)) rfl))),rfl⟩
 rotate_left 3
 refine have hm1:(Ae s b).1=(⟨s.bits+(b % 128)*2 ^ (7*s.have_.toNat),s.have_+1⟩:Scn):=?_;?_
 rotate_left
 refine⟨(congrArg S.tup (Aa (congrArg V.agg (Aa (congrArg (C.int .u64) ?_) (Aa (congrArg (C.int .i64) ?_) rfl))) (Aa (congrArg V.c (congrArg (C.int .i64) ?_)) rfl))),rfl⟩
 rotate_left 3
 refine⟨(by decide),(Nv (by omega)),(Dx (by omega) (by omega)),(Ah (by omega) (by omega)),(Dx (by omega) (by omega)),(by omega),(Pk (by omega) (by omega) (by omega) (by omega) (by omega)),(W8 (by omega) (by omega) (by omega) (by omega) (by omega) (by omega) (by omega)),(Ah (by omega) (by omega)),dsp (fun h4 p4=>?_) fun h4 p4=>?_⟩
 refine have hm1:(Ae s b).1=(⟨s.bits+(b % 128)*2 ^ (7*s.have_.toNat),s.have_+1⟩:Scn):=?_;?_
 rotate_left
 refine⟨(congrArg S.tup (Aa (congrArg V.agg (Aa (congrArg (C.int .u64) ?_) (Aa (congrArg (C.int .i64) ?_) rfl))) (Aa (congrArg V.c (congrArg (C.int .i64) ?_)) rfl))),rfl⟩
 rotate_left 3
 refine have hm1:(Ae s b).1=(⟨s.bits+(b % 128)*2 ^ (7*s.have_.toNat),s.have_+1⟩:Scn):=?_;?_
 rotate_left
 refine⟨(congrArg S.tup (Aa (congrArg V.agg (Aa (congrArg (C.int .u64) ?_) (Aa (congrArg (C.int .i64) ?_) rfl))) (Aa (congrArg V.c (congrArg (C.int .i64) ?_)) rfl))),rfl⟩
 rotate_left 3
 all_goals first|(simp_all[Ae];done)|(grind[Ae])
theorem Aed (s:Scn) (b:Int):Fun Tryz.prog 226 [.agg (J6 s),vI b] [] (.v (.agg (J6 (Bk s b)))) []:=by
 have hN:bigN=274877906944:=rfl
 refine Af Tryz.func226 (by kernel_rfl) (by kernel_rfl) (w:=let z1:=8*s.have_;let z2:=Ak s.have_ 0 7;let z3:=Ak b 0 255;let z4:=J6 (Bk s b);let z5:=s.have_+1;(.seg [.call [] (.v (vB z2)) []] (.br (.leaf () []) (.seg [.call [] (.v (vB z3)) []] (.br (.leaf () []) (.seg [.as 18 (.v (.c (.int .u64 b))),.as 21 (.v (vI z1)),.as 22 (.v (.c (.int .u64 z1))),.as 27 (.v (vI z5))] (.leaf () []))))),(Fun Tryz.prog 173 [vI s.have_,vI 0,vI 7] [] (.v (vB z2)) [])∧((!z2)=true→(.v (.agg (J6 s)):S)= .v (.agg z4)∧([]:List Blk)=[])∧((!z2)=false→(Fun Tryz.prog 239 [vI b] [] (.v (vB z3)) [])∧((!z3)=true→(.v (.agg (J6 s)):S)= .v (.agg z4)∧([]:List Blk)=[])∧((!z3)=false→((.v (.c (.int .u64 (IntKind.u64.wrap (b)))):S)= .v (.c (.int .u64 b)))∧((.v (vI (IntKind.i64.wrap z1)):S)= .v (vI z1))∧((.v (.c (.int .u64 (IntKind.u64.wrap z1))):S)= .v (.c (.int .u64 z1)))∧((0:Int)≤8*s.have_)∧((.v (vI (IntKind.i64.wrap z5)):S)= .v (vI z5))∧(.v (.agg [.int .u64 (IntKind.u64.wrap (s.bits+(IntKind.u64.wrap (b*2 ^ min (z1.toNat) 64)))),.int .i64 z5]):S)= .v (.agg z4)∧([]:List Blk)=[])))) (by kernel_rfl) ?_
 refine⟨(B1 _ _ _),fun h1=>have q1:=Am h1;have p1:=Ay q1;?_,fun h1=>have q1:=Aj h1;have p1:=Ap q1;?_⟩
 refine have hm1:Bk s b=s:=?_;?_
 rotate_left
 exact⟨(by rw[hm1]<;>rfl),rfl⟩
 refine⟨(Aan _),fun h2=>have q2:=Am h2;have p2:=Ay q2;?_,fun h2=>have q2:=Aj h2;have p2:=Ap q2;?_⟩
 refine have hm1:Bk s b=s:=?_;?_
 rotate_left
 exact⟨(by rw[hm1]<;>rfl),rfl⟩
 refine⟨(Dx (by omega) (by omega)),(Ah (by omega) (by omega)),(Dx (by omega) (by omega)),(by omega),(Ah (by omega) (by omega)),?_⟩
 refine have hm1:Bk s b=(⟨IntKind.u64.wrap (s.bits+(IntKind.u64.wrap (b*2 ^ min (Int.toNat (8*s.have_)) 64))),s.have_+1⟩:Scn):=?_;?_
 rotate_left
 exact⟨(by rw[hm1]<;>rfl),rfl⟩
 all_goals first|(simp_all[Bk];done)|(grind[Bk])
theorem Aee (s:Scn) (b:Int):Fun Tryz.prog 157 [.agg (J6 s),vI b] [] (.v (.agg (J6 (Bk s b)))) []:=by
 have hN:bigN=274877906944:=rfl
 refine Af Tryz.func157 (by kernel_rfl) (by kernel_rfl) (w:=let z1:=8*s.have_;let z2:=Ak s.have_ 0 7;let z3:=Ak b 0 255;let z4:=J6 (Bk s b);let z5:=s.have_+1;(.seg [.call [] (.v (vB z2)) []] (.br (.leaf () []) (.seg [.call [] (.v (vB z3)) []] (.br (.leaf () []) (.seg [.as 18 (.v (.c (.int .u64 b))),.as 21 (.v (vI z1)),.as 22 (.v (.c (.int .u64 z1))),.as 27 (.v (vI z5))] (.leaf () []))))),(Fun Tryz.prog 105 [vI s.have_,vI 0,vI 7] [] (.v (vB z2)) [])∧((!z2)=true→(.v (.agg (J6 s)):S)= .v (.agg z4)∧([]:List Blk)=[])∧((!z2)=false→(Fun Tryz.prog 105 [vI b,vI 0,vI 255] [] (.v (vB z3)) [])∧((!z3)=true→(.v (.agg (J6 s)):S)= .v (.agg z4)∧([]:List Blk)=[])∧((!z3)=false→((.v (.c (.int .u64 (IntKind.u64.wrap (b)))):S)= .v (.c (.int .u64 b)))∧((.v (vI (IntKind.i64.wrap z1)):S)= .v (vI z1))∧((.v (.c (.int .u64 (IntKind.u64.wrap z1))):S)= .v (.c (.int .u64 z1)))∧((0:Int)≤8*s.have_)∧((.v (vI (IntKind.i64.wrap z5)):S)= .v (vI z5))∧(.v (.agg [.int .u64 (IntKind.u64.wrap (s.bits+(IntKind.u64.wrap (b*2 ^ min (z1.toNat) 64)))),.int .i64 z5]):S)= .v (.agg z4)∧([]:List Blk)=[])))) (by kernel_rfl) ?_
 refine⟨(A8 _ _ _),fun h1=>have q1:=Am h1;have p1:=Ay q1;?_,fun h1=>have q1:=Aj h1;have p1:=Ap q1;?_⟩
 refine have hm1:Bk s b=s:=?_;?_
 rotate_left
 exact⟨(by rw[hm1]<;>rfl),rfl⟩
 refine⟨(A8 _ _ _),fun h2=>have q2:=Am h2;have p2:=Ay q2;?_,fun h2=>have q2:=Aj h2;have p2:=Ap q2;?_⟩
 refine have hm1:Bk s b=s:=?_;?_
 rotate_left
 exact⟨(by rw[hm1]<;>rfl),rfl⟩
 refine⟨(Dx (by omega) (by omega)),(Ah (by omega) (by omega)),(Dx (by omega) (by omega)),(by omega),(Ah (by omega) (by omega)),?_⟩
 refine have hm1:Bk s b=(⟨IntKind.u64.wrap (s.bits+(IntKind.u64.wrap (b*2 ^ min (Int.toNat (8*s.have_)) 64))),s.have_+1⟩:Scn):=?_;?_
 rotate_left
 exact⟨(by rw[hm1]<;>rfl),rfl⟩
 all_goals first|(simp_all[Bk];done)|(grind[Bk])
theorem Px (m:Mac) (b:Int) (hp1:MW (m).d) (hp2:List.length (m).out≤50000000) (hp3:(0:Int)≤b∧b≤255):Fun Tryz.prog 202 [vP 0,vI b] [.cells (Ab 1 2 3 m),.tree m.d.plan.shapes,.lst .lev m.d.stack,.lst .ev m.out] (.tup []) [.cells (Ab 4 5 6 (Bf m b ((m).d.at_-1))),.dead,.dead,.dead,.tree (Bf m b ((m).d.at_-1)).d.plan.shapes,.lst .lev (Bf m b ((m).d.at_-1)).d.stack,.lst .ev (Bf m b ((m).d.at_-1)).out]:=by
 have hN:bigN=274877906944:=rfl
 have hlv:=Bs hp1.lv
 have hpt:=By hlv.1
 have htb:=Gm hp1.lv
 have hwm:=Acc m
 have hbb:=hp1.b0
 have hat:=hp1.at_
 have hwt:=hp1.want
 have hwd:=Jf m.d
 have hsb:=Qc (b:=b) hbb.1 hbb.2
 refine Af Tryz.func202 (by kernel_rfl) (by kernel_rfl) (w:=let zi:Int→C:= .int .i64;let z1:List C:=[zi m.d.at_,zi m.d.field.number,zi m.d.field.kind,.bool m.d.field.rep,.bool m.d.field.packed,zi m.d.field.msg,zi m.d.wire,zi m.d.want,zi m.d.utf.want,zi m.d.utf.low,zi m.d.utf.high,zi m.d.end_.kind,zi m.d.end_.field,.int .u64 m.d.end_.bits,zi m.d.end_.len,.str m.d.end_.text,zi m.d.end_.code,zi m.d.end_.at_,.own 3];let z2:List C:=[zi m.d.at_,zi m.d.field.number,zi m.d.field.kind,.bool m.d.field.rep,.bool m.d.field.packed,zi m.d.field.msg,zi m.d.wire,zi m.d.want,zi m.d.utf.want,zi m.d.utf.low,zi m.d.utf.high,zi m.d.end_.kind,zi m.d.end_.field,.int .u64 m.d.end_.bits,zi m.d.end_.len,.str m.d.end_.text,zi m.d.end_.code,zi m.d.end_.at_,.own 6];let z3:List C:=[zi m.d.at_,zi m.d.field.number,zi m.d.field.kind,.bool m.d.field.rep,.bool m.d.field.packed,zi m.d.field.msg,zi m.d.wire,zi m.d.want,zi m.d.utf.want,zi m.d.utf.low,zi m.d.utf.high,zi m.d.end_.kind,zi m.d.end_.field,.int .u64 m.d.end_.bits,zi m.d.end_.len,.str m.d.end_.text,zi m.d.end_.code,zi m.d.end_.at_];let z6:=(⟨m.d.plan,m.d.mode,m.d.stack,(⟨0,0⟩:Scn),m.d.start,m.d.at_,m.d.field,m.d.wire,m.d.want,m.d.utf,m.d.end_⟩:Dcd);let z9:=Ae m.d.scan b;let z4:=As (⟨(⟨m.d.plan,m.d.mode,m.d.stack,z9.1,m.d.at_-1,m.d.at_,m.d.field,m.d.wire,m.d.want,m.d.utf,m.d.end_⟩:Dcd),m.out⟩:Mac) 9 m.d.at_;let z5:=As (⟨(⟨m.d.plan,m.d.mode,m.d.stack,z9.1,m.d.start,m.d.at_,m.d.field,m.d.wire,m.d.want,m.d.utf,m.d.end_⟩:Dcd),m.out⟩:Mac) 9 m.d.at_;let z10:=(⟨m.d.plan,m.d.mode,m.d.stack,(⟨0,0⟩:Scn),m.d.at_-1,m.d.at_,m.d.field,m.d.wire,m.d.want,m.d.utf,m.d.end_⟩:Dcd);let z13:=([.cells (.own 4::zi m.d.plan.root::zi m.d.plan.deep::zi m.d.plan.most::zi m.d.mode:: .own 5:: .int .u64 z9.1.bits::zi z9.1.have_::zi m.d.start::z2),.dead,.dead,.dead,.tree m.d.plan.shapes,.lst .lev m.d.stack,.lst .ev m.out]:List Blk);let z14:=Ba (⟨z6,m.out⟩:Mac) z9.1.bits;let z15:List Blk:=[.cells (Ab 1 2 4 z4),.tree z4.d.plan.shapes,.lst .lev z4.d.stack,.dead,.lst .ev z4.out];let z16:List Blk:=[.cells (.own 1::zi m.d.plan.root::zi m.d.plan.deep::zi m.d.plan.most::zi m.d.mode:: .own 2:: .int .u64 z9.1.bits::zi z9.1.have_::zi m.d.start::z1),.tree m.d.plan.shapes,.lst .lev m.d.stack,.lst .ev m.out];let z17:List Blk:=[.cells (Ab 1 2 4 z5),.tree z5.d.plan.shapes,.lst .lev z5.d.stack,.dead,.lst .ev z5.out];let z18:=([.cells (Ab 4 5 6 z4),.dead,.dead,.dead,.tree z4.d.plan.shapes,.lst .lev z4.d.stack,.lst .ev z4.out]:List Blk);let z19:List Blk:=[.cells (.own 1::zi m.d.plan.root::zi m.d.plan.deep::zi m.d.plan.most::zi m.d.mode:: .own 2:: .int .u64 0::zi 0::zi m.d.start::z1),.tree m.d.plan.shapes,.lst .lev m.d.stack,.lst .ev m.out];let z21:=([.cells (Ab 4 5 6 z5),.dead,.dead,.dead,.tree z5.d.plan.shapes,.lst .lev z5.d.stack,.lst .ev z5.out]:List Blk);let z32:=(.tup []:S);let z33:=decide (m.d.mode=8);let z34:=decide (m.d.want=0);let z35:List Blk:=[.cells (Ab 1 2 4 z14),.tree z14.d.plan.shapes,.lst .lev z14.d.stack,.dead,.lst .ev z14.out];let z36:List V:=[vP 0,vI 9,vI m.d.at_];let z37:=m.d.at_-1;let z8:=As (⟨(⟨m.d.plan,m.d.mode,m.d.stack,m.d.scan,m.d.at_-1,m.d.at_,m.d.field,m.d.wire,m.d.want,m.d.utf,m.d.end_⟩:Dcd),m.out⟩:Mac) 1 z37;let z11:=([.cells (.own 4::zi m.d.plan.root::zi m.d.plan.deep::zi m.d.plan.most::zi m.d.mode:: .own 5:: .int .u64 z9.1.bits::zi z9.1.have_::zi z37::z2),.dead,.dead,.dead,.tree m.d.plan.shapes,.lst .lev m.d.stack,.lst .ev m.out]:List Blk);let z12:List Blk:=[.cells (.own 1::zi m.d.plan.root::zi m.d.plan.deep::zi m.d.plan.most::zi m.d.mode:: .own 2:: .int .u64 z9.1.bits::zi z9.1.have_::zi z37::z1),.tree m.d.plan.shapes,.lst .lev m.d.stack,.lst .ev m.out];let z23:List Blk:=[.cells (.own 1::zi m.d.plan.root::zi m.d.plan.deep::zi m.d.plan.most::zi m.d.mode:: .own 2:: .int .u64 m.d.scan.bits::zi m.d.scan.have_::zi z37::z1),.tree m.d.plan.shapes,.lst .lev m.d.stack,.lst .ev m.out];let z29:List Blk:=[.cells (.own 1::zi m.d.plan.root::zi m.d.plan.deep::zi m.d.plan.most::zi m.d.mode:: .own 2:: .int .u64 0::zi 0::zi z37::z1),.tree m.d.plan.shapes,.lst .lev m.d.stack,.lst .ev m.out];let z31:List Blk:=[.cells (Ab 1 2 4 z8),.tree z8.d.plan.shapes,.lst .lev z8.d.stack,.dead,.lst .ev z8.out];let z38:=([.cells (Ab 4 5 6 z8),.dead,.dead,.dead,.tree z8.d.plan.shapes,.lst .lev z8.d.stack,.lst .ev z8.out]:List Blk);let z39:List V:=[vP 0,.c (.int .u64 z9.1.bits)];let z40:= !decide (m.d.mode=1);let z43:=decide (Dm m.d=0);let z45:=decide (z9.2=2);let z46:=decide (z9.2=0);let z47:=decide (m.d.mode=1);let z48:=decide (m.d.mode=2);let z51:=vI (Dm m.d);let z52:=Cj (⟨z10,m.out⟩:Mac) z9.1.bits;let z24:List Blk:=[.cells (Ab 4 5 6 z52),.dead,.dead,.dead,.tree z52.d.plan.shapes,.lst .lev z52.d.stack,.lst .ev z52.out];let z53:=Cb (⟨z10,m.out⟩:Mac) z9.1.bits;let z25:List Blk:=[.cells (Ab 4 5 6 z53),.dead,.dead,.dead,.tree z53.d.plan.shapes,.lst .lev z53.d.stack,.lst .ev z53.out];let z54:=Cj (⟨z6,m.out⟩:Mac) z9.1.bits;let z26:List Blk:=[.cells (Ab 4 5 6 z54),.dead,.dead,.dead,.tree z54.d.plan.shapes,.lst .lev z54.d.stack,.lst .ev z54.out];let z55:=D5 (⟨z10,m.out⟩:Mac) z9.1.bits;let z27:List Blk:=[.cells (Ab 4 5 6 z55),.dead,.dead,.dead,.tree z55.d.plan.shapes,.lst .lev z55.d.stack,.lst .ev z55.out];let z56:=Cb (⟨z6,m.out⟩:Mac) z9.1.bits;let z28:List Blk:=[.cells (Ab 4 5 6 z56),.dead,.dead,.dead,.tree z56.d.plan.shapes,.lst .lev z56.d.stack,.lst .ev z56.out];let z57:=decide (m.d.mode=4);let z58:=D5 (⟨z6,m.out⟩:Mac) z9.1.bits;let z30:List Blk:=[.cells (Ab 4 5 6 z58),.dead,.dead,.dead,.tree z58.d.plan.shapes,.lst .lev z58.d.stack,.lst .ev z58.out];let z59:List Blk:=[.cells (Ab 1 2 3 z14),.tree z14.d.plan.shapes,.lst .lev z14.d.stack,.lst .ev z14.out];let z60:=As m 1 z37;let z22:List Blk:=[.cells (Ab 1 2 4 z60),.tree z60.d.plan.shapes,.lst .lev z60.d.stack,.dead,.lst .ev z60.out];let z44:=([.cells (Ab 4 5 6 z60),.dead,.dead,.dead,.tree z60.d.plan.shapes,.lst .lev z60.d.stack,.lst .ev z60.out]:List Blk);let z61:List Blk:=[.cells (Ab 1 2 3 m),.tree m.d.plan.shapes,.lst .lev m.d.stack,.lst .ev m.out];let z62:=J6 z9.1;let z63:=Bf m b ((m).d.at_-1);let z7:List Blk:=[.cells (Ab 4 5 6 z63),.dead,.dead,.dead,.tree z63.d.plan.shapes,.lst .lev z63.d.stack,.lst .ev z63.out];let z41:=z34=false→z32= .tup []∧z11=z7;let z42:=z33=false→z32= .tup []∧z11=z7;let z49:=z34=false→z32= .tup []∧z13=z7;let z50:=z33=false→z32= .tup []∧z13=z7;let z64:List V:=[vP 0,vI 1,vI z37];let z65:=J6 m.d.scan;let z66:=Ad z14;let z20:List Blk:=[.cells (Ab 4 5 6 z66),.dead,.dead,.dead,.tree z66.d.plan.shapes,.lst .lev z66.d.stack,.lst .ev z66.out];(.seg [.as 12 (.v (vI z37))] (.br (.br (.seg [.call [] (.tup [.agg z62,vI z9.2]) []] (.br (.seg [.call [0,1,2,3] (.tup []) z31,.at 0,.cut 0 0,.cut 0 5] (.leaf () [0,1,2,3,6,7,5])) (.br (.br (.seg [.call [] (.v z51) []] (.br (.seg [.call [0,1,2,3] (.tup []) z15,.at 0,.cut 0 0,.cut 0 5] (.leaf () [0,1,2,3,6,7,5])) (.br (.br (.seg [.call [0,1,2,3] (.tup []) z15,.at 0,.cut 0 0,.cut 0 5] (.leaf () [0,1,2,3,6,7,5])) (.seg [.at 0,.cut 0 0,.cut 0 5,.cut 0 27] (.leaf () [0,1,2,3,5,6,7]))) (.seg [.at 0,.cut 0 0,.cut 0 5,.cut 0 27] (.leaf () [0,1,2,3,5,6,7]))))) (.br (.br (.seg [.call [0,1,2,3] (.tup []) z15,.at 0,.cut 0 0,.cut 0 5] (.leaf () [0,1,2,3,6,7,5])) (.seg [.at 0,.cut 0 0,.cut 0 5,.cut 0 27] (.leaf () [0,1,2,3,5,6,7]))) (.seg [.at 0,.cut 0 0,.cut 0 5,.cut 0 27] (.leaf () [0,1,2,3,5,6,7])))) (.seg [.br true,.call [0,1,2,3] (.tup []) z24] (.leaf () [0,1,2,3,5,6,7]))))) (.br (.seg [.call [] (.tup [.agg z62,vI z9.2]) []] (.br (.seg [.call [0,1,2,3] (.tup []) z31,.at 0,.cut 0 0,.cut 0 5] (.leaf () [0,1,2,3,6,7,5])) (.br (.br (.seg [.call [] (.v z51) []] (.br (.seg [.call [0,1,2,3] (.tup []) z15,.at 0,.cut 0 0,.cut 0 5] (.leaf () [0,1,2,3,6,7,5])) (.br (.br (.seg [.call [0,1,2,3] (.tup []) z15,.at 0,.cut 0 0,.cut 0 5] (.leaf () [0,1,2,3,6,7,5])) (.seg [.at 0,.cut 0 0,.cut 0 5,.cut 0 27] (.leaf () [0,1,2,3,5,6,7]))) (.seg [.at 0,.cut 0 0,.cut 0 5,.cut 0 27] (.leaf () [0,1,2,3,5,6,7]))))) (.br (.br (.seg [.call [0,1,2,3] (.tup []) z15,.at 0,.cut 0 0,.cut 0 5] (.leaf () [0,1,2,3,6,7,5])) (.seg [.at 0,.cut 0 0,.cut 0 5,.cut 0 27] (.leaf () [0,1,2,3,5,6,7]))) (.seg [.at 0,.cut 0 0,.cut 0 5,.cut 0 27] (.leaf () [0,1,2,3,5,6,7])))) (.seg [.br false,.br true,.call [0,1,2,3] (.tup []) z27] (.leaf () [0,1,2,3,5,6,7]))))) (.br (.seg [.call [] (.tup [.agg z62,vI z9.2]) []] (.br (.seg [.call [0,1,2,3] (.tup []) z31,.at 0,.cut 0 0,.cut 0 5] (.leaf () [0,1,2,3,6,7,5])) (.br (.br (.seg [.call [] (.v z51) []] (.br (.seg [.call [0,1,2,3] (.tup []) z15,.at 0,.cut 0 0,.cut 0 5] (.leaf () [0,1,2,3,6,7,5])) (.br (.br (.seg [.call [0,1,2,3] (.tup []) z15,.at 0,.cut 0 0,.cut 0 5] (.leaf () [0,1,2,3,6,7,5])) (.seg [.at 0,.cut 0 0,.cut 0 5,.cut 0 27] (.leaf () [0,1,2,3,5,6,7]))) (.seg [.at 0,.cut 0 0,.cut 0 5,.cut 0 27] (.leaf () [0,1,2,3,5,6,7]))))) (.br (.br (.seg [.call [0,1,2,3] (.tup []) z15,.at 0,.cut 0 0,.cut 0 5] (.leaf () [0,1,2,3,6,7,5])) (.seg [.at 0,.cut 0 0,.cut 0 5,.cut 0 27] (.leaf () [0,1,2,3,5,6,7]))) (.seg [.at 0,.cut 0 0,.cut 0 5,.cut 0 27] (.leaf () [0,1,2,3,5,6,7])))) (.seg [.br false,.br false,.br true,.call [0,1,2,3] (.tup []) z25] (.leaf () [0,1,2,3,5,6,7]))))) (.seg [.call [] (.tup [.agg z62,vI z9.2]) []] (.br (.seg [.call [0,1,2,3] (.tup []) z22,.at 0,.cut 0 0,.cut 0 5] (.leaf () [0,1,2,3,6,7,5])) (.br (.br (.seg [.call [] (.v z51) []] (.br (.seg [.call [0,1,2,3] (.tup []) z17,.at 0,.cut 0 0,.cut 0 5] (.leaf () [0,1,2,3,6,7,5])) (.br (.br (.seg [.call [0,1,2,3] (.tup []) z17,.at 0,.cut 0 0,.cut 0 5] (.leaf () [0,1,2,3,6,7,5])) (.seg [.at 0,.cut 0 0,.cut 0 5,.cut 0 27] (.leaf () [0,1,2,3,5,6,7]))) (.seg [.at 0,.cut 0 0,.cut 0 5,.cut 0 27] (.leaf () [0,1,2,3,5,6,7]))))) (.br (.br (.seg [.call [0,1,2,3] (.tup []) z17,.at 0,.cut 0 0,.cut 0 5] (.leaf () [0,1,2,3,6,7,5])) (.seg [.at 0,.cut 0 0,.cut 0 5,.cut 0 27] (.leaf () [0,1,2,3,5,6,7]))) (.seg [.at 0,.cut 0 0,.cut 0 5,.cut 0 27] (.leaf () [0,1,2,3,5,6,7])))) (.seg [.br false,.br false,.br false,.call [0,1,2,3] (.tup []) z35,.call [0,1,2,5] (.tup []) z20] (.leaf () [0,1,2,3,6,7,8])))))))) (.seg [.call [] (.tup [.agg z62,vI z9.2]) []] (.br (.seg [.call [0,1,2,3] (.tup []) z22,.at 0,.cut 0 0,.cut 0 5] (.leaf () [0,1,2,3,6,7,5])) (.br (.br (.seg [.call [] (.v z51) []] (.br (.seg [.call [0,1,2,3] (.tup []) z17,.at 0,.cut 0 0,.cut 0 5] (.leaf () [0,1,2,3,6,7,5])) (.br (.br (.seg [.call [0,1,2,3] (.tup []) z17,.at 0,.cut 0 0,.cut 0 5] (.leaf () [0,1,2,3,6,7,5])) (.seg [.at 0,.cut 0 0,.cut 0 5,.cut 0 27] (.leaf () [0,1,2,3,5,6,7]))) (.seg [.at 0,.cut 0 0,.cut 0 5,.cut 0 27] (.leaf () [0,1,2,3,5,6,7]))))) (.br (.br (.seg [.call [0,1,2,3] (.tup []) z17,.at 0,.cut 0 0,.cut 0 5] (.leaf () [0,1,2,3,6,7,5])) (.seg [.at 0,.cut 0 0,.cut 0 5,.cut 0 27] (.leaf () [0,1,2,3,5,6,7]))) (.seg [.at 0,.cut 0 0,.cut 0 5,.cut 0 27] (.leaf () [0,1,2,3,5,6,7])))) (.br (.seg [.call [0,1,2,3] (.tup []) z26] (.leaf () [0,1,2,3,5,6,7])) (.br (.seg [.call [0,1,2,3] (.tup []) z30] (.leaf () [0,1,2,3,5,6,7])) (.br (.seg [.call [0,1,2,3] (.tup []) z28] (.leaf () [0,1,2,3,5,6,7])) (.seg [.call [0,1,2,3] (.tup []) z35,.call [0,1,2,5] (.tup []) z20] (.leaf () [0,1,2,3,6,7,8]))))))))),((.v (vI (IntKind.i64.wrap z37)):S)= .v (vI z37))∧((decide (m.d.scan.have_=0))=true→(z47=true→(Fun Tryz.prog 228 [.agg z65,vI b] [] (.tup [.agg z62,vI z9.2]) [])∧(z45=true→(Fun Tryz.prog 219 z64 z23 (.tup []) z31)∧z32= .tup []∧z38=z7)∧(z45=false→(z46=true→(z40=true→(Fun Tryz.prog 179 [.agg (.seq .shp m.d.plan.shapes::zi m.d.plan.root::zi m.d.plan.deep::zi m.d.plan.most::zi m.d.mode:: .seq .lev m.d.stack:: .int .u64 z9.1.bits::zi z9.1.have_::zi z37::z3)] [] (.v z51) [])∧(z43=true→(Fun Tryz.prog 219 z36 z12 (.tup []) z15)∧z32= .tup []∧z18=z7)∧(z43=false→(z33=true→(z34=true→(Fun Tryz.prog 219 z36 z12 (.tup []) z15)∧z32= .tup []∧z18=z7)∧z41)∧z42))∧(z40=false→(z33=true→(z34=true→(Fun Tryz.prog 219 z36 z12 (.tup []) z15)∧z32= .tup []∧z18=z7)∧z41)∧z42))∧(z46=false→(z47=true)∧(Fun Tryz.prog 229 z39 z29 (.tup []) z24)∧z32= .tup []∧(z24:List Blk)=z7)))∧(z47=false→(z48=true→(Fun Tryz.prog 228 [.agg z65,vI b] [] (.tup [.agg z62,vI z9.2]) [])∧(z45=true→(Fun Tryz.prog 219 z64 z23 (.tup []) z31)∧z32= .tup []∧z38=z7)∧(z45=false→(z46=true→(z40=true→(Fun Tryz.prog 179 [.agg (.seq .shp m.d.plan.shapes::zi m.d.plan.root::zi m.d.plan.deep::zi m.d.plan.most::zi m.d.mode:: .seq .lev m.d.stack:: .int .u64 z9.1.bits::zi z9.1.have_::zi z37::z3)] [] (.v z51) [])∧(z43=true→(Fun Tryz.prog 219 z36 z12 (.tup []) z15)∧z32= .tup []∧z18=z7)∧(z43=false→(z33=true→(z34=true→(Fun Tryz.prog 219 z36 z12 (.tup []) z15)∧z32= .tup []∧z18=z7)∧z41)∧z42))∧(z40=false→(z33=true→(z34=true→(Fun Tryz.prog 219 z36 z12 (.tup []) z15)∧z32= .tup []∧z18=z7)∧z41)∧z42))∧(z46=false→(z47=false)∧(z48=true)∧(Fun Tryz.prog 230 z39 z29 (.tup []) z27)∧z32= .tup []∧(z27:List Blk)=z7)))∧(z48=false→(z57=true→(Fun Tryz.prog 228 [.agg z65,vI b] [] (.tup [.agg z62,vI z9.2]) [])∧(z45=true→(Fun Tryz.prog 219 z64 z23 (.tup []) z31)∧z32= .tup []∧z38=z7)∧(z45=false→(z46=true→(z40=true→(Fun Tryz.prog 179 [.agg (.seq .shp m.d.plan.shapes::zi m.d.plan.root::zi m.d.plan.deep::zi m.d.plan.most::zi m.d.mode:: .seq .lev m.d.stack:: .int .u64 z9.1.bits::zi z9.1.have_::zi z37::z3)] [] (.v z51) [])∧(z43=true→(Fun Tryz.prog 219 z36 z12 (.tup []) z15)∧z32= .tup []∧z18=z7)∧(z43=false→(z33=true→(z34=true→(Fun Tryz.prog 219 z36 z12 (.tup []) z15)∧z32= .tup []∧z18=z7)∧z41)∧z42))∧(z40=false→(z33=true→(z34=true→(Fun Tryz.prog 219 z36 z12 (.tup []) z15)∧z32= .tup []∧z18=z7)∧z41)∧z42))∧(z46=false→(z47=false)∧(z48=false)∧(z57=true)∧(Fun Tryz.prog 231 z39 z29 (.tup []) z25)∧z32= .tup []∧(z25:List Blk)=z7)))∧(z57=false→(Fun Tryz.prog 228 [.agg z65,vI b] [] (.tup [.agg z62,vI z9.2]) [])∧(z45=true→(Fun Tryz.prog 219 z64 z61 (.tup []) z22)∧z32= .tup []∧z44=z7)∧(z45=false→(z46=true→(z40=true→(Fun Tryz.prog 179 [.agg (.seq .shp m.d.plan.shapes::zi m.d.plan.root::zi m.d.plan.deep::zi m.d.plan.most::zi m.d.mode:: .seq .lev m.d.stack:: .int .u64 z9.1.bits::zi z9.1.have_::zi m.d.start::z3)] [] (.v z51) [])∧(z43=true→(Fun Tryz.prog 219 z36 z16 (.tup []) z17)∧z32= .tup []∧z21=z7)∧(z43=false→(z33=true→(z34=true→(Fun Tryz.prog 219 z36 z16 (.tup []) z17)∧z32= .tup []∧z21=z7)∧z49)∧z50))∧(z40=false→(z33=true→(z34=true→(Fun Tryz.prog 219 z36 z16 (.tup []) z17)∧z32= .tup []∧z21=z7)∧z49)∧z50))∧(z46=false→(z47=false)∧(z48=false)∧(z57=false)∧(Fun Tryz.prog 227 z39 z19 (.tup []) z35)∧(Fun Tryz.prog 199 [vP 0] z59 (.tup []) z20)∧z32= .tup []∧(z20:List Blk)=z7))))))∧((decide (m.d.scan.have_=0))=false→(Fun Tryz.prog 228 [.agg z65,vI b] [] (.tup [.agg z62,vI z9.2]) [])∧(z45=true→(Fun Tryz.prog 219 z64 z61 (.tup []) z22)∧z32= .tup []∧z44=z7)∧(z45=false→(z46=true→(z40=true→(Fun Tryz.prog 179 [.agg (.seq .shp m.d.plan.shapes::zi m.d.plan.root::zi m.d.plan.deep::zi m.d.plan.most::zi m.d.mode:: .seq .lev m.d.stack:: .int .u64 z9.1.bits::zi z9.1.have_::zi m.d.start::z3)] [] (.v z51) [])∧(z43=true→(Fun Tryz.prog 219 z36 z16 (.tup []) z17)∧z32= .tup []∧z21=z7)∧(z43=false→(z33=true→(z34=true→(Fun Tryz.prog 219 z36 z16 (.tup []) z17)∧z32= .tup []∧z21=z7)∧z49)∧z50))∧(z40=false→(z33=true→(z34=true→(Fun Tryz.prog 219 z36 z16 (.tup []) z17)∧z32= .tup []∧z21=z7)∧z49)∧z50))∧(z46=false→(z47=true→(Fun Tryz.prog 229 z39 z19 (.tup []) z26)∧z32= .tup []∧(z26:List Blk)=z7)∧(z47=false→(z48=true→(Fun Tryz.prog 230 z39 z19 (.tup []) z30)∧z32= .tup []∧(z30:List Blk)=z7)∧(z48=false→(z57=true→(Fun Tryz.prog 231 z39 z19 (.tup []) z28)∧z32= .tup []∧(z28:List Blk)=z7)∧(z57=false→(Fun Tryz.prog 227 z39 z19 (.tup []) z35)∧(Fun Tryz.prog 199 [vP 0] z59 (.tup []) z20)∧z32= .tup []∧(z20:List Blk)=z7)))))))) (by kernel_rfl) ?_
 refine⟨(Ah (by omega) (by omega)),dsp (fun h1 p1=>?_) fun h1 p1=>?_⟩
 refine dsp (fun h2 p2=>?_) fun h2 p2=>?_
 refine⟨(K8 m.d.scan _ (by omega)),dsp (fun h3 p3=>?_) fun h3 p3=>?_⟩
 refine⟨(B2 (⟨(⟨m.d.plan,m.d.mode,m.d.stack,m.d.scan,m.d.at_-1,m.d.at_,m.d.field,m.d.wire,m.d.want,m.d.utf,m.d.end_⟩:Dcd),m.out⟩:Mac) _ _ (by first|omega|rfl|(dsimp only;omega))),?_⟩
 refine have hm1:Bf m b ((m).d.at_-1)=(As (⟨(⟨m.d.plan,m.d.mode,m.d.stack,m.d.scan,m.d.at_-1,m.d.at_,m.d.field,m.d.wire,m.d.want,m.d.utf,m.d.end_⟩:Dcd),m.out⟩:Mac) 1 (m.d.at_-1)):=?_;?_
 rotate_left
 exact⟨rfl,(by rw[hm1]<;>rfl)⟩
 refine dsp (fun h4 p4=>?_) fun h4 p4=>?_
 refine⟨fun h5=>have q5:=Am h5;have p5:=of_decide_eq_false q5;?_,fun h5=>have q5:=Aj h5;have p5:=of_decide_eq_true q5;?_⟩
 refine⟨(Dz (⟨m.d.plan,m.d.mode,m.d.stack,(Ae m.d.scan b).1,m.d.at_-1,m.d.at_,m.d.field,m.d.wire,m.d.want,m.d.utf,m.d.end_⟩:Dcd) (by first|omega|rfl|(dsimp only;omega))),dsp (fun h6 p6=>?_) fun h6 p6=>?_⟩
 refine⟨(B2 (⟨(⟨m.d.plan,m.d.mode,m.d.stack,(Ae m.d.scan b).1,m.d.at_-1,m.d.at_,m.d.field,m.d.wire,m.d.want,m.d.utf,m.d.end_⟩:Dcd),m.out⟩:Mac) _ _ (by first|omega|rfl|(dsimp only;omega))),?_⟩
 refine have hm1:Bf m b ((m).d.at_-1)=(As (⟨(⟨m.d.plan,m.d.mode,m.d.stack,(Ae m.d.scan b).1,m.d.at_-1,m.d.at_,m.d.field,m.d.wire,m.d.want,m.d.utf,m.d.end_⟩:Dcd),m.out⟩:Mac) 9 m.d.at_):=?_;?_
 rotate_left
 exact⟨rfl,(by rw[hm1]<;>rfl)⟩
 refine dsp (fun h7 p7=>?_) fun h7 p7=>?_
 refine dsp (fun h8 p8=>?_) fun h8 p8=>?_
 refine⟨(B2 (⟨(⟨m.d.plan,m.d.mode,m.d.stack,(Ae m.d.scan b).1,m.d.at_-1,m.d.at_,m.d.field,m.d.wire,m.d.want,m.d.utf,m.d.end_⟩:Dcd),m.out⟩:Mac) _ _ (by first|omega|rfl|(dsimp only;omega))),?_⟩
 refine have hm1:Bf m b ((m).d.at_-1)=(As (⟨(⟨m.d.plan,m.d.mode,m.d.stack,(Ae m.d.scan b).1,m.d.at_-1,m.d.at_,m.d.field,m.d.wire,m.d.want,m.d.utf,m.d.end_⟩:Dcd),m.out⟩:Mac) 9 m.d.at_):=?_;?_
 rotate_left
 exact⟨rfl,(by rw[hm1]<;>rfl)⟩
 refine have hm1:Bf m b ((m).d.at_-1)=(⟨(⟨m.d.plan,m.d.mode,m.d.stack,(Ae m.d.scan b).1,m.d.at_-1,m.d.at_,m.d.field,m.d.wire,m.d.want,m.d.utf,m.d.end_⟩:Dcd),m.out⟩:Mac):=?_;?_
 rotate_left
 exact⟨rfl,(by rw[hm1]<;>rfl)⟩
 refine have hm1:Bf m b ((m).d.at_-1)=(⟨(⟨m.d.plan,m.d.mode,m.d.stack,(Ae m.d.scan b).1,m.d.at_-1,m.d.at_,m.d.field,m.d.wire,m.d.want,m.d.utf,m.d.end_⟩:Dcd),m.out⟩:Mac):=?_;?_
 rotate_left
 exact⟨rfl,(by rw[hm1]<;>rfl)⟩
 refine dsp (fun h6 p6=>?_) fun h6 p6=>?_
 refine dsp (fun h7 p7=>?_) fun h7 p7=>?_
 refine⟨(B2 (⟨(⟨m.d.plan,m.d.mode,m.d.stack,(Ae m.d.scan b).1,m.d.at_-1,m.d.at_,m.d.field,m.d.wire,m.d.want,m.d.utf,m.d.end_⟩:Dcd),m.out⟩:Mac) _ _ (by first|omega|rfl|(dsimp only;omega))),?_⟩
 refine have hm1:Bf m b ((m).d.at_-1)=(As (⟨(⟨m.d.plan,m.d.mode,m.d.stack,(Ae m.d.scan b).1,m.d.at_-1,m.d.at_,m.d.field,m.d.wire,m.d.want,m.d.utf,m.d.end_⟩:Dcd),m.out⟩:Mac) 9 m.d.at_):=?_;?_
 rotate_left
 exact⟨rfl,(by rw[hm1]<;>rfl)⟩
 refine have hm1:Bf m b ((m).d.at_-1)=(⟨(⟨m.d.plan,m.d.mode,m.d.stack,(Ae m.d.scan b).1,m.d.at_-1,m.d.at_,m.d.field,m.d.wire,m.d.want,m.d.utf,m.d.end_⟩:Dcd),m.out⟩:Mac):=?_;?_
 rotate_left
 exact⟨rfl,(by rw[hm1]<;>rfl)⟩
 refine have hm1:Bf m b ((m).d.at_-1)=(⟨(⟨m.d.plan,m.d.mode,m.d.stack,(Ae m.d.scan b).1,m.d.at_-1,m.d.at_,m.d.field,m.d.wire,m.d.want,m.d.utf,m.d.end_⟩:Dcd),m.out⟩:Mac):=?_;?_
 rotate_left
 exact⟨rfl,(by rw[hm1]<;>rfl)⟩
 refine⟨h2,(Aec (⟨(⟨m.d.plan,m.d.mode,m.d.stack,(⟨0,0⟩:Scn),m.d.at_-1,m.d.at_,m.d.field,m.d.wire,m.d.want,m.d.utf,m.d.end_⟩:Dcd),m.out⟩:Mac) _ ((by first|(exact hp1.lv)|(exact Ao hp1.lv rfl rfl))) (by first|omega|rfl|(dsimp only;omega)) (by omega)),?_⟩
 refine have hm1:Bf m b ((m).d.at_-1)=(Cj (⟨(⟨m.d.plan,m.d.mode,m.d.stack,(⟨0,0⟩:Scn),m.d.at_-1,m.d.at_,m.d.field,m.d.wire,m.d.want,m.d.utf,m.d.end_⟩:Dcd),m.out⟩:Mac) (Ae m.d.scan b).1.bits):=?_;?_
 rotate_left
 exact⟨rfl,(by rw[hm1]<;>rfl)⟩
 refine dsp (fun h3 p3=>?_) fun h3 p3=>?_
 refine⟨(K8 m.d.scan _ (by omega)),dsp (fun h4 p4=>?_) fun h4 p4=>?_⟩
 refine⟨(B2 (⟨(⟨m.d.plan,m.d.mode,m.d.stack,m.d.scan,m.d.at_-1,m.d.at_,m.d.field,m.d.wire,m.d.want,m.d.utf,m.d.end_⟩:Dcd),m.out⟩:Mac) _ _ (by first|omega|rfl|(dsimp only;omega))),?_⟩
 refine have hm1:Bf m b ((m).d.at_-1)=(As (⟨(⟨m.d.plan,m.d.mode,m.d.stack,m.d.scan,m.d.at_-1,m.d.at_,m.d.field,m.d.wire,m.d.want,m.d.utf,m.d.end_⟩:Dcd),m.out⟩:Mac) 1 (m.d.at_-1)):=?_;?_
 rotate_left
 exact⟨rfl,(by rw[hm1]<;>rfl)⟩
 refine dsp (fun h5 p5=>?_) fun h5 p5=>?_
 refine⟨fun h6=>have q6:=Am h6;have p6:=of_decide_eq_false q6;?_,fun h6=>have q6:=Aj h6;have p6:=of_decide_eq_true q6;?_⟩
 refine⟨(Dz (⟨m.d.plan,m.d.mode,m.d.stack,(Ae m.d.scan b).1,m.d.at_-1,m.d.at_,m.d.field,m.d.wire,m.d.want,m.d.utf,m.d.end_⟩:Dcd) (by first|omega|rfl|(dsimp only;omega))),dsp (fun h7 p7=>?_) fun h7 p7=>?_⟩
 refine⟨(B2 (⟨(⟨m.d.plan,m.d.mode,m.d.stack,(Ae m.d.scan b).1,m.d.at_-1,m.d.at_,m.d.field,m.d.wire,m.d.want,m.d.utf,m.d.end_⟩:Dcd),m.out⟩:Mac) _ _ (by first|omega|rfl|(dsimp only;omega))),?_⟩
 refine have hm1:Bf m b ((m).d.at_-1)=(As (⟨(⟨m.d.plan,m.d.mode,m.d.stack,(Ae m.d.scan b).1,m.d.at_-1,m.d.at_,m.d.field,m.d.wire,m.d.want,m.d.utf,m.d.end_⟩:Dcd),m.out⟩:Mac) 9 m.d.at_):=?_;?_
 rotate_left
 exact⟨rfl,(by rw[hm1]<;>rfl)⟩
 refine dsp (fun h8 p8=>?_) fun h8 p8=>?_
 refine dsp (fun h9 p9=>?_) fun h9 p9=>?_
 refine⟨(B2 (⟨(⟨m.d.plan,m.d.mode,m.d.stack,(Ae m.d.scan b).1,m.d.at_-1,m.d.at_,m.d.field,m.d.wire,m.d.want,m.d.utf,m.d.end_⟩:Dcd),m.out⟩:Mac) _ _ (by first|omega|rfl|(dsimp only;omega))),?_⟩
 refine have hm1:Bf m b ((m).d.at_-1)=(As (⟨(⟨m.d.plan,m.d.mode,m.d.stack,(Ae m.d.scan b).1,m.d.at_-1,m.d.at_,m.d.field,m.d.wire,m.d.want,m.d.utf,m.d.end_⟩:Dcd),m.out⟩:Mac) 9 m.d.at_):=?_;?_
 rotate_left
 exact⟨rfl,(by rw[hm1]<;>rfl)⟩
 refine have hm1:Bf m b ((m).d.at_-1)=(⟨(⟨m.d.plan,m.d.mode,m.d.stack,(Ae m.d.scan b).1,m.d.at_-1,m.d.at_,m.d.field,m.d.wire,m.d.want,m.d.utf,m.d.end_⟩:Dcd),m.out⟩:Mac):=?_;?_
 rotate_left
 exact⟨rfl,(by rw[hm1]<;>rfl)⟩
 refine have hm1:Bf m b ((m).d.at_-1)=(⟨(⟨m.d.plan,m.d.mode,m.d.stack,(Ae m.d.scan b).1,m.d.at_-1,m.d.at_,m.d.field,m.d.wire,m.d.want,m.d.utf,m.d.end_⟩:Dcd),m.out⟩:Mac):=?_;?_
 rotate_left
 exact⟨rfl,(by rw[hm1]<;>rfl)⟩
 refine dsp (fun h7 p7=>?_) fun h7 p7=>?_
 refine dsp (fun h8 p8=>?_) fun h8 p8=>?_
 refine⟨(B2 (⟨(⟨m.d.plan,m.d.mode,m.d.stack,(Ae m.d.scan b).1,m.d.at_-1,m.d.at_,m.d.field,m.d.wire,m.d.want,m.d.utf,m.d.end_⟩:Dcd),m.out⟩:Mac) _ _ (by first|omega|rfl|(dsimp only;omega))),?_⟩
 refine have hm1:Bf m b ((m).d.at_-1)=(As (⟨(⟨m.d.plan,m.d.mode,m.d.stack,(Ae m.d.scan b).1,m.d.at_-1,m.d.at_,m.d.field,m.d.wire,m.d.want,m.d.utf,m.d.end_⟩:Dcd),m.out⟩:Mac) 9 m.d.at_):=?_;?_
 rotate_left
 exact⟨rfl,(by rw[hm1]<;>rfl)⟩
 refine have hm1:Bf m b ((m).d.at_-1)=(⟨(⟨m.d.plan,m.d.mode,m.d.stack,(Ae m.d.scan b).1,m.d.at_-1,m.d.at_,m.d.field,m.d.wire,m.d.want,m.d.utf,m.d.end_⟩:Dcd),m.out⟩:Mac):=?_;?_
 rotate_left
 exact⟨rfl,(by rw[hm1]<;>rfl)⟩
 refine have hm1:Bf m b ((m).d.at_-1)=(⟨(⟨m.d.plan,m.d.mode,m.d.stack,(Ae m.d.scan b).1,m.d.at_-1,m.d.at_,m.d.field,m.d.wire,m.d.want,m.d.utf,m.d.end_⟩:Dcd),m.out⟩:Mac):=?_;?_
 rotate_left
 exact⟨rfl,(by rw[hm1]<;>rfl)⟩
 refine⟨h2,h3,(Ai4 (⟨(⟨m.d.plan,m.d.mode,m.d.stack,(⟨0,0⟩:Scn),m.d.at_-1,m.d.at_,m.d.field,m.d.wire,m.d.want,m.d.utf,m.d.end_⟩:Dcd),m.out⟩:Mac) _ ((by first|(exact hp1.lv)|(exact Ao hp1.lv rfl rfl))) (by first|omega|rfl|(dsimp only;omega)) (by omega)),?_⟩
 refine have hm1:Bf m b ((m).d.at_-1)=(D5 (⟨(⟨m.d.plan,m.d.mode,m.d.stack,(⟨0,0⟩:Scn),m.d.at_-1,m.d.at_,m.d.field,m.d.wire,m.d.want,m.d.utf,m.d.end_⟩:Dcd),m.out⟩:Mac) (Ae m.d.scan b).1.bits):=?_;?_
 rotate_left
 exact⟨rfl,(by rw[hm1]<;>rfl)⟩
 refine dsp (fun h4 p4=>?_) fun h4 p4=>?_
 refine⟨(K8 m.d.scan _ (by omega)),dsp (fun h5 p5=>?_) fun h5 p5=>?_⟩
 refine⟨(B2 (⟨(⟨m.d.plan,m.d.mode,m.d.stack,m.d.scan,m.d.at_-1,m.d.at_,m.d.field,m.d.wire,m.d.want,m.d.utf,m.d.end_⟩:Dcd),m.out⟩:Mac) _ _ (by first|omega|rfl|(dsimp only;omega))),?_⟩
 refine have hm1:Bf m b ((m).d.at_-1)=(As (⟨(⟨m.d.plan,m.d.mode,m.d.stack,m.d.scan,m.d.at_-1,m.d.at_,m.d.field,m.d.wire,m.d.want,m.d.utf,m.d.end_⟩:Dcd),m.out⟩:Mac) 1 (m.d.at_-1)):=?_;?_
 rotate_left
 exact⟨rfl,(by rw[hm1]<;>rfl)⟩
 refine dsp (fun h6 p6=>?_) fun h6 p6=>?_
 refine⟨fun h7=>have q7:=Am h7;have p7:=of_decide_eq_false q7;?_,fun h7=>have q7:=Aj h7;have p7:=of_decide_eq_true q7;?_⟩
 refine⟨(Dz (⟨m.d.plan,m.d.mode,m.d.stack,(Ae m.d.scan b).1,m.d.at_-1,m.d.at_,m.d.field,m.d.wire,m.d.want,m.d.utf,m.d.end_⟩:Dcd) (by first|omega|rfl|(dsimp only;omega))),dsp (fun h8 p8=>?_) fun h8 p8=>?_⟩
 refine⟨(B2 (⟨(⟨m.d.plan,m.d.mode,m.d.stack,(Ae m.d.scan b).1,m.d.at_-1,m.d.at_,m.d.field,m.d.wire,m.d.want,m.d.utf,m.d.end_⟩:Dcd),m.out⟩:Mac) _ _ (by first|omega|rfl|(dsimp only;omega))),?_⟩
 refine have hm1:Bf m b ((m).d.at_-1)=(As (⟨(⟨m.d.plan,m.d.mode,m.d.stack,(Ae m.d.scan b).1,m.d.at_-1,m.d.at_,m.d.field,m.d.wire,m.d.want,m.d.utf,m.d.end_⟩:Dcd),m.out⟩:Mac) 9 m.d.at_):=?_;?_
 rotate_left
 exact⟨rfl,(by rw[hm1]<;>rfl)⟩
 refine dsp (fun h9 p9=>?_) fun h9 p9=>?_
 refine dsp (fun h10 p10=>?_) fun h10 p10=>?_
 refine⟨(B2 (⟨(⟨m.d.plan,m.d.mode,m.d.stack,(Ae m.d.scan b).1,m.d.at_-1,m.d.at_,m.d.field,m.d.wire,m.d.want,m.d.utf,m.d.end_⟩:Dcd),m.out⟩:Mac) _ _ (by first|omega|rfl|(dsimp only;omega))),?_⟩
 refine have hm1:Bf m b ((m).d.at_-1)=(As (⟨(⟨m.d.plan,m.d.mode,m.d.stack,(Ae m.d.scan b).1,m.d.at_-1,m.d.at_,m.d.field,m.d.wire,m.d.want,m.d.utf,m.d.end_⟩:Dcd),m.out⟩:Mac) 9 m.d.at_):=?_;?_
 rotate_left
 exact⟨rfl,(by rw[hm1]<;>rfl)⟩
 refine have hm1:Bf m b ((m).d.at_-1)=(⟨(⟨m.d.plan,m.d.mode,m.d.stack,(Ae m.d.scan b).1,m.d.at_-1,m.d.at_,m.d.field,m.d.wire,m.d.want,m.d.utf,m.d.end_⟩:Dcd),m.out⟩:Mac):=?_;?_
 rotate_left
 exact⟨rfl,(by rw[hm1]<;>rfl)⟩
 refine have hm1:Bf m b ((m).d.at_-1)=(⟨(⟨m.d.plan,m.d.mode,m.d.stack,(Ae m.d.scan b).1,m.d.at_-1,m.d.at_,m.d.field,m.d.wire,m.d.want,m.d.utf,m.d.end_⟩:Dcd),m.out⟩:Mac):=?_;?_
 rotate_left
 exact⟨rfl,(by rw[hm1]<;>rfl)⟩
 refine dsp (fun h8 p8=>?_) fun h8 p8=>?_
 refine dsp (fun h9 p9=>?_) fun h9 p9=>?_
 refine⟨(B2 (⟨(⟨m.d.plan,m.d.mode,m.d.stack,(Ae m.d.scan b).1,m.d.at_-1,m.d.at_,m.d.field,m.d.wire,m.d.want,m.d.utf,m.d.end_⟩:Dcd),m.out⟩:Mac) _ _ (by first|omega|rfl|(dsimp only;omega))),?_⟩
 refine have hm1:Bf m b ((m).d.at_-1)=(As (⟨(⟨m.d.plan,m.d.mode,m.d.stack,(Ae m.d.scan b).1,m.d.at_-1,m.d.at_,m.d.field,m.d.wire,m.d.want,m.d.utf,m.d.end_⟩:Dcd),m.out⟩:Mac) 9 m.d.at_):=?_;?_
 rotate_left
 exact⟨rfl,(by rw[hm1]<;>rfl)⟩
 refine have hm1:Bf m b ((m).d.at_-1)=(⟨(⟨m.d.plan,m.d.mode,m.d.stack,(Ae m.d.scan b).1,m.d.at_-1,m.d.at_,m.d.field,m.d.wire,m.d.want,m.d.utf,m.d.end_⟩:Dcd),m.out⟩:Mac):=?_;?_
 rotate_left
 exact⟨rfl,(by rw[hm1]<;>rfl)⟩
 refine have hm1:Bf m b ((m).d.at_-1)=(⟨(⟨m.d.plan,m.d.mode,m.d.stack,(Ae m.d.scan b).1,m.d.at_-1,m.d.at_,m.d.field,m.d.wire,m.d.want,m.d.utf,m.d.end_⟩:Dcd),m.out⟩:Mac):=?_;?_
 rotate_left
 exact⟨rfl,(by rw[hm1]<;>rfl)⟩
 refine⟨h2,h3,h4,(Ag5 (⟨(⟨m.d.plan,m.d.mode,m.d.stack,(⟨0,0⟩:Scn),m.d.at_-1,m.d.at_,m.d.field,m.d.wire,m.d.want,m.d.utf,m.d.end_⟩:Dcd),m.out⟩:Mac) _ ((by first|(exact hp1.lv)|(exact Ao hp1.lv rfl rfl))) (by first|omega|rfl|(dsimp only;omega)) (by omega) (hp1.kn)),?_⟩
 refine have hm1:Bf m b ((m).d.at_-1)=(Cb (⟨(⟨m.d.plan,m.d.mode,m.d.stack,(⟨0,0⟩:Scn),m.d.at_-1,m.d.at_,m.d.field,m.d.wire,m.d.want,m.d.utf,m.d.end_⟩:Dcd),m.out⟩:Mac) (Ae m.d.scan b).1.bits):=?_;?_
 rotate_left
 exact⟨rfl,(by rw[hm1]<;>rfl)⟩
 refine⟨(K8 m.d.scan _ (by omega)),dsp (fun h5 p5=>?_) fun h5 p5=>?_⟩
 refine⟨(B2 m _ _ (by omega)),?_⟩
 refine have hm1:Bf m b ((m).d.at_-1)=(As m 1 (m.d.at_-1)):=?_;?_
 rotate_left
 exact⟨rfl,(by rw[hm1]<;>rfl)⟩
 refine dsp (fun h6 p6=>?_) fun h6 p6=>?_
 refine⟨fun h7=>have q7:=Am h7;have p7:=of_decide_eq_false q7;?_,fun h7=>have q7:=Aj h7;have p7:=of_decide_eq_true q7;?_⟩
 refine⟨(Dz (⟨m.d.plan,m.d.mode,m.d.stack,(Ae m.d.scan b).1,m.d.start,m.d.at_,m.d.field,m.d.wire,m.d.want,m.d.utf,m.d.end_⟩:Dcd) (by first|omega|rfl|(dsimp only;omega))),dsp (fun h8 p8=>?_) fun h8 p8=>?_⟩
 refine⟨(B2 (⟨(⟨m.d.plan,m.d.mode,m.d.stack,(Ae m.d.scan b).1,m.d.start,m.d.at_,m.d.field,m.d.wire,m.d.want,m.d.utf,m.d.end_⟩:Dcd),m.out⟩:Mac) _ _ (by first|omega|rfl|(dsimp only;omega))),?_⟩
 refine have hm1:Bf m b ((m).d.at_-1)=(As (⟨(⟨m.d.plan,m.d.mode,m.d.stack,(Ae m.d.scan b).1,m.d.start,m.d.at_,m.d.field,m.d.wire,m.d.want,m.d.utf,m.d.end_⟩:Dcd),m.out⟩:Mac) 9 m.d.at_):=?_;?_
 rotate_left
 exact⟨rfl,(by rw[hm1]<;>rfl)⟩
 refine dsp (fun h9 p9=>?_) fun h9 p9=>?_
 refine dsp (fun h10 p10=>?_) fun h10 p10=>?_
 refine⟨(B2 (⟨(⟨m.d.plan,m.d.mode,m.d.stack,(Ae m.d.scan b).1,m.d.start,m.d.at_,m.d.field,m.d.wire,m.d.want,m.d.utf,m.d.end_⟩:Dcd),m.out⟩:Mac) _ _ (by first|omega|rfl|(dsimp only;omega))),?_⟩
 refine have hm1:Bf m b ((m).d.at_-1)=(As (⟨(⟨m.d.plan,m.d.mode,m.d.stack,(Ae m.d.scan b).1,m.d.start,m.d.at_,m.d.field,m.d.wire,m.d.want,m.d.utf,m.d.end_⟩:Dcd),m.out⟩:Mac) 9 m.d.at_):=?_;?_
 rotate_left
 exact⟨rfl,(by rw[hm1]<;>rfl)⟩
 refine have hm1:Bf m b ((m).d.at_-1)=(⟨(⟨m.d.plan,m.d.mode,m.d.stack,(Ae m.d.scan b).1,m.d.start,m.d.at_,m.d.field,m.d.wire,m.d.want,m.d.utf,m.d.end_⟩:Dcd),m.out⟩:Mac):=?_;?_
 rotate_left
 exact⟨rfl,(by rw[hm1]<;>rfl)⟩
 refine have hm1:Bf m b ((m).d.at_-1)=(⟨(⟨m.d.plan,m.d.mode,m.d.stack,(Ae m.d.scan b).1,m.d.start,m.d.at_,m.d.field,m.d.wire,m.d.want,m.d.utf,m.d.end_⟩:Dcd),m.out⟩:Mac):=?_;?_
 rotate_left
 exact⟨rfl,(by rw[hm1]<;>rfl)⟩
 refine dsp (fun h8 p8=>?_) fun h8 p8=>?_
 refine dsp (fun h9 p9=>?_) fun h9 p9=>?_
 refine⟨(B2 (⟨(⟨m.d.plan,m.d.mode,m.d.stack,(Ae m.d.scan b).1,m.d.start,m.d.at_,m.d.field,m.d.wire,m.d.want,m.d.utf,m.d.end_⟩:Dcd),m.out⟩:Mac) _ _ (by first|omega|rfl|(dsimp only;omega))),?_⟩
 refine have hm1:Bf m b ((m).d.at_-1)=(As (⟨(⟨m.d.plan,m.d.mode,m.d.stack,(Ae m.d.scan b).1,m.d.start,m.d.at_,m.d.field,m.d.wire,m.d.want,m.d.utf,m.d.end_⟩:Dcd),m.out⟩:Mac) 9 m.d.at_):=?_;?_
 rotate_left
 exact⟨rfl,(by rw[hm1]<;>rfl)⟩
 refine have hm1:Bf m b ((m).d.at_-1)=(⟨(⟨m.d.plan,m.d.mode,m.d.stack,(Ae m.d.scan b).1,m.d.start,m.d.at_,m.d.field,m.d.wire,m.d.want,m.d.utf,m.d.end_⟩:Dcd),m.out⟩:Mac):=?_;?_
 rotate_left
 exact⟨rfl,(by rw[hm1]<;>rfl)⟩
 refine have hm1:Bf m b ((m).d.at_-1)=(⟨(⟨m.d.plan,m.d.mode,m.d.stack,(Ae m.d.scan b).1,m.d.start,m.d.at_,m.d.field,m.d.wire,m.d.want,m.d.utf,m.d.end_⟩:Dcd),m.out⟩:Mac):=?_;?_
 rotate_left
 exact⟨rfl,(by rw[hm1]<;>rfl)⟩
 refine⟨h2,h3,h4,(Zg (⟨(⟨m.d.plan,m.d.mode,m.d.stack,(⟨0,0⟩:Scn),m.d.start,m.d.at_,m.d.field,m.d.wire,m.d.want,m.d.utf,m.d.end_⟩:Dcd),m.out⟩:Mac) _ (by first|omega|rfl|(dsimp only;omega)) (by omega)),(D3 (Ba (⟨(⟨m.d.plan,m.d.mode,m.d.stack,(⟨0,0⟩:Scn),m.d.start,m.d.at_,m.d.field,m.d.wire,m.d.want,m.d.utf,m.d.end_⟩:Dcd),m.out⟩:Mac) (Ae m.d.scan b).1.bits) ((by first|(exact hp1.lv)|(exact Ao hp1.lv rfl rfl))) (Nat.le_trans (Fe _ _) (by first|omega|(dsimp only;omega)))),?_⟩
 refine have hm1:Bf m b ((m).d.at_-1)=(Ad (Ba (⟨(⟨m.d.plan,m.d.mode,m.d.stack,(⟨0,0⟩:Scn),m.d.start,m.d.at_,m.d.field,m.d.wire,m.d.want,m.d.utf,m.d.end_⟩:Dcd),m.out⟩:Mac) (Ae m.d.scan b).1.bits)):=?_;?_
 rotate_left
 exact⟨rfl,(by rw[hm1]<;>rfl)⟩
 refine⟨(K8 m.d.scan _ (by omega)),dsp (fun h2 p2=>?_) fun h2 p2=>?_⟩
 refine⟨(B2 m _ _ (by omega)),?_⟩
 refine have hm1:Bf m b ((m).d.at_-1)=(As m 1 (m.d.at_-1)):=?_;?_
 rotate_left
 exact⟨rfl,(by rw[hm1]<;>rfl)⟩
 refine dsp (fun h3 p3=>?_) fun h3 p3=>?_
 refine⟨fun h4=>have q4:=Am h4;have p4:=of_decide_eq_false q4;?_,fun h4=>have q4:=Aj h4;have p4:=of_decide_eq_true q4;?_⟩
 refine⟨(Dz (⟨m.d.plan,m.d.mode,m.d.stack,(Ae m.d.scan b).1,m.d.start,m.d.at_,m.d.field,m.d.wire,m.d.want,m.d.utf,m.d.end_⟩:Dcd) (by first|omega|rfl|(dsimp only;omega))),dsp (fun h5 p5=>?_) fun h5 p5=>?_⟩
 refine⟨(B2 (⟨(⟨m.d.plan,m.d.mode,m.d.stack,(Ae m.d.scan b).1,m.d.start,m.d.at_,m.d.field,m.d.wire,m.d.want,m.d.utf,m.d.end_⟩:Dcd),m.out⟩:Mac) _ _ (by first|omega|rfl|(dsimp only;omega))),?_⟩
 refine have hm1:Bf m b ((m).d.at_-1)=(As (⟨(⟨m.d.plan,m.d.mode,m.d.stack,(Ae m.d.scan b).1,m.d.start,m.d.at_,m.d.field,m.d.wire,m.d.want,m.d.utf,m.d.end_⟩:Dcd),m.out⟩:Mac) 9 m.d.at_):=?_;?_
 rotate_left
 exact⟨rfl,(by rw[hm1]<;>rfl)⟩
 refine dsp (fun h6 p6=>?_) fun h6 p6=>?_
 refine dsp (fun h7 p7=>?_) fun h7 p7=>?_
 refine⟨(B2 (⟨(⟨m.d.plan,m.d.mode,m.d.stack,(Ae m.d.scan b).1,m.d.start,m.d.at_,m.d.field,m.d.wire,m.d.want,m.d.utf,m.d.end_⟩:Dcd),m.out⟩:Mac) _ _ (by first|omega|rfl|(dsimp only;omega))),?_⟩
 refine have hm1:Bf m b ((m).d.at_-1)=(As (⟨(⟨m.d.plan,m.d.mode,m.d.stack,(Ae m.d.scan b).1,m.d.start,m.d.at_,m.d.field,m.d.wire,m.d.want,m.d.utf,m.d.end_⟩:Dcd),m.out⟩:Mac) 9 m.d.at_):=?_;?_
 rotate_left
 exact⟨rfl,(by rw[hm1]<;>rfl)⟩
 refine have hm1:Bf m b ((m).d.at_-1)=(⟨(⟨m.d.plan,m.d.mode,m.d.stack,(Ae m.d.scan b).1,m.d.start,m.d.at_,m.d.field,m.d.wire,m.d.want,m.d.utf,m.d.end_⟩:Dcd),m.out⟩:Mac):=?_;?_
 rotate_left
 exact⟨rfl,(by rw[hm1]<;>rfl)⟩
 refine have hm1:Bf m b ((m).d.at_-1)=(⟨(⟨m.d.plan,m.d.mode,m.d.stack,(Ae m.d.scan b).1,m.d.start,m.d.at_,m.d.field,m.d.wire,m.d.want,m.d.utf,m.d.end_⟩:Dcd),m.out⟩:Mac):=?_;?_
 rotate_left
 exact⟨rfl,(by rw[hm1]<;>rfl)⟩
 refine dsp (fun h5 p5=>?_) fun h5 p5=>?_
 refine dsp (fun h6 p6=>?_) fun h6 p6=>?_
 refine⟨(B2 (⟨(⟨m.d.plan,m.d.mode,m.d.stack,(Ae m.d.scan b).1,m.d.start,m.d.at_,m.d.field,m.d.wire,m.d.want,m.d.utf,m.d.end_⟩:Dcd),m.out⟩:Mac) _ _ (by first|omega|rfl|(dsimp only;omega))),?_⟩
 refine have hm1:Bf m b ((m).d.at_-1)=(As (⟨(⟨m.d.plan,m.d.mode,m.d.stack,(Ae m.d.scan b).1,m.d.start,m.d.at_,m.d.field,m.d.wire,m.d.want,m.d.utf,m.d.end_⟩:Dcd),m.out⟩:Mac) 9 m.d.at_):=?_;?_
 rotate_left
 exact⟨rfl,(by rw[hm1]<;>rfl)⟩
 refine have hm1:Bf m b ((m).d.at_-1)=(⟨(⟨m.d.plan,m.d.mode,m.d.stack,(Ae m.d.scan b).1,m.d.start,m.d.at_,m.d.field,m.d.wire,m.d.want,m.d.utf,m.d.end_⟩:Dcd),m.out⟩:Mac):=?_;?_
 rotate_left
 exact⟨rfl,(by rw[hm1]<;>rfl)⟩
 refine have hm1:Bf m b ((m).d.at_-1)=(⟨(⟨m.d.plan,m.d.mode,m.d.stack,(Ae m.d.scan b).1,m.d.start,m.d.at_,m.d.field,m.d.wire,m.d.want,m.d.utf,m.d.end_⟩:Dcd),m.out⟩:Mac):=?_;?_
 rotate_left
 exact⟨rfl,(by rw[hm1]<;>rfl)⟩
 refine dsp (fun h4 p4=>?_) fun h4 p4=>?_
 refine⟨(Aec (⟨(⟨m.d.plan,m.d.mode,m.d.stack,(⟨0,0⟩:Scn),m.d.start,m.d.at_,m.d.field,m.d.wire,m.d.want,m.d.utf,m.d.end_⟩:Dcd),m.out⟩:Mac) _ ((by first|(exact hp1.lv)|(exact Ao hp1.lv rfl rfl))) (by first|omega|rfl|(dsimp only;omega)) (by omega)),?_⟩
 refine have hm1:Bf m b ((m).d.at_-1)=(Cj (⟨(⟨m.d.plan,m.d.mode,m.d.stack,(⟨0,0⟩:Scn),m.d.start,m.d.at_,m.d.field,m.d.wire,m.d.want,m.d.utf,m.d.end_⟩:Dcd),m.out⟩:Mac) (Ae m.d.scan b).1.bits):=?_;?_
 rotate_left
 exact⟨rfl,(by rw[hm1]<;>rfl)⟩
 refine dsp (fun h5 p5=>?_) fun h5 p5=>?_
 refine⟨(Ai4 (⟨(⟨m.d.plan,m.d.mode,m.d.stack,(⟨0,0⟩:Scn),m.d.start,m.d.at_,m.d.field,m.d.wire,m.d.want,m.d.utf,m.d.end_⟩:Dcd),m.out⟩:Mac) _ ((by first|(exact hp1.lv)|(exact Ao hp1.lv rfl rfl))) (by first|omega|rfl|(dsimp only;omega)) (by omega)),?_⟩
 refine have hm1:Bf m b ((m).d.at_-1)=(D5 (⟨(⟨m.d.plan,m.d.mode,m.d.stack,(⟨0,0⟩:Scn),m.d.start,m.d.at_,m.d.field,m.d.wire,m.d.want,m.d.utf,m.d.end_⟩:Dcd),m.out⟩:Mac) (Ae m.d.scan b).1.bits):=?_;?_
 rotate_left
 exact⟨rfl,(by rw[hm1]<;>rfl)⟩
 refine dsp (fun h6 p6=>?_) fun h6 p6=>?_
 refine⟨(Ag5 (⟨(⟨m.d.plan,m.d.mode,m.d.stack,(⟨0,0⟩:Scn),m.d.start,m.d.at_,m.d.field,m.d.wire,m.d.want,m.d.utf,m.d.end_⟩:Dcd),m.out⟩:Mac) _ ((by first|(exact hp1.lv)|(exact Ao hp1.lv rfl rfl))) (by first|omega|rfl|(dsimp only;omega)) (by omega) (hp1.kn)),?_⟩
 refine have hm1:Bf m b ((m).d.at_-1)=(Cb (⟨(⟨m.d.plan,m.d.mode,m.d.stack,(⟨0,0⟩:Scn),m.d.start,m.d.at_,m.d.field,m.d.wire,m.d.want,m.d.utf,m.d.end_⟩:Dcd),m.out⟩:Mac) (Ae m.d.scan b).1.bits):=?_;?_
 rotate_left
 exact⟨rfl,(by rw[hm1]<;>rfl)⟩
 refine⟨(Zg (⟨(⟨m.d.plan,m.d.mode,m.d.stack,(⟨0,0⟩:Scn),m.d.start,m.d.at_,m.d.field,m.d.wire,m.d.want,m.d.utf,m.d.end_⟩:Dcd),m.out⟩:Mac) _ (by first|omega|rfl|(dsimp only;omega)) (by omega)),(D3 (Ba (⟨(⟨m.d.plan,m.d.mode,m.d.stack,(⟨0,0⟩:Scn),m.d.start,m.d.at_,m.d.field,m.d.wire,m.d.want,m.d.utf,m.d.end_⟩:Dcd),m.out⟩:Mac) (Ae m.d.scan b).1.bits) ((by first|(exact hp1.lv)|(exact Ao hp1.lv rfl rfl))) (Nat.le_trans (Fe _ _) (by first|omega|(dsimp only;omega)))),?_⟩
 refine have hm1:Bf m b ((m).d.at_-1)=(Ad (Ba (⟨(⟨m.d.plan,m.d.mode,m.d.stack,(⟨0,0⟩:Scn),m.d.start,m.d.at_,m.d.field,m.d.wire,m.d.want,m.d.utf,m.d.end_⟩:Dcd),m.out⟩:Mac) (Ae m.d.scan b).1.bits)):=?_;?_
 rotate_left
 exact⟨rfl,(by rw[hm1]<;>rfl)⟩
 all_goals first|(simp_all[Bf,K0,Hq,T0,As,Au,scn0];done)|(grind[Bf,K0,Hq,T0,As,Au,scn0])
theorem Py (m:Mac) (b:Int) (hp1:MW (m).d) (hp2:List.length (m).out≤50000000) (hp3:(0:Int)≤b∧b≤255):Fun Tryz.prog 201 [vP 0,vI b] [.cells (Ab 1 2 3 m),.tree m.d.plan.shapes,.lst .lev m.d.stack,.lst .ev m.out] (.tup []) [.cells (Ab 4 5 6 (C8 m b)),.dead,.dead,.dead,.tree (C8 m b).d.plan.shapes,.lst .lev (C8 m b).d.stack,.lst .ev (C8 m b).out]:=by
 have hN:bigN=274877906944:=rfl
 have hlv:=Bs hp1.lv
 have hpt:=By hlv.1
 have htb:=Gm hp1.lv
 have hwm:=Acc m
 have hbb:=hp1.b0
 have hat:=hp1.at_
 have hwt:=hp1.want
 have hwd:=Jf m.d
 have hfb:=W9 (b:=b) hbb
 refine Af Tryz.func201 (by kernel_rfl) (by kernel_rfl) (w:=let zi:Int→C:= .int .i64;let z3:List Blk:=[.cells (Ab 4 5 6 (C8 m b)),.dead,.dead,.dead,.tree (C8 m b).d.plan.shapes,.lst .lev (C8 m b).d.stack,.lst .ev (C8 m b).out];let z6:=Bk m.d.scan b;let z1:=Ba (⟨(⟨m.d.plan,m.d.mode,m.d.stack,(⟨0,0⟩:Scn),m.d.start,m.d.at_,m.d.field,m.d.wire,m.d.want,m.d.utf,m.d.end_⟩:Dcd),m.out⟩:Mac) z6.bits;let z2:List Blk:=[.cells (Ab 4 5 6 (Ad z1)),.dead,.dead,.dead,.tree (Ad z1).d.plan.shapes,.lst .lev (Ad z1).d.stack,.lst .ev (Ad z1).out];let z4:List Blk:=[.cells (Ab 1 2 3 z1),.tree z1.d.plan.shapes,.lst .lev z1.d.stack,.lst .ev z1.out];let z5:=As z1 9 z1.d.at_;let z7:List Blk:=[.cells (Ab 1 2 4 z1),.tree z1.d.plan.shapes,.lst .lev z1.d.stack,.dead,.lst .ev z1.out];let z8:List Blk:=[.cells (Ab 1 2 4 z5),.tree z5.d.plan.shapes,.lst .lev z5.d.stack,.dead,.lst .ev z5.out];let z9:=(.tup []:S);let z10:=decide (z1.d.want<Bd m.d);let z11:=decide (z6.have_<Bd m.d);(.seg [.ord [(0,true),(1,true),(2,true),(3,true),(5,true),(6,true),(7,true),(8,true),(9,true),(10,true),(4,false),(11,true),(12,true)] [],.call [] (.v (vI (Bd m.d))) [],.call [] (.v (.agg (J6 z6))) []] (.br (.seg [.at 0,.cut 0 0,.cut 0 5,.cut 0 27] (.leaf () [0,1,2,3,4,5,6])) (.seg [.call [0,1,2,3] (.tup []) z7] (.br (.br (.br (.seg [.call [0,1,2,4] (.tup []) z8,.at 0,.cut 0 0,.cut 0 5] (.leaf () [0,1,2,3,6,7,5])) (.seg [.call [0,1,2,4] (.tup []) z2] (.leaf () [0,1,2,3,5,6,7]))) (.seg [.call [0,1,2,4] (.tup []) z2] (.leaf () [0,1,2,3,5,6,7]))) (.seg [.call [0,1,2,4] (.tup []) z2] (.leaf () [0,1,2,3,5,6,7]))))),(Fun Tryz.prog 200 [.agg (Bi m.d)] [] (.v (vI (Bd m.d))) [])∧(Fun Tryz.prog 226 [.agg (J6 m.d.scan),vI b] [] (.v (.agg (J6 z6))) [])∧(z11=true→z9= .tup []∧([.cells [.own 4,zi m.d.plan.root,zi m.d.plan.deep,zi m.d.plan.most,zi m.d.mode,.own 5,.int .u64 z6.bits,zi z6.have_,zi m.d.start,zi m.d.at_,zi m.d.field.number,zi m.d.field.kind,.bool m.d.field.rep,.bool m.d.field.packed,zi m.d.field.msg,zi m.d.wire,zi m.d.want,zi m.d.utf.want,zi m.d.utf.low,zi m.d.utf.high,zi m.d.end_.kind,zi m.d.end_.field,.int .u64 m.d.end_.bits,zi m.d.end_.len,.str m.d.end_.text,zi m.d.end_.code,zi m.d.end_.at_,.own 6],.dead,.dead,.dead,.tree m.d.plan.shapes,.lst .lev m.d.stack,.lst .ev m.out]:List Blk)=z3)∧(z11=false→(Fun Tryz.prog 227 [vP 0,.c (.int .u64 z6.bits)] [.cells [.own 1,zi m.d.plan.root,zi m.d.plan.deep,zi m.d.plan.most,zi m.d.mode,.own 2,.int .u64 0,zi 0,zi m.d.start,zi m.d.at_,zi m.d.field.number,zi m.d.field.kind,.bool m.d.field.rep,.bool m.d.field.packed,zi m.d.field.msg,zi m.d.wire,zi m.d.want,zi m.d.utf.want,zi m.d.utf.low,zi m.d.utf.high,zi m.d.end_.kind,zi m.d.end_.field,.int .u64 m.d.end_.bits,zi m.d.end_.len,.str m.d.end_.text,zi m.d.end_.code,zi m.d.end_.at_,.own 3],.tree m.d.plan.shapes,.lst .lev m.d.stack,.lst .ev m.out] (.tup []) z7)∧((decide (m.d.mode=8))=true→((decide (0<z1.d.want))=true→(z10=true→(Fun Tryz.prog 219 [vP 0,vI 9,vI z1.d.at_] z4 (.tup []) z8)∧z9= .tup []∧([.cells (Ab 4 5 6 z5),.dead,.dead,.dead,.tree z5.d.plan.shapes,.lst .lev z5.d.stack,.lst .ev z5.out]:List Blk)=z3)∧(z10=false→(Fun Tryz.prog 199 [vP 0] z4 (.tup []) z2)∧z9= .tup []∧(z2:List Blk)=z3))∧((decide (0<z1.d.want))=false→(Fun Tryz.prog 199 [vP 0] z4 (.tup []) z2)∧z9= .tup []∧(z2:List Blk)=z3))∧((decide (m.d.mode=8))=false→(Fun Tryz.prog 199 [vP 0] z4 (.tup []) z2)∧z9= .tup []∧(z2:List Blk)=z3)))) (by kernel_rfl) ?_
 refine⟨(M1 m.d),(Aed m.d.scan _),dsp (fun h1 p1=>?_) fun h1 p1=>?_⟩
 refine have hm1:C8 m b=(⟨(⟨m.d.plan,m.d.mode,m.d.stack,(Bk m.d.scan b),m.d.start,m.d.at_,m.d.field,m.d.wire,m.d.want,m.d.utf,m.d.end_⟩:Dcd),m.out⟩:Mac):=?_;?_
 rotate_left
 exact⟨rfl,(by rw[hm1]<;>rfl)⟩
 refine⟨(Zg (⟨(⟨m.d.plan,m.d.mode,m.d.stack,(⟨0,0⟩:Scn),m.d.start,m.d.at_,m.d.field,m.d.wire,m.d.want,m.d.utf,m.d.end_⟩:Dcd),m.out⟩:Mac) _ (by first|omega|rfl|(dsimp only;omega)) (by omega)),dsp (fun h2 p2=>?_) fun h2 p2=>?_⟩
 refine dsp (fun h3 p3=>?_) fun h3 p3=>?_
 refine dsp (fun h4 p4=>?_) fun h4 p4=>?_
 refine⟨(B2 (Ba (⟨(⟨m.d.plan,m.d.mode,m.d.stack,(⟨0,0⟩:Scn),m.d.start,m.d.at_,m.d.field,m.d.wire,m.d.want,m.d.utf,m.d.end_⟩:Dcd),m.out⟩:Mac) (Bk m.d.scan b).bits) _ _ (Nat.le_trans (Fe _ _) (by first|omega|(dsimp only;omega)))),?_⟩
 refine have hm1:C8 m b=(As (Ba (⟨(⟨m.d.plan,m.d.mode,m.d.stack,(⟨0,0⟩:Scn),m.d.start,m.d.at_,m.d.field,m.d.wire,m.d.want,m.d.utf,m.d.end_⟩:Dcd),m.out⟩:Mac) (Bk m.d.scan b).bits) 9 (Ba (⟨(⟨m.d.plan,m.d.mode,m.d.stack,(⟨0,0⟩:Scn),m.d.start,m.d.at_,m.d.field,m.d.wire,m.d.want,m.d.utf,m.d.end_⟩:Dcd),m.out⟩:Mac) (Bk m.d.scan b).bits).d.at_):=?_;?_
 rotate_left
 exact⟨rfl,(by rw[hm1]<;>rfl)⟩
 refine⟨(D3 (Ba (⟨(⟨m.d.plan,m.d.mode,m.d.stack,(⟨0,0⟩:Scn),m.d.start,m.d.at_,m.d.field,m.d.wire,m.d.want,m.d.utf,m.d.end_⟩:Dcd),m.out⟩:Mac) (Bk m.d.scan b).bits) ((by first|(exact hp1.lv)|(exact Ao hp1.lv rfl rfl))) (Nat.le_trans (Fe _ _) (by first|omega|(dsimp only;omega)))),?_⟩
 refine have hm1:C8 m b=(Ad (Ba (⟨(⟨m.d.plan,m.d.mode,m.d.stack,(⟨0,0⟩:Scn),m.d.start,m.d.at_,m.d.field,m.d.wire,m.d.want,m.d.utf,m.d.end_⟩:Dcd),m.out⟩:Mac) (Bk m.d.scan b).bits)):=?_;?_
 rotate_left
 exact⟨rfl,(by rw[hm1]<;>rfl)⟩
 refine⟨(D3 (Ba (⟨(⟨m.d.plan,m.d.mode,m.d.stack,(⟨0,0⟩:Scn),m.d.start,m.d.at_,m.d.field,m.d.wire,m.d.want,m.d.utf,m.d.end_⟩:Dcd),m.out⟩:Mac) (Bk m.d.scan b).bits) ((by first|(exact hp1.lv)|(exact Ao hp1.lv rfl rfl))) (Nat.le_trans (Fe _ _) (by first|omega|(dsimp only;omega)))),?_⟩
 refine have hm1:C8 m b=(Ad (Ba (⟨(⟨m.d.plan,m.d.mode,m.d.stack,(⟨0,0⟩:Scn),m.d.start,m.d.at_,m.d.field,m.d.wire,m.d.want,m.d.utf,m.d.end_⟩:Dcd),m.out⟩:Mac) (Bk m.d.scan b).bits)):=?_;?_
 rotate_left
 exact⟨rfl,(by rw[hm1]<;>rfl)⟩
 refine⟨(D3 (Ba (⟨(⟨m.d.plan,m.d.mode,m.d.stack,(⟨0,0⟩:Scn),m.d.start,m.d.at_,m.d.field,m.d.wire,m.d.want,m.d.utf,m.d.end_⟩:Dcd),m.out⟩:Mac) (Bk m.d.scan b).bits) ((by first|(exact hp1.lv)|(exact Ao hp1.lv rfl rfl))) (Nat.le_trans (Fe _ _) (by first|omega|(dsimp only;omega)))),?_⟩
 refine have hm1:C8 m b=(Ad (Ba (⟨(⟨m.d.plan,m.d.mode,m.d.stack,(⟨0,0⟩:Scn),m.d.start,m.d.at_,m.d.field,m.d.wire,m.d.want,m.d.utf,m.d.end_⟩:Dcd),m.out⟩:Mac) (Bk m.d.scan b).bits)):=?_;?_
 rotate_left
 exact⟨rfl,(by rw[hm1]<;>rfl)⟩
 all_goals first|(simp_all[C8,Hq,As,Au,scn0,Pm,Lm];done)|(grind[C8,Hq,As,Au,scn0,Pm,Lm])
theorem U1 (m:Mac) (b:Int) (hp1:MW (m).d) (hp2:List.length (m).out≤50000000) (hp3:(0:Int)≤b∧b≤255):Fun Tryz.prog 198 [vP 0,vI b] [.cells (Ab 1 2 3 m),.tree m.d.plan.shapes,.lst .lev m.d.stack,.lst .ev m.out] (.tup []) [.cells (Ab 4 5 6 (Eb m b)),.dead,.dead,.dead,.tree (Eb m b).d.plan.shapes,.lst .lev (Eb m b).d.stack,.lst .ev (Eb m b).out]:=by
 have hN:bigN=274877906944:=rfl
 have hlv:=Bs hp1.lv
 have hpt:=By hlv.1
 have htb:=Gm hp1.lv
 have hwm:=Acc m
 have hbb:=hp1.b0
 have hat:=hp1.at_
 have hwt:=hp1.want
 have hwd:=Jf m.d
 refine Af Tryz.func198 (by kernel_rfl) (by kernel_rfl) (w:=let zi:Int→C:= .int .i64;let z3:List C:=[zi 4,zi 0,.int .u64 0,zi 0,.str (List.map Cy [b]),zi 0,zi 0];let z6:=(⟨4,0,0,0,List.map Cy [b],0,0⟩:Ev);let z5:=Ad (⟨(m).d,(m).out++[z6]⟩:Mac);let z7:List Blk:=[.cells (Ab 4 5 6 (Eb m b)),.dead,.dead,.dead,.tree (Eb m b).d.plan.shapes,.lst .lev (Eb m b).d.stack,.lst .ev (Eb m b).out];let z11:List Blk:=[.cells (Ab 4 5 6 z5),.dead,.dead,.dead,.tree z5.d.plan.shapes,.lst .lev z5.d.stack,.lst .ev z5.out];let z12:List Blk:=[.cells (Ab 1 2 4 m),.tree (m).d.plan.shapes,.lst .lev (m).d.stack,.dead,.lst .ev ((m).out++[z6])];let z14:List Blk:=[.cells (Ab 1 2 3 m),.tree m.d.plan.shapes,.lst .lev m.d.stack,.lst .ev m.out];let z16:=(.v (.c (.int .u8 (IntKind.u8.wrap (b)))):S)= .v (.c (.int .u8 b));let z17:=Bx m.d.utf b;let z8:=z17.getD m.d.utf;let z1:List C:=[.own 1,zi m.d.plan.root,zi m.d.plan.deep,zi m.d.plan.most,zi m.d.mode,.own 2,.int .u64 m.d.scan.bits,zi m.d.scan.have_,zi m.d.start,zi m.d.at_,zi m.d.field.number,zi m.d.field.kind,.bool m.d.field.rep,.bool m.d.field.packed,zi m.d.field.msg,zi m.d.wire,zi m.d.want,zi z8.want,zi z8.low,zi z8.high,zi m.d.end_.kind,zi m.d.end_.field,.int .u64 m.d.end_.bits,zi m.d.end_.len,.str m.d.end_.text,zi m.d.end_.code,zi m.d.end_.at_,.own 4];let z2:List C:=[.own 1,zi m.d.plan.root,zi m.d.plan.deep,zi m.d.plan.most,zi m.d.mode,.own 2,.int .u64 m.d.scan.bits,zi m.d.scan.have_,zi m.d.start,zi m.d.at_,zi m.d.field.number,zi m.d.field.kind,.bool m.d.field.rep,.bool m.d.field.packed,zi m.d.field.msg,zi m.d.wire,zi m.d.want,zi z8.want,zi z8.low,zi z8.high,zi m.d.end_.kind,zi m.d.end_.field,.int .u64 m.d.end_.bits,zi m.d.end_.len,.str m.d.end_.text,zi m.d.end_.code,zi m.d.end_.at_,.own 3];let z4:=Ad (⟨(⟨m.d.plan,m.d.mode,m.d.stack,m.d.scan,m.d.start,m.d.at_,m.d.field,m.d.wire,m.d.want,z8,m.d.end_⟩:Dcd),m.out++[z6]⟩:Mac);let z10:List Blk:=[.cells (Ab 4 5 6 z4),.dead,.dead,.dead,.tree z4.d.plan.shapes,.lst .lev z4.d.stack,.lst .ev z4.out];let z15:List Blk:=[.cells z1,.tree m.d.plan.shapes,.lst .lev m.d.stack,.dead,.lst .ev (m.out++[z6])];let z18:=m.d.at_-1;let z9:=As m 5 z18;let z13:List Blk:=[.cells (Ab 1 2 4 z9),.tree z9.d.plan.shapes,.lst .lev z9.d.stack,.dead,.lst .ev z9.out];(.br (.seg [.call [] (.tup [.agg (Lb z8),vB z17.isSome]) []] (.br (.seg [.as 31 (.v (vI z18)),.call [0,1,2,3] (.tup []) z13,.at 0,.cut 0 0,.cut 0 5] (.leaf () [0,1,2,3,6,7,5])) (.seg [.as 40 (.v (.c (.int .u8 b))),.ty .u8,.call [0,1,2,3] (.tup []) z15,.call [0,1,2,6] (.tup []) z10] (.leaf () [0,1,2,3,7,8,9])))) (.seg [.as 40 (.v (.c (.int .u8 b))),.ty .u8,.call [0,1,2,3] (.tup []) z12,.call [0,1,2,5] (.tup []) z11] (.leaf () [0,1,2,3,6,7,8])),((decide (m.d.field.kind=6))=true→(Fun Tryz.prog 223 [.agg (Lb m.d.utf),vI b] [] (.tup [.agg (Lb z8),vB z17.isSome]) [])∧((!z17.isSome)=true→((.v (vI (IntKind.i64.wrap z18)):S)= .v (vI z18))∧(Fun Tryz.prog 219 [vP 0,vI 5,vI z18] z14 (.tup []) z13)∧(.tup []:S)= .tup []∧([.cells (Ab 4 5 6 z9),.dead,.dead,.dead,.tree z9.d.plan.shapes,.lst .lev z9.d.stack,.lst .ev z9.out]:List Blk)=z7)∧((!z17.isSome)=false→z16∧(Fun Tryz.prog 218 [vP 0,.agg z3] [.cells z2,.tree m.d.plan.shapes,.lst .lev m.d.stack,.lst .ev m.out] (.tup []) z15)∧(Fun Tryz.prog 199 [vP 0] [.cells z2,.tree m.d.plan.shapes,.lst .lev m.d.stack,.lst .ev (m.out++[z6])] (.tup []) z10)∧(.tup []:S)= .tup []∧(z10:List Blk)=z7))∧((decide (m.d.field.kind=6))=false→z16∧(Fun Tryz.prog 218 [vP 0,.agg z3] z14 (.tup []) z12)∧(Fun Tryz.prog 199 [vP 0] [.cells (Ab 1 2 3 m),.tree (m).d.plan.shapes,.lst .lev (m).d.stack,.lst .ev ((m).out++[z6])] (.tup []) z11)∧(.tup []:S)= .tup []∧(z11:List Blk)=z7))) (by kernel_rfl) ?_
 refine dsp (fun h1 p1=>?_) fun h1 p1=>?_
 refine⟨(Ado m.d.utf _),fun h2=>have q2:=Am h2;?_,fun h2=>have q2:=Aj h2;?_⟩
 refine⟨(Ah (by omega) (by omega)),(B2 m _ _ (by omega)),?_⟩
 refine have hm1:Eb m b=(As m 5 (m.d.at_-1)):=?_;?_
 rotate_left
 exact⟨rfl,(by rw[hm1]<;>rfl)⟩
 refine⟨(Aa5 (by omega) (by omega)),(E9 (⟨(⟨m.d.plan,m.d.mode,m.d.stack,m.d.scan,m.d.start,m.d.at_,m.d.field,m.d.wire,m.d.want,((Bx m.d.utf b).getD m.d.utf),m.d.end_⟩:Dcd),m.out⟩:Mac) (⟨4,0,0,0,List.map Cy [b],0,0⟩:Ev) (by first|omega|rfl|(dsimp only;omega))),(D3 (⟨(⟨m.d.plan,m.d.mode,m.d.stack,m.d.scan,m.d.start,m.d.at_,m.d.field,m.d.wire,m.d.want,((Bx m.d.utf b).getD m.d.utf),m.d.end_⟩:Dcd),m.out++[(⟨4,0,0,0,List.map Cy [b],0,0⟩:Ev)]⟩:Mac) ((by first|(exact hp1.lv)|(exact Ao hp1.lv rfl rfl))) (by simp only[List.length_append,List.length_cons,List.length_nil,List.length_set,List.length_take];omega)),?_⟩
 refine have hm1:Eb m b=(Ad (⟨(⟨m.d.plan,m.d.mode,m.d.stack,m.d.scan,m.d.start,m.d.at_,m.d.field,m.d.wire,m.d.want,((Bx m.d.utf b).getD m.d.utf),m.d.end_⟩:Dcd),m.out++[(⟨4,0,0,0,List.map Cy [b],0,0⟩:Ev)]⟩:Mac)):=?_;?_
 rotate_left
 exact⟨rfl,(by rw[hm1]<;>rfl)⟩
 refine⟨(Aa5 (by omega) (by omega)),(E9 m (⟨4,0,0,0,List.map Cy [b],0,0⟩:Ev) (by omega)),(D3 (⟨(m).d,(m).out++[(⟨4,0,0,0,List.map Cy [b],0,0⟩:Ev)]⟩:Mac) ((by first|(exact hp1.lv)|(exact Ao hp1.lv rfl rfl))) (by simp only[List.length_append,List.length_cons,List.length_nil,List.length_set,List.length_take];omega)),?_⟩
 refine have hm1:Eb m b=(Ad (⟨(m).d,(m).out++[(⟨4,0,0,0,List.map Cy [b],0,0⟩:Ev)]⟩:Mac)):=?_;?_
 rotate_left
 exact⟨rfl,(by rw[hm1]<;>rfl)⟩
 all_goals first|(simp_all[Eb,Aig,As,Au,Yp];done)|(grind[Eb,Aig,As,Au,Yp])
theorem Ai5 (m:Mac) (b:Int) (hp1:MW (m).d) (hp2:List.length (m).out≤50000000) (hp3:(0:Int)≤b∧b≤255) (hp4:((m).d.stack.length=0∨1≤Dm (m).d)) (hp5:(m).d.at_≤1000000000) (hp6:((m).d.mode=6∨(m).d.mode=7∨(m).d.mode=8)→0≤(m).d.want):Fun Tryz.prog 167 [vP 0,vI b] [.cells (Ab 1 2 3 m),.tree m.d.plan.shapes,.lst .lev m.d.stack,.lst .ev m.out] (.tup []) [.cells (Ab 4 5 6 (D6 m b)),.dead,.dead,.dead,.tree (D6 m b).d.plan.shapes,.lst .lev (D6 m b).d.stack,.lst .ev (D6 m b).out]:=by
 have hN:bigN=274877906944:=rfl
 have hlv:=Bs hp1.lv
 have hpt:=By hlv.1
 have htb:=Gm hp1.lv
 have hwm:=Acc m
 have hbb:=hp1.b0
 have hat:=hp1.at_
 have hwt:=hp1.want
 have hwd:=Jf m.d
 have hms:=hp1.step hp4 hp5 hp6
 refine Af Tryz.func167 (by kernel_rfl) (by kernel_rfl) (w:=let zi:Int→C:= .int .i64;let z13:List C:=[zi m.d.utf.want,zi m.d.utf.low,zi m.d.utf.high,zi m.d.end_.kind,zi m.d.end_.field,.int .u64 m.d.end_.bits,zi m.d.end_.len,.str m.d.end_.text,zi m.d.end_.code,zi m.d.end_.at_];let z14:List C:=[zi m.d.utf.want,zi m.d.utf.low,zi m.d.utf.high,zi m.d.end_.kind,zi m.d.end_.field,.int .u64 m.d.end_.bits,zi m.d.end_.len,.str m.d.end_.text,zi m.d.end_.code,zi m.d.end_.at_,.own 3];let z15:=(⟨m.d.plan,m.d.mode,m.d.stack,m.d.scan,m.d.start,m.d.at_+1,m.d.field,m.d.wire,m.d.want-1,m.d.utf,m.d.end_⟩:Dcd);let z16:=(⟨m.d.plan,m.d.mode,m.d.stack,m.d.scan,m.d.start,m.d.at_+1,m.d.field,m.d.wire,m.d.want,m.d.utf,m.d.end_⟩:Dcd);let z17:List Blk:=[.cells (Ab 4 5 6 (D6 m b)),.dead,.dead,.dead,.tree (D6 m b).d.plan.shapes,.lst .lev (D6 m b).d.stack,.lst .ev (D6 m b).out];let z18:=(m.d.stack.length:Int);let z27:=decide (m.d.mode=6);let z29:=decide (m.d.mode=7);let z30:=decide (0<Bd m.d);let z31:=m.d.want-1;let z26:=(.v (vI (IntKind.i64.wrap z31)):S)= .v (vI z31);let z32:=(.tup []:S);let z33:=vI (Bd m.d);let z34:=m.d.at_+1;let z11:List C:= .own 1::zi m.d.plan.root::zi m.d.plan.deep::zi m.d.plan.most::zi m.d.mode:: .own 2:: .int .u64 m.d.scan.bits::zi m.d.scan.have_::zi m.d.start::zi z34::zi m.d.field.number::zi m.d.field.kind:: .bool m.d.field.rep:: .bool m.d.field.packed::zi m.d.field.msg::zi m.d.wire::zi z31::z14;let z12:List C:= .own 1::zi m.d.plan.root::zi m.d.plan.deep::zi m.d.plan.most::zi m.d.mode:: .own 2:: .int .u64 m.d.scan.bits::zi m.d.scan.have_::zi m.d.start::zi z34::zi m.d.field.number::zi m.d.field.kind:: .bool m.d.field.rep:: .bool m.d.field.packed::zi m.d.field.msg::zi m.d.wire::zi m.d.want::z14;let z19:=z34-1;let z28:List Blk:=[.cells z11,.tree m.d.plan.shapes,.lst .lev m.d.stack,.lst .ev m.out];let z35:=Bf (⟨z15,m.out⟩:Mac) b z19;let z20:List Blk:=[.cells (Ab 4 5 6 z35),.dead,.dead,.dead,.tree z35.d.plan.shapes,.lst .lev z35.d.stack,.lst .ev z35.out];let z36:=Bf (⟨z16,m.out⟩:Mac) b z19;let z21:List Blk:=[.cells (Ab 4 5 6 z36),.dead,.dead,.dead,.tree z36.d.plan.shapes,.lst .lev z36.d.stack,.lst .ev z36.out];let z37:=Eb (⟨z15,m.out⟩:Mac) b;let z22:List Blk:=[.cells (Ab 4 5 6 z37),.dead,.dead,.dead,.tree z37.d.plan.shapes,.lst .lev z37.d.stack,.lst .ev z37.out];let z38:=Ad (⟨z15,m.out⟩:Mac);let z23:List Blk:=[.cells (Ab 4 5 6 z38),.dead,.dead,.dead,.tree z38.d.plan.shapes,.lst .lev z38.d.stack,.lst .ev z38.out];let z39:=C8 (⟨z15,m.out⟩:Mac) b;let z24:List Blk:=[.cells (Ab 4 5 6 z39),.dead,.dead,.dead,.tree z39.d.plan.shapes,.lst .lev z39.d.stack,.lst .ev z39.out];let z40:=C8 (⟨z16,m.out⟩:Mac) b;let z25:List Blk:=[.cells (Ab 4 5 6 z40),.dead,.dead,.dead,.tree z40.d.plan.shapes,.lst .lev z40.d.stack,.lst .ev z40.out];let z41:List V:=[vP 0,vI b];let z42:=Int.toNat (z18-1);let z43:=(.v (vI (IntKind.i64.wrap (z18-1))):S)= .v (vI (z18-1));let z44:List Blk:=[.cells z12,.tree m.d.plan.shapes,.lst .lev m.d.stack,.lst .ev m.out];let z45:=decide (m.d.mode=8);let z46:=(0:Int)≤z18-1;let z47:=z27=false;let z48:=z18-1<z18;let z49:=z29=false;(.seg [.as 9 (.v (vI z34))] (.br (.intro (fun (x1:Lev)=>m.d.stack[Int.toNat (z18-1)]? =some x1) fun x1=>let z1:=(⟨m.d.plan,m.d.mode,List.set m.d.stack z42 (⟨x1.msg,x1.left-1⟩:Lev),m.d.scan,m.d.start,m.d.at_+1,m.d.field,m.d.wire,m.d.want-1,m.d.utf,m.d.end_⟩:Dcd);let z2:=(⟨m.d.plan,m.d.mode,List.set m.d.stack z42 (⟨x1.msg,x1.left-1⟩:Lev),m.d.scan,m.d.start,m.d.at_+1,m.d.field,m.d.wire,m.d.want,m.d.utf,m.d.end_⟩:Dcd);.seg [.ord (os 19 [18]) [],.as 31 (.v (vI (z18-1))),.el .lev x1,.as 35 (.v (vI (x1.left-1))),.el .lev x1] (.br (.seg [.as 65 (.v (vI z31)),.br true,.call [0,1,2,3] (.tup []) [.cells (Ab 4 5 6 (Eb (⟨z1,m.out⟩:Mac) b)),.dead,.dead,.dead,.tree (Eb (⟨z1,m.out⟩:Mac) b).d.plan.shapes,.lst .lev (Eb (⟨z1,m.out⟩:Mac) b).d.stack,.lst .ev (Eb (⟨z1,m.out⟩:Mac) b).out]] (.leaf () [0,1,2,3,4,5,6])) (.br (.seg [.as 65 (.v (vI z31)),.br false,.br true,.call [0,1,2,3] (.tup []) [.cells (Ab 4 5 6 (Ad (⟨z1,m.out⟩:Mac))),.dead,.dead,.dead,.tree (Ad (⟨z1,m.out⟩:Mac)).d.plan.shapes,.lst .lev (Ad (⟨z1,m.out⟩:Mac)).d.stack,.lst .ev (Ad (⟨z1,m.out⟩:Mac)).out]] (.leaf () [0,1,2,3,4,5,6])) (.br (.seg [.as 65 (.v (vI z31)),.br false,.br false,.call [] (.v z33) []] (.br (.seg [.call [0,1,2,3] (.tup []) [.cells (Ab 4 5 6 (C8 (⟨z1,m.out⟩:Mac) b)),.dead,.dead,.dead,.tree (C8 (⟨z1,m.out⟩:Mac) b).d.plan.shapes,.lst .lev (C8 (⟨z1,m.out⟩:Mac) b).d.stack,.lst .ev (C8 (⟨z1,m.out⟩:Mac) b).out]] (.leaf () [0,1,2,3,4,5,6])) (.seg [.call [0,1,2,3] (.tup []) [.cells (Ab 4 5 6 (Bf (⟨z1,m.out⟩:Mac) b z19)),.dead,.dead,.dead,.tree (Bf (⟨z1,m.out⟩:Mac) b z19).d.plan.shapes,.lst .lev (Bf (⟨z1,m.out⟩:Mac) b z19).d.stack,.lst .ev (Bf (⟨z1,m.out⟩:Mac) b z19).out]] (.leaf () [0,1,2,3,4,5,6])))) (.seg [.br false,.br false,.call [] (.v z33) []] (.br (.seg [.call [0,1,2,3] (.tup []) [.cells (Ab 4 5 6 (C8 (⟨z2,m.out⟩:Mac) b)),.dead,.dead,.dead,.tree (C8 (⟨z2,m.out⟩:Mac) b).d.plan.shapes,.lst .lev (C8 (⟨z2,m.out⟩:Mac) b).d.stack,.lst .ev (C8 (⟨z2,m.out⟩:Mac) b).out]] (.leaf () [0,1,2,3,4,5,6])) (.seg [.call [0,1,2,3] (.tup []) [.cells (Ab 4 5 6 (Bf (⟨z2,m.out⟩:Mac) b z19)),.dead,.dead,.dead,.tree (Bf (⟨z2,m.out⟩:Mac) b z19).d.plan.shapes,.lst .lev (Bf (⟨z2,m.out⟩:Mac) b z19).d.stack,.lst .ev (Bf (⟨z2,m.out⟩:Mac) b z19).out]] (.leaf () [0,1,2,3,4,5,6])))))))) (.br (.seg [.as 65 (.v (vI z31)),.br true,.call [0,1,2,3] (.tup []) z22] (.leaf () [0,1,2,3,4,5,6])) (.br (.seg [.as 65 (.v (vI z31)),.br false,.br true,.call [0,1,2,3] (.tup []) z23] (.leaf () [0,1,2,3,4,5,6])) (.br (.seg [.as 65 (.v (vI z31)),.br false,.br false,.call [] (.v z33) []] (.br (.seg [.call [0,1,2,3] (.tup []) z24] (.leaf () [0,1,2,3,4,5,6])) (.seg [.call [0,1,2,3] (.tup []) z20] (.leaf () [0,1,2,3,4,5,6])))) (.seg [.br false,.br false,.call [] (.v z33) []] (.br (.seg [.call [0,1,2,3] (.tup []) z25] (.leaf () [0,1,2,3,4,5,6])) (.seg [.call [0,1,2,3] (.tup []) z21] (.leaf () [0,1,2,3,4,5,6])))))))),((.v (vI (IntKind.i64.wrap z34)):S)= .v (vI z34))∧((decide (0<z18))=true→(∃(x1:Lev),m.d.stack[Int.toNat (z18-1)]? =some x1)∧∀(x1:Lev),(m.d.stack[Int.toNat (z18-1)]? =some x1)→(let z8:=m.d.stack[Int.toNat (z18-1)]? =some x1;let z9:=(.v (vI (IntKind.i64.wrap (x1.left-1))):S)= .v (vI (x1.left-1));let z10:=(⟨x1.msg,x1.left-1⟩:Lev);let z3:=(⟨m.d.plan,m.d.mode,List.set m.d.stack z42 z10,m.d.scan,m.d.start,m.d.at_+1,m.d.field,m.d.wire,m.d.want-1,m.d.utf,m.d.end_⟩:Dcd);let z4:=(⟨m.d.plan,m.d.mode,List.set m.d.stack z42 z10,m.d.scan,m.d.start,m.d.at_+1,m.d.field,m.d.wire,m.d.want,m.d.utf,m.d.end_⟩:Dcd);let z7:=List.set m.d.stack z42 z10;let z5:List Blk:=[.cells z11,.tree m.d.plan.shapes,.lst .lev z7,.lst .ev m.out];let z6:List Blk:=[.cells z12,.tree m.d.plan.shapes,.lst .lev z7,.lst .ev m.out];z43∧z43∧z48∧z46∧z48∧z46∧z8∧z8∧z9∧z9∧z48∧z46∧z48∧z46∧z8∧(z27=true→z26∧(z27=true)∧(Fun Tryz.prog 198 z41 z5 (.tup []) [.cells (Ab 4 5 6 (Eb (⟨z3,m.out⟩:Mac) b)),.dead,.dead,.dead,.tree (Eb (⟨z3,m.out⟩:Mac) b).d.plan.shapes,.lst .lev (Eb (⟨z3,m.out⟩:Mac) b).d.stack,.lst .ev (Eb (⟨z3,m.out⟩:Mac) b).out])∧z32= .tup []∧([.cells (Ab 4 5 6 (Eb (⟨z3,m.out⟩:Mac) b)),.dead,.dead,.dead,.tree (Eb (⟨z3,m.out⟩:Mac) b).d.plan.shapes,.lst .lev (Eb (⟨z3,m.out⟩:Mac) b).d.stack,.lst .ev (Eb (⟨z3,m.out⟩:Mac) b).out]:List Blk)=z17)∧(z27=false→(z29=true→z26∧z47∧(z29=true)∧(Fun Tryz.prog 199 [vP 0] z5 (.tup []) [.cells (Ab 4 5 6 (Ad (⟨z3,m.out⟩:Mac))),.dead,.dead,.dead,.tree (Ad (⟨z3,m.out⟩:Mac)).d.plan.shapes,.lst .lev (Ad (⟨z3,m.out⟩:Mac)).d.stack,.lst .ev (Ad (⟨z3,m.out⟩:Mac)).out])∧z32= .tup []∧([.cells (Ab 4 5 6 (Ad (⟨z3,m.out⟩:Mac))),.dead,.dead,.dead,.tree (Ad (⟨z3,m.out⟩:Mac)).d.plan.shapes,.lst .lev (Ad (⟨z3,m.out⟩:Mac)).d.stack,.lst .ev (Ad (⟨z3,m.out⟩:Mac)).out]:List Blk)=z17)∧(z29=false→(z45=true→z26∧z47∧z49∧(Fun Tryz.prog 200 [.agg (.seq .shp m.d.plan.shapes::zi m.d.plan.root::zi m.d.plan.deep::zi m.d.plan.most::zi m.d.mode:: .seq .lev z7:: .int .u64 m.d.scan.bits::zi m.d.scan.have_::zi m.d.start::zi z34::zi m.d.field.number::zi m.d.field.kind:: .bool m.d.field.rep:: .bool m.d.field.packed::zi m.d.field.msg::zi m.d.wire::zi z31::z13)] [] (.v z33) [])∧(z30=true→(Fun Tryz.prog 201 z41 z5 (.tup []) [.cells (Ab 4 5 6 (C8 (⟨z3,m.out⟩:Mac) b)),.dead,.dead,.dead,.tree (C8 (⟨z3,m.out⟩:Mac) b).d.plan.shapes,.lst .lev (C8 (⟨z3,m.out⟩:Mac) b).d.stack,.lst .ev (C8 (⟨z3,m.out⟩:Mac) b).out])∧z32= .tup []∧([.cells (Ab 4 5 6 (C8 (⟨z3,m.out⟩:Mac) b)),.dead,.dead,.dead,.tree (C8 (⟨z3,m.out⟩:Mac) b).d.plan.shapes,.lst .lev (C8 (⟨z3,m.out⟩:Mac) b).d.stack,.lst .ev (C8 (⟨z3,m.out⟩:Mac) b).out]:List Blk)=z17)∧(z30=false→(Fun Tryz.prog 202 z41 z5 (.tup []) [.cells (Ab 4 5 6 (Bf (⟨z3,m.out⟩:Mac) b z19)),.dead,.dead,.dead,.tree (Bf (⟨z3,m.out⟩:Mac) b z19).d.plan.shapes,.lst .lev (Bf (⟨z3,m.out⟩:Mac) b z19).d.stack,.lst .ev (Bf (⟨z3,m.out⟩:Mac) b z19).out])∧z32= .tup []∧([.cells (Ab 4 5 6 (Bf (⟨z3,m.out⟩:Mac) b z19)),.dead,.dead,.dead,.tree (Bf (⟨z3,m.out⟩:Mac) b z19).d.plan.shapes,.lst .lev (Bf (⟨z3,m.out⟩:Mac) b z19).d.stack,.lst .ev (Bf (⟨z3,m.out⟩:Mac) b z19).out]:List Blk)=z17))∧(z45=false→z47∧z49∧(Fun Tryz.prog 200 [.agg (.seq .shp m.d.plan.shapes::zi m.d.plan.root::zi m.d.plan.deep::zi m.d.plan.most::zi m.d.mode:: .seq .lev z7:: .int .u64 m.d.scan.bits::zi m.d.scan.have_::zi m.d.start::zi z34::zi m.d.field.number::zi m.d.field.kind:: .bool m.d.field.rep:: .bool m.d.field.packed::zi m.d.field.msg::zi m.d.wire::zi m.d.want::z13)] [] (.v z33) [])∧(z30=true→(Fun Tryz.prog 201 z41 z6 (.tup []) [.cells (Ab 4 5 6 (C8 (⟨z4,m.out⟩:Mac) b)),.dead,.dead,.dead,.tree (C8 (⟨z4,m.out⟩:Mac) b).d.plan.shapes,.lst .lev (C8 (⟨z4,m.out⟩:Mac) b).d.stack,.lst .ev (C8 (⟨z4,m.out⟩:Mac) b).out])∧z32= .tup []∧([.cells (Ab 4 5 6 (C8 (⟨z4,m.out⟩:Mac) b)),.dead,.dead,.dead,.tree (C8 (⟨z4,m.out⟩:Mac) b).d.plan.shapes,.lst .lev (C8 (⟨z4,m.out⟩:Mac) b).d.stack,.lst .ev (C8 (⟨z4,m.out⟩:Mac) b).out]:List Blk)=z17)∧(z30=false→(Fun Tryz.prog 202 z41 z6 (.tup []) [.cells (Ab 4 5 6 (Bf (⟨z4,m.out⟩:Mac) b z19)),.dead,.dead,.dead,.tree (Bf (⟨z4,m.out⟩:Mac) b z19).d.plan.shapes,.lst .lev (Bf (⟨z4,m.out⟩:Mac) b z19).d.stack,.lst .ev (Bf (⟨z4,m.out⟩:Mac) b z19).out])∧z32= .tup []∧([.cells (Ab 4 5 6 (Bf (⟨z4,m.out⟩:Mac) b z19)),.dead,.dead,.dead,.tree (Bf (⟨z4,m.out⟩:Mac) b z19).d.plan.shapes,.lst .lev (Bf (⟨z4,m.out⟩:Mac) b z19).d.stack,.lst .ev (Bf (⟨z4,m.out⟩:Mac) b z19).out]:List Blk)=z17))))))∧((decide (0<z18))=false→(z27=true→z26∧(z27=true)∧(Fun Tryz.prog 198 z41 z28 (.tup []) z22)∧z32= .tup []∧(z22:List Blk)=z17)∧(z27=false→(z29=true→z26∧z47∧(z29=true)∧(Fun Tryz.prog 199 [vP 0] z28 (.tup []) z23)∧z32= .tup []∧(z23:List Blk)=z17)∧(z29=false→(z45=true→z26∧z47∧z49∧(Fun Tryz.prog 200 [.agg (.seq .shp m.d.plan.shapes::zi m.d.plan.root::zi m.d.plan.deep::zi m.d.plan.most::zi m.d.mode:: .seq .lev m.d.stack:: .int .u64 m.d.scan.bits::zi m.d.scan.have_::zi m.d.start::zi z34::zi m.d.field.number::zi m.d.field.kind:: .bool m.d.field.rep:: .bool m.d.field.packed::zi m.d.field.msg::zi m.d.wire::zi z31::z13)] [] (.v z33) [])∧(z30=true→(Fun Tryz.prog 201 z41 z28 (.tup []) z24)∧z32= .tup []∧(z24:List Blk)=z17)∧(z30=false→(Fun Tryz.prog 202 z41 z28 (.tup []) z20)∧z32= .tup []∧(z20:List Blk)=z17))∧(z45=false→z47∧z49∧(Fun Tryz.prog 200 [.agg (.seq .shp m.d.plan.shapes::zi m.d.plan.root::zi m.d.plan.deep::zi m.d.plan.most::zi m.d.mode:: .seq .lev m.d.stack:: .int .u64 m.d.scan.bits::zi m.d.scan.have_::zi m.d.start::zi z34::zi m.d.field.number::zi m.d.field.kind:: .bool m.d.field.rep:: .bool m.d.field.packed::zi m.d.field.msg::zi m.d.wire::zi m.d.want::z13)] [] (.v z33) [])∧(z30=true→(Fun Tryz.prog 201 z41 z44 (.tup []) z25)∧z32= .tup []∧(z25:List Blk)=z17)∧(z30=false→(Fun Tryz.prog 202 z41 z44 (.tup []) z21)∧z32= .tup []∧(z21:List Blk)=z17))))))) (by kernel_rfl) ?_
 refine⟨(Ah (by omega) (by omega)),dsp (fun h1 p1=>?_) fun h1 p1=>?_⟩
 have hne:m.d.stack≠[]:=fun e=>by have:=congrArg List.length e;simp only[List.length_nil] at this;omega
 refine⟨(Bo (l:=m.d.stack) (i:=Int.toNat ((m.d.stack.length:Int)-1)) (by omega)),fun x1 hx1=>?_⟩
 have hll:=Jb (d:=m.d) (by rw[←hx1];congr 1;omega)
 have hix:Int.toNat ((m.d.stack.length:Int)-1)=m.d.stack.length-1:=by omega
 refine⟨(Ah (by omega) (by omega)),(Ah (by omega) (by omega)),(by omega),(by omega),(by omega),(by omega),hx1,hx1,(Ah (by omega) (by omega)),(Ah (by omega) (by omega)),(by omega),(by omega),(by omega),(by omega),hx1,dsp (fun h2 p2=>?_) fun h2 p2=>?_⟩
 refine⟨(Ah (by omega) (by omega)),h2,(U1 (⟨(⟨m.d.plan,m.d.mode,List.set m.d.stack (Int.toNat ((m.d.stack.length:Int)-1)) (⟨x1.msg,x1.left-1⟩:Lev),m.d.scan,m.d.start,m.d.at_+1,m.d.field,m.d.wire,m.d.want-1,m.d.utf,m.d.end_⟩:Dcd),m.out⟩:Mac) _ ((by have e:Br m.d=(⟨m.d.plan,m.d.mode,List.set m.d.stack (Int.toNat ((m.d.stack.length:Int)-1)) (⟨x1.msg,x1.left-1⟩:Lev),m.d.scan,m.d.start,m.d.at_+1,m.d.field,m.d.wire,m.d.want-1,m.d.utf,m.d.end_⟩:Dcd):=(by first|((simp_all[Br];done))|(grind[Br]));exact(e▸hms:MW (⟨m.d.plan,m.d.mode,List.set m.d.stack (Int.toNat ((m.d.stack.length:Int)-1)) (⟨x1.msg,x1.left-1⟩:Lev),m.d.scan,m.d.start,m.d.at_+1,m.d.field,m.d.wire,m.d.want-1,m.d.utf,m.d.end_⟩:Dcd)))) (by first|omega|rfl|(dsimp only;omega)) (by omega)),?_⟩
 refine have hm1:D6 m b=(Eb (⟨(⟨m.d.plan,m.d.mode,List.set m.d.stack (Int.toNat ((m.d.stack.length:Int)-1)) (⟨x1.msg,x1.left-1⟩:Lev),m.d.scan,m.d.start,m.d.at_+1,m.d.field,m.d.wire,m.d.want-1,m.d.utf,m.d.end_⟩:Dcd),m.out⟩:Mac) b):=?_;?_
 rotate_left
 exact⟨rfl,(by rw[hm1]<;>rfl)⟩
 refine dsp (fun h3 p3=>?_) fun h3 p3=>?_
 refine⟨(Ah (by omega) (by omega)),h2,h3,(D3 (⟨(⟨m.d.plan,m.d.mode,List.set m.d.stack (Int.toNat ((m.d.stack.length:Int)-1)) (⟨x1.msg,x1.left-1⟩:Lev),m.d.scan,m.d.start,m.d.at_+1,m.d.field,m.d.wire,m.d.want-1,m.d.utf,m.d.end_⟩:Dcd),m.out⟩:Mac) ((by have e:Br m.d=(⟨m.d.plan,m.d.mode,List.set m.d.stack (Int.toNat ((m.d.stack.length:Int)-1)) (⟨x1.msg,x1.left-1⟩:Lev),m.d.scan,m.d.start,m.d.at_+1,m.d.field,m.d.wire,m.d.want-1,m.d.utf,m.d.end_⟩:Dcd):=(by first|((simp_all[Br];done))|(grind[Br]));exact((e▸hms:MW (⟨m.d.plan,m.d.mode,List.set m.d.stack (Int.toNat ((m.d.stack.length:Int)-1)) (⟨x1.msg,x1.left-1⟩:Lev),m.d.scan,m.d.start,m.d.at_+1,m.d.field,m.d.wire,m.d.want-1,m.d.utf,m.d.end_⟩:Dcd))).lv)) (by first|omega|rfl|(dsimp only;omega))),?_⟩
 refine have hm1:D6 m b=(Ad (⟨(⟨m.d.plan,m.d.mode,List.set m.d.stack (Int.toNat ((m.d.stack.length:Int)-1)) (⟨x1.msg,x1.left-1⟩:Lev),m.d.scan,m.d.start,m.d.at_+1,m.d.field,m.d.wire,m.d.want-1,m.d.utf,m.d.end_⟩:Dcd),m.out⟩:Mac)):=?_;?_
 rotate_left
 exact⟨rfl,(by rw[hm1]<;>rfl)⟩
 refine dsp (fun h4 p4=>?_) fun h4 p4=>?_
 refine⟨(Ah (by omega) (by omega)),h2,h3,(M1 (⟨m.d.plan,m.d.mode,List.set m.d.stack (Int.toNat ((m.d.stack.length:Int)-1)) (⟨x1.msg,x1.left-1⟩:Lev),m.d.scan,m.d.start,m.d.at_+1,m.d.field,m.d.wire,m.d.want-1,m.d.utf,m.d.end_⟩:Dcd)),dsp (fun h5 p5=>?_) fun h5 p5=>?_⟩
 refine⟨(Py (⟨(⟨m.d.plan,m.d.mode,List.set m.d.stack (Int.toNat ((m.d.stack.length:Int)-1)) (⟨x1.msg,x1.left-1⟩:Lev),m.d.scan,m.d.start,m.d.at_+1,m.d.field,m.d.wire,m.d.want-1,m.d.utf,m.d.end_⟩:Dcd),m.out⟩:Mac) _ ((by have e:Br m.d=(⟨m.d.plan,m.d.mode,List.set m.d.stack (Int.toNat ((m.d.stack.length:Int)-1)) (⟨x1.msg,x1.left-1⟩:Lev),m.d.scan,m.d.start,m.d.at_+1,m.d.field,m.d.wire,m.d.want-1,m.d.utf,m.d.end_⟩:Dcd):=(by first|((simp_all[Br];done))|(grind[Br]));exact(e▸hms:MW (⟨m.d.plan,m.d.mode,List.set m.d.stack (Int.toNat ((m.d.stack.length:Int)-1)) (⟨x1.msg,x1.left-1⟩:Lev),m.d.scan,m.d.start,m.d.at_+1,m.d.field,m.d.wire,m.d.want-1,m.d.utf,m.d.end_⟩:Dcd)))) (by first|omega|rfl|(dsimp only;omega)) (by omega)),?_⟩
 refine have hm1:D6 m b=(C8 (⟨(⟨m.d.plan,m.d.mode,List.set m.d.stack (Int.toNat ((m.d.stack.length:Int)-1)) (⟨x1.msg,x1.left-1⟩:Lev),m.d.scan,m.d.start,m.d.at_+1,m.d.field,m.d.wire,m.d.want-1,m.d.utf,m.d.end_⟩:Dcd),m.out⟩:Mac) b):=?_;?_
 rotate_left
 exact⟨rfl,(by rw[hm1]<;>rfl)⟩
 refine⟨(Px (⟨(⟨m.d.plan,m.d.mode,List.set m.d.stack (Int.toNat ((m.d.stack.length:Int)-1)) (⟨x1.msg,x1.left-1⟩:Lev),m.d.scan,m.d.start,m.d.at_+1,m.d.field,m.d.wire,m.d.want-1,m.d.utf,m.d.end_⟩:Dcd),m.out⟩:Mac) _ ((by have e:Br m.d=(⟨m.d.plan,m.d.mode,List.set m.d.stack (Int.toNat ((m.d.stack.length:Int)-1)) (⟨x1.msg,x1.left-1⟩:Lev),m.d.scan,m.d.start,m.d.at_+1,m.d.field,m.d.wire,m.d.want-1,m.d.utf,m.d.end_⟩:Dcd):=(by first|((simp_all[Br];done))|(grind[Br]));exact(e▸hms:MW (⟨m.d.plan,m.d.mode,List.set m.d.stack (Int.toNat ((m.d.stack.length:Int)-1)) (⟨x1.msg,x1.left-1⟩:Lev),m.d.scan,m.d.start,m.d.at_+1,m.d.field,m.d.wire,m.d.want-1,m.d.utf,m.d.end_⟩:Dcd)))) (by first|omega|rfl|(dsimp only;omega)) (by omega)),?_⟩
 refine have hm1:D6 m b=(Bf (⟨(⟨m.d.plan,m.d.mode,List.set m.d.stack (Int.toNat ((m.d.stack.length:Int)-1)) (⟨x1.msg,x1.left-1⟩:Lev),m.d.scan,m.d.start,m.d.at_+1,m.d.field,m.d.wire,m.d.want-1,m.d.utf,m.d.end_⟩:Dcd),m.out⟩:Mac) b ((m.d.at_+1)-1)):=?_;?_
 rotate_left
 exact⟨rfl,(by rw[hm1]<;>rfl)⟩
 refine⟨h2,h3,(M1 (⟨m.d.plan,m.d.mode,List.set m.d.stack (Int.toNat ((m.d.stack.length:Int)-1)) (⟨x1.msg,x1.left-1⟩:Lev),m.d.scan,m.d.start,m.d.at_+1,m.d.field,m.d.wire,m.d.want,m.d.utf,m.d.end_⟩:Dcd)),dsp (fun h5 p5=>?_) fun h5 p5=>?_⟩
 refine⟨(Py (⟨(⟨m.d.plan,m.d.mode,List.set m.d.stack (Int.toNat ((m.d.stack.length:Int)-1)) (⟨x1.msg,x1.left-1⟩:Lev),m.d.scan,m.d.start,m.d.at_+1,m.d.field,m.d.wire,m.d.want,m.d.utf,m.d.end_⟩:Dcd),m.out⟩:Mac) _ ((by have e:Br m.d=(⟨m.d.plan,m.d.mode,List.set m.d.stack (Int.toNat ((m.d.stack.length:Int)-1)) (⟨x1.msg,x1.left-1⟩:Lev),m.d.scan,m.d.start,m.d.at_+1,m.d.field,m.d.wire,m.d.want,m.d.utf,m.d.end_⟩:Dcd):=(by first|((simp_all[Br];done))|(grind[Br]));exact(e▸hms:MW (⟨m.d.plan,m.d.mode,List.set m.d.stack (Int.toNat ((m.d.stack.length:Int)-1)) (⟨x1.msg,x1.left-1⟩:Lev),m.d.scan,m.d.start,m.d.at_+1,m.d.field,m.d.wire,m.d.want,m.d.utf,m.d.end_⟩:Dcd)))) (by first|omega|rfl|(dsimp only;omega)) (by omega)),?_⟩
 refine have hm1:D6 m b=(C8 (⟨(⟨m.d.plan,m.d.mode,List.set m.d.stack (Int.toNat ((m.d.stack.length:Int)-1)) (⟨x1.msg,x1.left-1⟩:Lev),m.d.scan,m.d.start,m.d.at_+1,m.d.field,m.d.wire,m.d.want,m.d.utf,m.d.end_⟩:Dcd),m.out⟩:Mac) b):=?_;?_
 rotate_left
 exact⟨rfl,(by rw[hm1]<;>rfl)⟩
 refine⟨(Px (⟨(⟨m.d.plan,m.d.mode,List.set m.d.stack (Int.toNat ((m.d.stack.length:Int)-1)) (⟨x1.msg,x1.left-1⟩:Lev),m.d.scan,m.d.start,m.d.at_+1,m.d.field,m.d.wire,m.d.want,m.d.utf,m.d.end_⟩:Dcd),m.out⟩:Mac) _ ((by have e:Br m.d=(⟨m.d.plan,m.d.mode,List.set m.d.stack (Int.toNat ((m.d.stack.length:Int)-1)) (⟨x1.msg,x1.left-1⟩:Lev),m.d.scan,m.d.start,m.d.at_+1,m.d.field,m.d.wire,m.d.want,m.d.utf,m.d.end_⟩:Dcd):=(by first|((simp_all[Br];done))|(grind[Br]));exact(e▸hms:MW (⟨m.d.plan,m.d.mode,List.set m.d.stack (Int.toNat ((m.d.stack.length:Int)-1)) (⟨x1.msg,x1.left-1⟩:Lev),m.d.scan,m.d.start,m.d.at_+1,m.d.field,m.d.wire,m.d.want,m.d.utf,m.d.end_⟩:Dcd)))) (by first|omega|rfl|(dsimp only;omega)) (by omega)),?_⟩
 refine have hm1:D6 m b=(Bf (⟨(⟨m.d.plan,m.d.mode,List.set m.d.stack (Int.toNat ((m.d.stack.length:Int)-1)) (⟨x1.msg,x1.left-1⟩:Lev),m.d.scan,m.d.start,m.d.at_+1,m.d.field,m.d.wire,m.d.want,m.d.utf,m.d.end_⟩:Dcd),m.out⟩:Mac) b ((m.d.at_+1)-1)):=?_;?_
 rotate_left
 exact⟨rfl,(by rw[hm1]<;>rfl)⟩
 have hne:m.d.stack=[]:=List.eq_nil_of_length_eq_zero (by omega)
 refine dsp (fun h2 p2=>?_) fun h2 p2=>?_
 refine⟨(Ah (by omega) (by omega)),h2,(U1 (⟨(⟨m.d.plan,m.d.mode,m.d.stack,m.d.scan,m.d.start,m.d.at_+1,m.d.field,m.d.wire,m.d.want-1,m.d.utf,m.d.end_⟩:Dcd),m.out⟩:Mac) _ ((by have e:Br m.d=(⟨m.d.plan,m.d.mode,m.d.stack,m.d.scan,m.d.start,m.d.at_+1,m.d.field,m.d.wire,m.d.want-1,m.d.utf,m.d.end_⟩:Dcd):=(by first|((simp_all[Br];done))|(grind[Br]));exact(e▸hms:MW (⟨m.d.plan,m.d.mode,m.d.stack,m.d.scan,m.d.start,m.d.at_+1,m.d.field,m.d.wire,m.d.want-1,m.d.utf,m.d.end_⟩:Dcd)))) (by first|omega|rfl|(dsimp only;omega)) (by omega)),?_⟩
 refine have hm1:D6 m b=(Eb (⟨(⟨m.d.plan,m.d.mode,m.d.stack,m.d.scan,m.d.start,m.d.at_+1,m.d.field,m.d.wire,m.d.want-1,m.d.utf,m.d.end_⟩:Dcd),m.out⟩:Mac) b):=?_;?_
 rotate_left
 exact⟨rfl,(by rw[hm1]<;>rfl)⟩
 refine dsp (fun h3 p3=>?_) fun h3 p3=>?_
 refine⟨(Ah (by omega) (by omega)),h2,h3,(D3 (⟨(⟨m.d.plan,m.d.mode,m.d.stack,m.d.scan,m.d.start,m.d.at_+1,m.d.field,m.d.wire,m.d.want-1,m.d.utf,m.d.end_⟩:Dcd),m.out⟩:Mac) ((by first|(exact hp1.lv)|(exact Ao hp1.lv rfl rfl))) (by first|omega|rfl|(dsimp only;omega))),?_⟩
 refine have hm1:D6 m b=(Ad (⟨(⟨m.d.plan,m.d.mode,m.d.stack,m.d.scan,m.d.start,m.d.at_+1,m.d.field,m.d.wire,m.d.want-1,m.d.utf,m.d.end_⟩:Dcd),m.out⟩:Mac)):=?_;?_
 rotate_left
 exact⟨rfl,(by rw[hm1]<;>rfl)⟩
 refine dsp (fun h4 p4=>?_) fun h4 p4=>?_
 refine⟨(Ah (by omega) (by omega)),h2,h3,(M1 (⟨m.d.plan,m.d.mode,m.d.stack,m.d.scan,m.d.start,m.d.at_+1,m.d.field,m.d.wire,m.d.want-1,m.d.utf,m.d.end_⟩:Dcd)),dsp (fun h5 p5=>?_) fun h5 p5=>?_⟩
 refine⟨(Py (⟨(⟨m.d.plan,m.d.mode,m.d.stack,m.d.scan,m.d.start,m.d.at_+1,m.d.field,m.d.wire,m.d.want-1,m.d.utf,m.d.end_⟩:Dcd),m.out⟩:Mac) _ ((by have e:Br m.d=(⟨m.d.plan,m.d.mode,m.d.stack,m.d.scan,m.d.start,m.d.at_+1,m.d.field,m.d.wire,m.d.want-1,m.d.utf,m.d.end_⟩:Dcd):=(by first|((simp_all[Br];done))|(grind[Br]));exact(e▸hms:MW (⟨m.d.plan,m.d.mode,m.d.stack,m.d.scan,m.d.start,m.d.at_+1,m.d.field,m.d.wire,m.d.want-1,m.d.utf,m.d.end_⟩:Dcd)))) (by first|omega|rfl|(dsimp only;omega)) (by omega)),?_⟩
 refine have hm1:D6 m b=(C8 (⟨(⟨m.d.plan,m.d.mode,m.d.stack,m.d.scan,m.d.start,m.d.at_+1,m.d.field,m.d.wire,m.d.want-1,m.d.utf,m.d.end_⟩:Dcd),m.out⟩:Mac) b):=?_;?_
 rotate_left
 exact⟨rfl,(by rw[hm1]<;>rfl)⟩
 refine⟨(Px (⟨(⟨m.d.plan,m.d.mode,m.d.stack,m.d.scan,m.d.start,m.d.at_+1,m.d.field,m.d.wire,m.d.want-1,m.d.utf,m.d.end_⟩:Dcd),m.out⟩:Mac) _ ((by have e:Br m.d=(⟨m.d.plan,m.d.mode,m.d.stack,m.d.scan,m.d.start,m.d.at_+1,m.d.field,m.d.wire,m.d.want-1,m.d.utf,m.d.end_⟩:Dcd):=(by first|((simp_all[Br];done))|(grind[Br]));exact(e▸hms:MW (⟨m.d.plan,m.d.mode,m.d.stack,m.d.scan,m.d.start,m.d.at_+1,m.d.field,m.d.wire,m.d.want-1,m.d.utf,m.d.end_⟩:Dcd)))) (by first|omega|rfl|(dsimp only;omega)) (by omega)),?_⟩
 refine have hm1:D6 m b=(Bf (⟨(⟨m.d.plan,m.d.mode,m.d.stack,m.d.scan,m.d.start,m.d.at_+1,m.d.field,m.d.wire,m.d.want-1,m.d.utf,m.d.end_⟩:Dcd),m.out⟩:Mac) b ((m.d.at_+1)-1)):=?_;?_
 rotate_left
 exact⟨rfl,(by rw[hm1]<;>rfl)⟩
 refine⟨h2,h3,(M1 (⟨m.d.plan,m.d.mode,m.d.stack,m.d.scan,m.d.start,m.d.at_+1,m.d.field,m.d.wire,m.d.want,m.d.utf,m.d.end_⟩:Dcd)),dsp (fun h5 p5=>?_) fun h5 p5=>?_⟩
 refine⟨(Py (⟨(⟨m.d.plan,m.d.mode,m.d.stack,m.d.scan,m.d.start,m.d.at_+1,m.d.field,m.d.wire,m.d.want,m.d.utf,m.d.end_⟩:Dcd),m.out⟩:Mac) _ ((by have e:Br m.d=(⟨m.d.plan,m.d.mode,m.d.stack,m.d.scan,m.d.start,m.d.at_+1,m.d.field,m.d.wire,m.d.want,m.d.utf,m.d.end_⟩:Dcd):=(by first|((simp_all[Br];done))|(grind[Br]));exact(e▸hms:MW (⟨m.d.plan,m.d.mode,m.d.stack,m.d.scan,m.d.start,m.d.at_+1,m.d.field,m.d.wire,m.d.want,m.d.utf,m.d.end_⟩:Dcd)))) (by first|omega|rfl|(dsimp only;omega)) (by omega)),?_⟩
 refine have hm1:D6 m b=(C8 (⟨(⟨m.d.plan,m.d.mode,m.d.stack,m.d.scan,m.d.start,m.d.at_+1,m.d.field,m.d.wire,m.d.want,m.d.utf,m.d.end_⟩:Dcd),m.out⟩:Mac) b):=?_;?_
 rotate_left
 exact⟨rfl,(by rw[hm1]<;>rfl)⟩
 refine⟨(Px (⟨(⟨m.d.plan,m.d.mode,m.d.stack,m.d.scan,m.d.start,m.d.at_+1,m.d.field,m.d.wire,m.d.want,m.d.utf,m.d.end_⟩:Dcd),m.out⟩:Mac) _ ((by have e:Br m.d=(⟨m.d.plan,m.d.mode,m.d.stack,m.d.scan,m.d.start,m.d.at_+1,m.d.field,m.d.wire,m.d.want,m.d.utf,m.d.end_⟩:Dcd):=(by first|((simp_all[Br];done))|(grind[Br]));exact(e▸hms:MW (⟨m.d.plan,m.d.mode,m.d.stack,m.d.scan,m.d.start,m.d.at_+1,m.d.field,m.d.wire,m.d.want,m.d.utf,m.d.end_⟩:Dcd)))) (by first|omega|rfl|(dsimp only;omega)) (by omega)),?_⟩
 refine have hm1:D6 m b=(Bf (⟨(⟨m.d.plan,m.d.mode,m.d.stack,m.d.scan,m.d.start,m.d.at_+1,m.d.field,m.d.wire,m.d.want,m.d.utf,m.d.end_⟩:Dcd),m.out⟩:Mac) b ((m.d.at_+1)-1)):=?_;?_
 rotate_left
 exact⟨rfl,(by rw[hm1]<;>rfl)⟩
 all_goals first|(simp_all[D6,Br];done)|((have hw0:Bd m.d=0:=(by omega);simp_all[D6,Br];done))|(grind[D6,Br])
theorem Ah3 (d:Dcd):Fun Tryz.prog 166 [.agg (Bi d)] [] (.v (vB (En d))) []:=by
 have hN:bigN=274877906944:=rfl
 refine Af Tryz.func166 (by kernel_rfl) (by kernel_rfl) (w:=(.br (.leaf () []) (.leaf () []),((!decide (d.mode=9))=true→(.v (vB (decide (d.at_<1000000000))):S)= .v (vB (En d))∧([]:List Blk)=[])∧((!decide (d.mode=9))=false→(.v (vB false):S)= .v (vB (En d))∧([]:List Blk)=[]))) (by kernel_rfl) ?_
 refine⟨fun h1=>have q1:=Am h1;have p1:=of_decide_eq_false q1;?_,fun h1=>have q1:=Aj h1;have p1:=of_decide_eq_true q1;?_⟩
 refine⟨(sB ?_),rfl⟩
 rotate_left
 refine⟨(sB ?_),rfl⟩
 rotate_left
 all_goals first|(simp[En, *];done)|(simp_all[En];done)|(grind[En])
theorem U2  :Fun Tryz.prog 170 [] [] (.tup []) []:=by
 have hN:bigN=274877906944:=rfl
 refine Af Tryz.func170 (by kernel_rfl) (by kernel_rfl) (w:=(.leaf () [],(.tup []:S)= .tup []∧([]:List Blk)=[])) (by kernel_rfl) ?_
 exact⟨rfl,rfl⟩
structure La where
 m:Mac
 v:Nat
def Jv (m:Mac) (s:List UInt8):Fam:=⟨La,fun q1=>[(0,.v (vP 0)),(1,.v (vT s)),(2,.v (.c (.fn 170 []))),(8,.v (vI (s.length:Int))),(9,.v (vI (q1.v:Int)))],fun q1=>[.cells (Ab 4 5 6 q1.m),.dead,.dead,.dead,.tree q1.m.d.plan.shapes,.lst .lev q1.m.d.stack,.lst .ev q1.m.out],fun q1=>q1.v≤s.length∧Ck q1.m (List.drop q1.v s)=Ck m s∧Be (q1.m).d=true∧List.length (q1.m).out≤m.out.length+14*q1.v,fun q1=>s.length-q1.v⟩
theorem Ah4 (m:Mac) (s:List UInt8) (hp1:Be (m).d=true) (hp2:List.length (m).out≤1000000) (hp3:s.length≤1048576):Fun Tryz.prog 115 [vP 0,vT s,.c (.fn 170 [])] [.cells (Ab 1 2 3 m),.tree m.d.plan.shapes,.lst .lev m.d.stack,.lst .ev m.out] (.tup []) [.cells (Ab 4 5 6 (Ck m s)),.dead,.dead,.dead,.tree (Ck m s).d.plan.shapes,.lst .lev (Ck m s).d.stack,.lst .ev (Ck m s).out]:=by
 have hN:bigN=274877906944:=rfl
 refine Af Tryz.func115 (by kernel_rfl) (by kernel_rfl) (w:=let z6:=(s.length:Int);let z7:=Jv m s;(.seg [.at 0,.cut 0 0,.cut 0 5,.cut 0 27,.keep [0,1,2,8,9],.sel [0,1,2,3,4,5,6]] (.loop z7 fun q1=> .br (.seg [.call [] (.v (vB (En q1.m.d))) []] (.br (.intro (fun (x1:UInt8)=>s[q1.v]? =some x1) fun x1=>let z1:=D6 q1.m ((UInt8.toNat x1:Nat):Int);.seg [.ch x1,.as 21 (.v (vI ((UInt8.toNat x1:Nat):Int))),.call [0,4,5,6] (.tup []) [.cells (Ab 4 5 6 z1),.dead,.dead,.dead,.tree z1.d.plan.shapes,.lst .lev z1.d.stack,.lst .ev z1.out],.call [] (.tup []) [],.as 25 (.v (vI ((q1.v:Int)+1))),.at 0,.keep [0,1,2,8,9],.sel [0,1,2,3,7,8,9]] (.next)) (.seg [.call [] (.tup []) [],.as 25 (.v (vI ((q1.v:Int)+1))),.at 0,.keep [0,1,2,8,9],.sel [0,1,2,3,4,5,6]] (.next)))) (.leaf () [0,1,2,3,4,5,6])),z7.Has [(0,.v (vP 0)),(1,.v (vT s)),(2,.v (.c (.fn 170 []))),(8,.v (vI z6)),(9,.v (vI 0))] [.cells (Ab 4 5 6 m),.dead,.dead,.dead,.tree m.d.plan.shapes,.lst .lev m.d.stack,.lst .ev m.out]∧∀q1,z7.inv q1→(let z4:=(q1.v:Int);let z5:List Blk:=[.cells (Ab 4 5 6 q1.m),.dead,.dead,.dead,.tree q1.m.d.plan.shapes,.lst .lev q1.m.d.stack,.lst .ev q1.m.out];((decide (z4<z6))=true→(Fun Tryz.prog 166 [.agg (Bi q1.m.d)] [] (.v (vB (En q1.m.d))) [])∧((En q1.m.d)=true→(∃(x1:UInt8),s[q1.v]? =some x1)∧∀(x1:UInt8),(s[q1.v]? =some x1)→(let z3:=((UInt8.toNat x1:Nat):Int);let z2:=D6 q1.m z3;(s[q1.v]? =some x1)∧((0:Int)≤z4)∧((.v (vI (IntKind.i64.wrap (z3))):S)= .v (vI z3))∧(Fun Tryz.prog 167 [vP 0,vI z3] [.cells (Ab 1 2 3 q1.m),.tree q1.m.d.plan.shapes,.lst .lev q1.m.d.stack,.lst .ev q1.m.out] (.tup []) [.cells (Ab 4 5 6 z2),.dead,.dead,.dead,.tree z2.d.plan.shapes,.lst .lev z2.d.stack,.lst .ev z2.out])∧(Fun Tryz.prog 170 [] [] (.tup []) [])∧((.v (vI (IntKind.i64.wrap (z4+1))):S)= .v (vI (z4+1)))∧z7.Nxt q1 [(0,.v (vP 0)),(1,.v (vT s)),(2,.v (.c (.fn 170 []))),(8,.v (vI z6)),(9,.v (vI (z4+1)))] [.cells (Ab 4 5 6 z2),.dead,.dead,.dead,.tree z2.d.plan.shapes,.lst .lev z2.d.stack,.lst .ev z2.out]))∧((En q1.m.d)=false→(Fun Tryz.prog 170 [] [] (.tup []) [])∧((.v (vI (IntKind.i64.wrap (z4+1))):S)= .v (vI (z4+1)))∧z7.Nxt q1 [(0,.v (vP 0)),(1,.v (vT s)),(2,.v (.c (.fn 170 []))),(8,.v (vI z6)),(9,.v (vI (z4+1)))] z5))∧((decide (z4<z6))=false→(.tup []:S)= .tup []∧(z5:List Blk)=[.cells (Ab 4 5 6 (Ck m s)),.dead,.dead,.dead,.tree (Ck m s).d.plan.shapes,.lst .lev (Ck m s).d.stack,.lst .ev (Ck m s).out])))) (by kernel_rfl) ?_
 refine⟨Bc (j:=(⟨m,0⟩:La)) (by first|rfl|simp) rfl (by dsimp only[Jv];exact⟨by omega,rfl,hp1,by omega⟩),fun (q1:La) hq_q1=>?_⟩
 have hi_q1:q1.v≤s.length∧Ck q1.m (List.drop q1.v s)=Ck m s∧Be (q1.m).d=true∧List.length (q1.m).out≤m.out.length+14*q1.v:=hq_q1
 obtain ⟨v1,v2,v3,v4⟩:=hi_q1
 have hbt:=M2 v3
 have hmw:=Vp v3 hbt
 have hlv:=Bs hmw.lv
 have hpt:=By hlv.1
 refine dsp (fun h1 p1=>?_) fun h1 p1=>?_
 refine⟨(Ah3 q1.m.d),fun h2=>?_,fun h2=>?_⟩
 have hta:En q1.m.d=true:=h2
 have htk:=Aaj hta
 have hst:=Vq v3 htk.1
 refine⟨(Bo (l:=s) (i:=q1.v) (by omega)),fun x1 hx1=>?_⟩
 have hb_x1:=UInt8.toNat_lt x1
 rw[C7 hx1,Gv] at v2
 have hub:=Akh x1
 have hsm:=Aby (m:=q1.m) v3 hta hub
 exact⟨hx1,(by omega),(Ah (by omega) (by omega)),(Ai5 q1.m _ (hmw) (by omega) (by omega) (by omega) (by omega) (hst.2.2.1)),(U2),(Ah (by omega) (by omega)),Bm (j:=(⟨(D6 q1.m ((UInt8.toNat x1:Nat):Int)),q1.v+1⟩:La)) (by first|rfl|simp) rfl (by dsimp only[Jv];first|(exact⟨by omega,by rw[←v2,hsm],by rw[←hsm];exact Rs v3,by rw[←hsm];have:=(Pw (d:=q1.m.d) (b:=(x1.toNat:Int))).2.2.1;simp only[Pv,List.length_append];omega⟩)|(exact⟨by omega,by rw[←v2];exact Uw hnt _ _,v3,by omega⟩)) (by dsimp only[Jv];omega)⟩
 have hnt:En q1.m.d=false:=h2
 exact⟨(U2),(Ah (by omega) (by omega)),Bm (j:=(⟨q1.m,q1.v+1⟩:La)) (by first|rfl|simp) rfl (by dsimp only[Jv];first|(exact⟨by omega,by rw[←v2,hsm],by rw[←hsm];exact Rs v3,by rw[←hsm];have:=(Pw (d:=q1.m.d) (b:=(x1.toNat:Int))).2.2.1;simp only[Pv,List.length_append];omega⟩)|(exact⟨by omega,by rw[←v2];exact Uw hnt _ _,v3,by omega⟩)) (by dsimp only[Jv];omega)⟩
 rw[List.drop_eq_nil_of_le (by omega),Xm] at v2
 refine have hm1:Ck m s=q1.m:=?_;?_
 rotate_left
 exact⟨rfl,(by rw[hm1]<;>rfl)⟩
 all_goals first|((rw[←v2];done))|(rfl)|(grind)
theorem Aef (d:Dcd) (s:List UInt8) (hp1:List.length (d).plan.shapes≤1048576) (hp2: ∀e∈(d).plan.shapes,e.fields.length≤1048576) (hp3:List.length (d).stack≤1048576) (hp4:(0:Int)≤(d).scan.bits∧(d).scan.bits≤18446744073709551615) (hp5:s.length≤1048576):Fun Tryz.prog 123 [.agg (Bi d),vT s] [] (.tup [.agg (Ac 0 1 (Ck ⟨d,[]⟩ s).d),vO 2]) [.tree (Ck ⟨d,[]⟩ s).d.plan.shapes,.lst .lev (Ck ⟨d,[]⟩ s).d.stack,.lst .ev (Ck ⟨d,[]⟩ s).out]:=by
 have hN:bigN=274877906944:=rfl
 refine Af Tryz.func123 (by kernel_rfl) (by kernel_rfl) (w:=let zi:Int→C:= .int .i64;let z1:=Ck (⟨d,([]:List Ev)⟩:Mac) s;let z2:List Blk:=[.cells (Ab 4 5 6 z1),.dead,.dead,.dead,.tree z1.d.plan.shapes,.lst .lev z1.d.stack,.lst .ev z1.out];let z3:=Ck ⟨d,[]⟩ s;(.seg [.call [] (.v (.agg (Ac 0 1 d))) [.tree d.plan.shapes,.lst .lev d.stack],.call [] (.v (vB (Be d))) []] (.br (.seg [.at 4,.mk 4 27 .ev,.call [4,2,3,5] (.tup []) z2,.ord (os 10 [8]) [1]] (.leaf () [6,7,8])) (.seg [.ord (os 10 [8]) [1],.at 0,.mkS 5 .ev] (.leaf () [2,3,5]))),(Fun Tryz.prog 70 [.agg (Bi d)] [] (.v (.agg (Ac 0 1 d))) [.tree d.plan.shapes,.lst .lev d.stack])∧(Fun Tryz.prog 134 [.agg (Bi d)] [] (.v (vB (Be d))) [])∧((Be d)=true→(Fun Tryz.prog 115 [vP 0,vT s,.c (.fn 170 [])] [.cells [.own 1,zi d.plan.root,zi d.plan.deep,zi d.plan.most,zi d.mode,.own 2,.int .u64 d.scan.bits,zi d.scan.have_,zi d.start,zi d.at_,zi d.field.number,zi d.field.kind,.bool d.field.rep,.bool d.field.packed,zi d.field.msg,zi d.wire,zi d.want,zi d.utf.want,zi d.utf.low,zi d.utf.high,zi d.end_.kind,zi d.end_.field,.int .u64 d.end_.bits,zi d.end_.len,.str d.end_.text,zi d.end_.code,zi d.end_.at_,.own 3],.tree d.plan.shapes,.lst .lev d.stack,.lst .ev ([]:List Ev)] (.tup []) z2)∧(.tup [.agg (Ac 0 1 z1.d),vO 2]:S)= .tup [.agg (Ac 0 1 z3.d),vO 2]∧([.tree z1.d.plan.shapes,.lst .lev z1.d.stack,.lst .ev z1.out]:List Blk)=[.tree z3.d.plan.shapes,.lst .lev z3.d.stack,.lst .ev z3.out])∧((Be d)=false→(.tup [.agg (Ac 0 1 d),vO 2]:S)= .tup [.agg (Ac 0 1 z3.d),vO 2]∧([.tree d.plan.shapes,.lst .lev d.stack,.lst .ev ([]:List Ev)]:List Blk)=[.tree z3.d.plan.shapes,.lst .lev z3.d.stack,.lst .ev z3.out]))) (by kernel_rfl) ?_
 refine⟨(K4 d (by omega) (hp2) (by omega)),(Sy d (by omega) (by omega)),fun h1=>?_,fun h1=>?_⟩
 refine⟨(Ah4 (⟨d,([]:List Ev)⟩:Mac) _ (by first|omega|rfl|(dsimp only;omega)) (by simp only[List.length_append,List.length_cons,List.length_nil,List.length_set,List.length_take];omega) (by omega)),?_⟩
 refine have hm1:(Ck ⟨d,[]⟩ s).d=(Ck (⟨d,([]:List Ev)⟩:Mac) s).d:=?_;?_
 rotate_left
 refine have hm2:(Ck ⟨d,[]⟩ s).out=(Ck (⟨d,([]:List Ev)⟩:Mac) s).out:=?_;?_
 rotate_left
 exact⟨(by rw[hm1]<;>rfl),(by rw[hm1,hm2]<;>rfl)⟩
 have hbad:Ck ⟨d,[]⟩ s=⟨d,[]⟩:=Xn (m:=⟨d,[]⟩) (by simpa using h1) s
 refine have hm1:(Ck ⟨d,[]⟩ s).d=d:=?_;?_
 rotate_left
 refine have hm2:(Ck ⟨d,[]⟩ s).out=([]:List Ev):=?_;?_
 rotate_left
 exact⟨(by rw[hm1]<;>rfl),(by rw[hm1,hm2]<;>rfl)⟩
 all_goals first|(rfl)|((rw[hbad];done))|(grind)
end Go.Proofs.YtpchkcpcdbdhdaaGreat.Ax
