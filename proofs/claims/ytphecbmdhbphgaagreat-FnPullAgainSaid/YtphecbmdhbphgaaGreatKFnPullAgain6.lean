/- A byte: the reference. Whole inputs: the reference. Merged events. Chunks. Chunks of an input. Ends of decoders. Ends of an input. New streams. Parts of streams. A read of a stream: the reference. Models: modes. Models: pulls. Pulls: the reference. slices.Concat of events. A read of a stream: the program. Pulls: the program. Pull: the program. -/
import Derived.Test.YtphecbmdhbphgaaGreatKFnPullAgain5
import Derived.Test.YtphecbmdhbphgaaGreatKFnPullAgain1
import Derived.Test.YtphecbmdhbphgaaGreatKFnPullAgain2
import Derived.Test.YtphecbmdhbphgaaGreatKFnPullAgain3
import Derived.Shelf.Spec.SlicesGrow
set_option linter.unusedSimpArgs false
set_option linter.unusedVariables false
namespace Go.Proofs.YtphecbmdhbphgaaGreat.Ax
open Go.RowKit
set_option maxHeartbeats 3200000 in
theorem Z4 (d:Dcd) (b:Int) (hp1:List.length (d).plan.shapes≤1048576) (hp2: ∀e∈(d).plan.shapes,List.length e.fields≤1048576) (hp3:List.length (d).stack≤1048576) (hp4:(0:Int)≤(d).scan.bits∧(d).scan.bits≤18446744073709551615):Fun Tryz.prog 24 [.agg (Bs d),vI b] [] (.tup [.agg (Ae 0 1 (Cp d b).d),vO 2]) [.tree (Cp d b).d.plan.shapes,.lst .lev (Cp d b).d.stack,.lst .ev (Cp d b).out]:=by
 have hN:A8=274877906944:=rfl
 refine Aq Tryz.func24 Q4 Q4 (w:=let zi:Int→C:= .int .i64;let z14:List C:=[zi 4,zi 0,.int .u64 0,zi 0,.str (List.map Bh [b]),zi 0,zi 0];let z15:List C:=[zi d.end_.kind,zi d.end_.field,.int .u64 d.end_.bits,zi d.end_.len,.str d.end_.text,zi d.end_.code,zi d.end_.at_];let z16:=(⟨d.plan,d.mode,d.stack,d.scan,d.start,d.at_+1,d.field,d.wire,d.want-1,d.utf,d.end_⟩:Dcd);let z17:=(⟨d.plan,d.mode,d.stack,d.scan,d.start,d.at_+1,d.field,d.wire,d.want,d.utf,d.end_⟩:Dcd);let z19:S:= .tup [.agg (Ae 0 1 (Cp d b).d),vO 2];let z20:=((List.length d.stack:Nat):Int);let z21:=Ls (Cp d b).d (Cp d b).out;let z22:=(⟨4,0,0,0,List.map Bh [b],0,0⟩:Ev);let z23:=Af ⟨z16,[]⟩;let z24:S:= .v (vI (Bu d));let z26:=(.v (.c (.int .u8 (IntKind.u8.wrap (b)))):S)= .v (.c (.int .u8 b));let z27:=Lf (.tup [.agg (Ae 0 1 d),vO 2]) z19 (Ls d ([]:List Ev)) z21;let z28:S:= .tup [.agg (Ae 2 3 z23.d),vO 4];let z29:=Bx ⟨z16,[]⟩ b d.at_;let z30:=Bx ⟨z17,[]⟩ b d.at_;let z31:=decide (d.mode=7);let z33:=decide (d.mode=6);let z34:=D2 ⟨z16,[]⟩ b;let z35:=D2 ⟨z17,[]⟩ b;let z36:=d.want-1;let z37:=Int.toNat (z20-1);let z38:List Blk:= .dead:: .dead::Ls z23.d z23.out;let z39:=A9 z16 5 d.at_;let z40:S:= .tup [.agg (Ae 0 1 z23.d),vO 2];let z41:=decide (0<Bu d);let z42:S:= .v (.c (.int .u8 b));let z43:=(0:Int)≤z20-1;let z44:S:= .v (vI z36);let z45:=By d.utf b;let z25:=z45.getD d.utf;let z18:=Af ⟨(⟨d.plan,d.mode,d.stack,d.scan,d.start,d.at_+1,d.field,d.wire,d.want-1,z25,d.end_⟩:Dcd),[]⟩;let z32:S:= .tup [.agg (K3 z25),vB z45.isSome];let z46:=z20-1<z20;let z47:S:= .tup [.agg (Ae 2 3 z18.d),vO 4];let z48:S:= .tup [.agg (Ae 2 3 z34.d),vO 4];let z49:S:= .tup [.agg (Ae 2 3 z29.d),vO 4];let z50:S:= .tup [.agg (Ae 2 3 z35.d),vO 4];let z51:S:= .tup [.agg (Ae 2 3 z30.d),vO 4];let z52:List Blk:= .dead:: .dead::Ls z18.d (z22::z18.out);let z53:List Blk:= .dead:: .dead::Ls z23.d (z22::z23.out);let z54:S:= .tup [.agg (Ae 2 3 z39),vO 4];let z55:=wI (z20-1);let z56:=d.at_+1;let z11:List C:= .own 0::zi d.plan.root::zi d.plan.deep::zi d.plan.most::zi d.mode:: .own 1:: .int .u64 d.scan.bits::zi d.scan.have_::zi d.start::zi z56::zi d.field.number::zi d.field.kind:: .bool d.field.rep:: .bool d.field.packed::zi d.field.msg::zi d.wire::zi z36::zi d.utf.want::zi d.utf.low::zi d.utf.high::z15;let z12:List C:= .own 0::zi d.plan.root::zi d.plan.deep::zi d.plan.most::zi d.mode:: .own 1:: .int .u64 d.scan.bits::zi d.scan.have_::zi d.start::zi z56::zi d.field.number::zi d.field.kind:: .bool d.field.rep:: .bool d.field.packed::zi d.field.msg::zi d.wire::zi d.want::zi d.utf.want::zi d.utf.low::zi d.utf.high::z15;let z13:List C:= .own 0::zi d.plan.root::zi d.plan.deep::zi d.plan.most::zi d.mode:: .own 1:: .int .u64 d.scan.bits::zi d.scan.have_::zi d.start::zi z56::zi d.field.number::zi d.field.kind:: .bool d.field.rep:: .bool d.field.packed::zi d.field.msg::zi d.wire::zi z36::zi z25.want::zi z25.low::zi z25.high::z15;let z57:List Blk:= .dead:: .dead::Ls z39 [A3 5 d.at_];let z58:=z31=false;let z59:=z33=false;(.seg [.call [] (.v (.agg (Ae 0 1 d))) (L2 d),.call [] (.v (vB (Bv d))) []] (.br (.seg [.ty .ev] (.leaf () [2,3,5])) (.br (.seg [.ty .ev] (.leaf () [2,3,5])) (.seg [.call [] (.v (vB (Ak b 0 255))) []] (.br (.seg [.ty .ev] (.leaf () [2,3,5])) (.br (.seg [.ty .ev] (.leaf () [2,3,5])) (.seg [.as 35 (.v (vI z56))] (.br (.intro (Sx (d.stack[Int.toNat (z20-1)]?)) fun x1=>let z4:=(⟨x1.msg,x1.left-1⟩:Lev);let z1:=(⟨d.plan,d.mode,List.set d.stack z37 z4,d.scan,d.start,d.at_+1,d.field,d.wire,d.want-1,d.utf,d.end_⟩:Dcd);let z2:=(⟨d.plan,d.mode,List.set d.stack z37 z4,d.scan,d.start,d.at_+1,d.field,d.wire,d.want,d.utf,d.end_⟩:Dcd);let z3:=Af ⟨(⟨d.plan,d.mode,List.set d.stack z37 z4,d.scan,d.start,d.at_+1,d.field,d.wire,d.want-1,z25,d.end_⟩:Dcd),[]⟩;.seg [.ord (os 15 [14]) [],.as 45 (.v (vI (z20-1))),.as 49 (.v (vI (z20-1))),.el .lev x1,.as 53 (.v (vI (x1.left-1))),.el .lev x1] (.br (.seg [.as 71 z44,.call [] z24 []] (.br (.seg [.call [2,3] (.tup [.agg (Ae 2 3 (Af ⟨z1,[]⟩).d),vO 4]) (.dead:: .dead::Ls (Af ⟨z1,[]⟩).d (Af ⟨z1,[]⟩).out)] (.leaf () [5,6,7])) (.seg [.br true] (.br (.seg [.call [] z32 []] (.br (.seg [.call [2,3] (.tup [.agg (Ae 2 3 (A9 z1 5 d.at_)),vO 4]) (.dead:: .dead::Ls (A9 z1 5 d.at_) [A3 5 d.at_])] (.leaf () [6,7,8])) (.seg [.as 110 z42,.ty .u8,.call [2,3] (.tup [.agg (Ae 2 3 z3.d),vO 4]) (.dead:: .dead::Ls z3.d (z22::z3.out))] (.leaf () [7,8,9])))) (.seg [.as 110 z42,.ty .u8,.call [2,3] (.tup [.agg (Ae 2 3 (Af ⟨z1,[]⟩).d),vO 4]) (.dead:: .dead::Ls (Af ⟨z1,[]⟩).d (z22::(Af ⟨z1,[]⟩).out))] (.leaf () [6,7,8])))))) (.br (.seg [.as 71 z44,.call [] z24 [],.br true,.call [2,3] (.tup [.agg (Ae 2 3 (Af ⟨z1,[]⟩).d),vO 4]) (.dead:: .dead::Ls (Af ⟨z1,[]⟩).d (Af ⟨z1,[]⟩).out)] (.leaf () [5,6,7])) (.br (.seg [.as 71 z44,.call [] z24 [],.br false,.br false] (.br (.seg [.call [2,3] (.tup [.agg (Ae 2 3 (D2 ⟨z1,[]⟩ b).d),vO 4]) (.dead:: .dead::Ls (D2 ⟨z1,[]⟩ b).d (D2 ⟨z1,[]⟩ b).out)] (.leaf () [5,6,7])) (.seg [.call [2,3] (.tup [.agg (Ae 2 3 (Bx ⟨z1,[]⟩ b d.at_).d),vO 4]) (.dead:: .dead::Ls (Bx ⟨z1,[]⟩ b d.at_).d (Bx ⟨z1,[]⟩ b d.at_).out)] (.leaf () [5,6,7])))) (.seg [.call [] z24 [],.br false,.br false] (.br (.seg [.call [2,3] (.tup [.agg (Ae 2 3 (D2 ⟨z2,[]⟩ b).d),vO 4]) (.dead:: .dead::Ls (D2 ⟨z2,[]⟩ b).d (D2 ⟨z2,[]⟩ b).out)] (.leaf () [5,6,7])) (.seg [.call [2,3] (.tup [.agg (Ae 2 3 (Bx ⟨z2,[]⟩ b d.at_).d),vO 4]) (.dead:: .dead::Ls (Bx ⟨z2,[]⟩ b d.at_).d (Bx ⟨z2,[]⟩ b d.at_).out)] (.leaf () [5,6,7])))))))) (.br (.seg [.as 71 z44,.call [] z24 []] (.br (.seg [.call [2,3] z28 z38] (.leaf () [5,6,7])) (.seg [.br true] (.br (.seg [.call [] z32 []] (.br (.seg [.call [2,3] z54 z57] (.leaf () [6,7,8])) (.seg [.as 110 z42,.ty .u8,.call [2,3] z47 z52] (.leaf () [7,8,9])))) (.seg [.as 110 z42,.ty .u8,.call [2,3] z28 z53] (.leaf () [6,7,8])))))) (.br (.seg [.as 71 z44,.call [] z24 [],.br true,.call [2,3] z28 z38] (.leaf () [5,6,7])) (.br (.seg [.as 71 z44,.call [] z24 [],.br false,.br false] (.br (.seg [.call [2,3] z48 (.dead:: .dead::Ls z34.d z34.out)] (.leaf () [5,6,7])) (.seg [.call [2,3] z49 (.dead:: .dead::Ls z29.d z29.out)] (.leaf () [5,6,7])))) (.seg [.call [] z24 [],.br false,.br false] (.br (.seg [.call [2,3] z50 (.dead:: .dead::Ls z35.d z35.out)] (.leaf () [5,6,7])) (.seg [.call [2,3] z51 (.dead:: .dead::Ls z30.d z30.out)] (.leaf () [5,6,7])))))))))))))),(Fp 59 [.agg (Bs d)] [] (.v (.agg (Ae 0 1 d))) (L2 d))∧(Fp 60 [.agg (Bs d)] [] (.v (vB (Bv d))) [])∧Bc (!(Bv d)) z27 (Bc (decide (d.mode=9)) z27 ((Fp 44 [vI b,vI 0,vI 255] [] (.v (vB (Ak b 0 255))) [])∧Bc (!(Ak b 0 255)) z27 (Bc (decide (d.at_=1000000000)) z27 ((wI z56)∧Bc (decide (0<z20)) (El (d.stack[Int.toNat (z20-1)]?) fun x1=>(let z9:=d.stack[Int.toNat (z20-1)]? =some x1;let z10:=(⟨x1.msg,x1.left-1⟩:Lev);let z5:=(⟨d.plan,d.mode,List.set d.stack z37 z10,d.scan,d.start,d.at_+1,d.field,d.wire,d.want-1,d.utf,d.end_⟩:Dcd);let z6:=(⟨d.plan,d.mode,List.set d.stack z37 z10,d.scan,d.start,d.at_+1,d.field,d.wire,d.want,d.utf,d.end_⟩:Dcd);let z7:=Af ⟨(⟨d.plan,d.mode,List.set d.stack z37 z10,d.scan,d.start,d.at_+1,d.field,d.wire,d.want-1,z25,d.end_⟩:Dcd),[]⟩;let z8:=List.set d.stack z37 z10;z55∧z55∧z55∧z55∧z46∧z43∧z46∧z43∧z9∧z9∧(wI (x1.left-1))∧(wI (x1.left-1))∧z46∧z43∧z46∧z43∧z9∧Bc z33 ((wI z36)∧(Fp 61 [.agg (Bs d)] [] z24 [])∧Bc z31 ((Fp 62 [.agg z11] [.tree d.plan.shapes,.lst .lev z8] (.tup [.agg (Ae 2 3 (Af ⟨z5,[]⟩).d),vO 4]) (.dead:: .dead::Ls (Af ⟨z5,[]⟩).d (Af ⟨z5,[]⟩).out))∧Lf (.tup [.agg (Ae 0 1 (Af ⟨z5,[]⟩).d),vO 2]) z19 (Ls (Af ⟨z5,[]⟩).d (Af ⟨z5,[]⟩).out) z21) ((z33=true)∧Bc (decide (d.field.kind=6)) ((Fp 63 [.agg (K3 d.utf),vI b] [] z32 [])∧Bc (!z45.isSome) ((Fp 64 [.agg z11,vI 5,vI d.at_] [.tree d.plan.shapes,.lst .lev z8] (.tup [.agg (Ae 2 3 (A9 z5 5 d.at_)),vO 4]) (.dead:: .dead::Ls (A9 z5 5 d.at_) [A3 5 d.at_]))∧Lf (.tup [.agg (Ae 0 1 (A9 z5 5 d.at_)),vO 2]) z19 (Ls (A9 z5 5 d.at_) [A3 5 d.at_]) z21) (z26∧(Fp 65 [.agg z13,.agg z14] [.tree d.plan.shapes,.lst .lev z8] (.tup [.agg (Ae 2 3 z7.d),vO 4]) (.dead:: .dead::Ls z7.d (z22::z7.out)))∧Lf (.tup [.agg (Ae 0 1 z7.d),vO 2]) z19 (Ls z7.d (z22::z7.out)) z21)) (z26∧(Fp 65 [.agg z11,.agg z14] [.tree d.plan.shapes,.lst .lev z8] (.tup [.agg (Ae 2 3 (Af ⟨z5,[]⟩).d),vO 4]) (.dead:: .dead::Ls (Af ⟨z5,[]⟩).d (z22::(Af ⟨z5,[]⟩).out)))∧Lf (.tup [.agg (Ae 0 1 (Af ⟨z5,[]⟩).d),vO 2]) z19 (Ls (Af ⟨z5,[]⟩).d (z22::(Af ⟨z5,[]⟩).out)) z21))) (Bc z31 ((wI z36)∧(Fp 61 [.agg (Bs d)] [] z24 [])∧(z31=true)∧(Fp 62 [.agg z11] [.tree d.plan.shapes,.lst .lev z8] (.tup [.agg (Ae 2 3 (Af ⟨z5,[]⟩).d),vO 4]) (.dead:: .dead::Ls (Af ⟨z5,[]⟩).d (Af ⟨z5,[]⟩).out))∧Lf (.tup [.agg (Ae 0 1 (Af ⟨z5,[]⟩).d),vO 2]) z19 (Ls (Af ⟨z5,[]⟩).d (Af ⟨z5,[]⟩).out) z21) (Bc (decide (d.mode=8)) ((wI z36)∧(Fp 61 [.agg (Bs d)] [] z24 [])∧z58∧z59∧Bc z41 ((Fp 66 [.agg z11,vI b,vI (Bu d)] [.tree d.plan.shapes,.lst .lev z8] (.tup [.agg (Ae 2 3 (D2 ⟨z5,[]⟩ b).d),vO 4]) (.dead:: .dead::Ls (D2 ⟨z5,[]⟩ b).d (D2 ⟨z5,[]⟩ b).out))∧Lf (.tup [.agg (Ae 0 1 (D2 ⟨z5,[]⟩ b).d),vO 2]) z19 (Ls (D2 ⟨z5,[]⟩ b).d (D2 ⟨z5,[]⟩ b).out) z21) ((Fp 67 [.agg z11,vI b,vI d.at_] [.tree d.plan.shapes,.lst .lev z8] (.tup [.agg (Ae 2 3 (Bx ⟨z5,[]⟩ b d.at_).d),vO 4]) (.dead:: .dead::Ls (Bx ⟨z5,[]⟩ b d.at_).d (Bx ⟨z5,[]⟩ b d.at_).out))∧Lf (.tup [.agg (Ae 0 1 (Bx ⟨z5,[]⟩ b d.at_).d),vO 2]) z19 (Ls (Bx ⟨z5,[]⟩ b d.at_).d (Bx ⟨z5,[]⟩ b d.at_).out) z21)) ((Fp 61 [.agg (Bs d)] [] z24 [])∧z58∧z59∧Bc z41 ((Fp 66 [.agg z12,vI b,vI (Bu d)] [.tree d.plan.shapes,.lst .lev z8] (.tup [.agg (Ae 2 3 (D2 ⟨z6,[]⟩ b).d),vO 4]) (.dead:: .dead::Ls (D2 ⟨z6,[]⟩ b).d (D2 ⟨z6,[]⟩ b).out))∧Lf (.tup [.agg (Ae 0 1 (D2 ⟨z6,[]⟩ b).d),vO 2]) z19 (Ls (D2 ⟨z6,[]⟩ b).d (D2 ⟨z6,[]⟩ b).out) z21) ((Fp 67 [.agg z12,vI b,vI d.at_] [.tree d.plan.shapes,.lst .lev z8] (.tup [.agg (Ae 2 3 (Bx ⟨z6,[]⟩ b d.at_).d),vO 4]) (.dead:: .dead::Ls (Bx ⟨z6,[]⟩ b d.at_).d (Bx ⟨z6,[]⟩ b d.at_).out))∧Lf (.tup [.agg (Ae 0 1 (Bx ⟨z6,[]⟩ b d.at_).d),vO 2]) z19 (Ls (Bx ⟨z6,[]⟩ b d.at_).d (Bx ⟨z6,[]⟩ b d.at_).out) z21)))))) (Bc z33 ((wI z36)∧(Fp 61 [.agg (Bs d)] [] z24 [])∧Bc z31 ((Fp 62 [.agg z11] (L2 d) z28 z38)∧Lf z40 z19 (Ls z23.d z23.out) z21) ((z33=true)∧Bc (decide (d.field.kind=6)) ((Fp 63 [.agg (K3 d.utf),vI b] [] z32 [])∧Bc (!z45.isSome) ((Fp 64 [.agg z11,vI 5,vI d.at_] (L2 d) z54 z57)∧Lf (.tup [.agg (Ae 0 1 z39),vO 2]) z19 (Ls z39 [A3 5 d.at_]) z21) (z26∧(Fp 65 [.agg z13,.agg z14] (L2 d) z47 z52)∧Lf (.tup [.agg (Ae 0 1 z18.d),vO 2]) z19 (Ls z18.d (z22::z18.out)) z21)) (z26∧(Fp 65 [.agg z11,.agg z14] (L2 d) z28 z53)∧Lf z40 z19 (Ls z23.d (z22::z23.out)) z21))) (Bc z31 ((wI z36)∧(Fp 61 [.agg (Bs d)] [] z24 [])∧(z31=true)∧(Fp 62 [.agg z11] (L2 d) z28 z38)∧Lf z40 z19 (Ls z23.d z23.out) z21) (Bc (decide (d.mode=8)) ((wI z36)∧(Fp 61 [.agg (Bs d)] [] z24 [])∧z58∧z59∧Bc z41 ((Fp 66 [.agg z11,vI b,vI (Bu d)] (L2 d) z48 (.dead:: .dead::Ls z34.d z34.out))∧Lf (.tup [.agg (Ae 0 1 z34.d),vO 2]) z19 (Ls z34.d z34.out) z21) ((Fp 67 [.agg z11,vI b,vI d.at_] (L2 d) z49 (.dead:: .dead::Ls z29.d z29.out))∧Lf (.tup [.agg (Ae 0 1 z29.d),vO 2]) z19 (Ls z29.d z29.out) z21)) ((Fp 61 [.agg (Bs d)] [] z24 [])∧z58∧z59∧Bc z41 ((Fp 66 [.agg z12,vI b,vI (Bu d)] (L2 d) z50 (.dead:: .dead::Ls z35.d z35.out))∧Lf (.tup [.agg (Ae 0 1 z35.d),vO 2]) z19 (Ls z35.d z35.out) z21) ((Fp 67 [.agg z12,vI b,vI d.at_] (L2 d) z51 (.dead:: .dead::Ls z30.d z30.out))∧Lf (.tup [.agg (Ae 0 1 z30.d),vO 2]) z19 (Ls z30.d z30.out) z21))))))))))) Q4 ?_
 refine⟨(Ge d Q2 (hp2) Q2),(W6 d Q2 Q2),fun h1=>have q1:=An h1;?_,fun h1=>have q1:=Am h1;?_⟩
 refine zD ((Cp d b).d) d ((Cp d b).out) ([]:List Ev) (fun hm1 hm2=>⟨Q6,Q10⟩) ?_ ?_
 rotate_left 2
 have hok:Bv d=true:=q1
 have hmw:=Zq hok hp4
 have hlv:=B7 hmw.lv
 have hpt:=Cj hlv.1
 have htb:=Hu hmw.lv
 have hbb:=hmw.b0
 have hat:=hmw.at_
 have hwt:=hmw.want
 have hwd:=Kb d
 refine dsp (fun h2 p2=>?_) fun h2 p2=>?_
 refine zD ((Cp d b).d) d ((Cp d b).out) ([]:List Ev) (fun hm1 hm2=>⟨Q6,Q10⟩) ?_ ?_
 rotate_left 2
 have hst:=Zr hok (by simpa using h2)
 refine⟨(Bf _ _ _),fun h3=>have q3:=An h3;have p3:=Ay q3;?_,fun h3=>have q3:=Am h3;have p3:=As q3;?_⟩
 refine zD ((Cp d b).d) d ((Cp d b).out) ([]:List Ev) (fun hm1 hm2=>⟨Q6,Q10⟩) ?_ ?_
 rotate_left 2
 have hwi:=As q3
 refine dsp (fun h4 p4=>?_) fun h4 p4=>?_
 refine zD ((Cp d b).d) d ((Cp d b).out) ([]:List Ev) (fun hm1 hm2=>⟨Q6,Q10⟩) ?_ ?_
 rotate_left 2
 have hms:=hmw.step hst.1 hst.2.1 hst.2.2.1
 have htk:Fi d=true:=by simp only[Fi,Bool.and_eq_true,Bool.not_eq_true',decide_eq_false_iff_not,decide_eq_true_eq];omega
 have hsb:Cp d b=Ep ⟨d,[]⟩ b:=by unfold Cp;rw[if_pos ⟨hok,htk,by assumption⟩]
 refine⟨(Ad Q2 Q2),dsp (fun h5 p5=>?_) fun h5 p5=>?_⟩
 have hne:d.stack≠[]:=fun e=>by have:=congrArg List.length e;simp only[List.length_nil] at this;omega
 refine⟨(Bm (l:=d.stack) (i:=Int.toNat (((List.length d.stack:Nat):Int)-1)) Q2),fun x1 hx1=>?_⟩
 have hll:=J7 (d:=d) (by rw[←hx1];congr 1;omega)
 have hix:Int.toNat ((d.stack.length:Int)-1)=d.stack.length-1:=by omega
 refine⟨(Ad Q2 Q2),(Ad Q2 Q2),(Ad Q2 Q2),(Ad Q2 Q2),Q2,Q2,Q2,Q2,hx1,hx1,(Ad Q2 Q2),(Ad Q2 Q2),Q2,Q2,Q2,Q2,hx1,dsp (fun h6 p6=>?_) fun h6 p6=>?_⟩
 refine⟨(Ad Q2 Q2),(Ka d),dsp (fun h7 p7=>?_) fun h7 p7=>?_⟩
 refine zM Mac.d Mac.out (Cp d b) (Af ⟨(⟨d.plan,d.mode,List.set d.stack (Int.toNat (((List.length d.stack:Nat):Int)-1)) (⟨x1.msg,x1.left-1⟩:Lev),d.scan,d.start,d.at_+1,d.field,d.wire,d.want-1,d.utf,d.end_⟩:Dcd),[]⟩) (fun hm1 hm2=>⟨(Jc (⟨d.plan,d.mode,List.set d.stack (Int.toNat (((List.length d.stack:Nat):Int)-1)) (⟨x1.msg,x1.left-1⟩:Lev),d.scan,d.start,d.at_+1,d.field,d.wire,d.want-1,d.utf,d.end_⟩:Dcd) Q18),Q6,Q10⟩) ?_ ?_
 rotate_left 2
 refine⟨h6,dsp (fun h8 p8=>?_) fun h8 p8=>?_⟩
 refine⟨(Tf d.utf _),fun h9=>have q9:=An h9;?_,fun h9=>have q9:=Am h9;?_⟩
 have hu:By d.utf b=none:=by simpa using q9
 refine zD ((Cp d b).d) (A9 (⟨d.plan,d.mode,List.set d.stack (Int.toNat (((List.length d.stack:Nat):Int)-1)) (⟨x1.msg,x1.left-1⟩:Lev),d.scan,d.start,d.at_+1,d.field,d.wire,d.want-1,d.utf,d.end_⟩:Dcd) 5 d.at_) ((Cp d b).out) [A3 5 d.at_] (fun hm1 hm2=>⟨(C7 (⟨d.plan,d.mode,List.set d.stack (Int.toNat (((List.length d.stack:Nat):Int)-1)) (⟨x1.msg,x1.left-1⟩:Lev),d.scan,d.start,d.at_+1,d.field,d.wire,d.want-1,d.utf,d.end_⟩:Dcd) _ _),Q6,Q10⟩) ?_ ?_
 rotate_left 2
 obtain ⟨u,hu⟩:=Option.isSome_iff_exists.1 q9
 have hug:(By d.utf b).getD d.utf=u:=by rw[hu];rfl
 refine zD ((Cp d b).d) ((Af ⟨(⟨d.plan,d.mode,List.set d.stack (Int.toNat (((List.length d.stack:Nat):Int)-1)) (⟨x1.msg,x1.left-1⟩:Lev),d.scan,d.start,d.at_+1,d.field,d.wire,d.want-1,((By d.utf b).getD d.utf),d.end_⟩:Dcd),[]⟩).d) ((Cp d b).out) ((⟨4,0,0,0,List.map Bh [b],0,0⟩:Ev)::(Af ⟨(⟨d.plan,d.mode,List.set d.stack (Int.toNat (((List.length d.stack:Nat):Int)-1)) (⟨x1.msg,x1.left-1⟩:Lev),d.scan,d.start,d.at_+1,d.field,d.wire,d.want-1,((By d.utf b).getD d.utf),d.end_⟩:Dcd),[]⟩).out) (fun hm1 hm2=>⟨(Mn Q2 Q2),(Jd (⟨d.plan,d.mode,List.set d.stack (Int.toNat (((List.length d.stack:Nat):Int)-1)) (⟨x1.msg,x1.left-1⟩:Lev),d.scan,d.start,d.at_+1,d.field,d.wire,d.want-1,((By d.utf b).getD d.utf),d.end_⟩:Dcd) (⟨4,0,0,0,List.map Bh [b],0,0⟩:Ev) Q18),Q6,Q10⟩) ?_ ?_
 rotate_left 2
 refine zD ((Cp d b).d) ((Af ⟨(⟨d.plan,d.mode,List.set d.stack (Int.toNat (((List.length d.stack:Nat):Int)-1)) (⟨x1.msg,x1.left-1⟩:Lev),d.scan,d.start,d.at_+1,d.field,d.wire,d.want-1,d.utf,d.end_⟩:Dcd),[]⟩).d) ((Cp d b).out) ((⟨4,0,0,0,List.map Bh [b],0,0⟩:Ev)::(Af ⟨(⟨d.plan,d.mode,List.set d.stack (Int.toNat (((List.length d.stack:Nat):Int)-1)) (⟨x1.msg,x1.left-1⟩:Lev),d.scan,d.start,d.at_+1,d.field,d.wire,d.want-1,d.utf,d.end_⟩:Dcd),[]⟩).out) (fun hm1 hm2=>⟨(Mn Q2 Q2),(Jd (⟨d.plan,d.mode,List.set d.stack (Int.toNat (((List.length d.stack:Nat):Int)-1)) (⟨x1.msg,x1.left-1⟩:Lev),d.scan,d.start,d.at_+1,d.field,d.wire,d.want-1,d.utf,d.end_⟩:Dcd) (⟨4,0,0,0,List.map Bh [b],0,0⟩:Ev) Q18),Q6,Q10⟩) ?_ ?_
 rotate_left 2
 refine dsp (fun h7 p7=>?_) fun h7 p7=>?_
 refine zM Mac.d Mac.out (Cp d b) (Af ⟨(⟨d.plan,d.mode,List.set d.stack (Int.toNat (((List.length d.stack:Nat):Int)-1)) (⟨x1.msg,x1.left-1⟩:Lev),d.scan,d.start,d.at_+1,d.field,d.wire,d.want-1,d.utf,d.end_⟩:Dcd),[]⟩) (fun hm1 hm2=>⟨(Ad Q2 Q2),(Ka d),h7,(Jc (⟨d.plan,d.mode,List.set d.stack (Int.toNat (((List.length d.stack:Nat):Int)-1)) (⟨x1.msg,x1.left-1⟩:Lev),d.scan,d.start,d.at_+1,d.field,d.wire,d.want-1,d.utf,d.end_⟩:Dcd) Q18),Q6,Q10⟩) ?_ ?_
 rotate_left 2
 refine dsp (fun h8 p8=>?_) fun h8 p8=>?_
 refine⟨(Ad Q2 Q2),(Ka d),h7,h6,dsp (fun h9 p9=>?_) fun h9 p9=>?_⟩
 refine zM Mac.d Mac.out (Cp d b) (D2 ⟨(⟨d.plan,d.mode,List.set d.stack (Int.toNat (((List.length d.stack:Nat):Int)-1)) (⟨x1.msg,x1.left-1⟩:Lev),d.scan,d.start,d.at_+1,d.field,d.wire,d.want-1,d.utf,d.end_⟩:Dcd),[]⟩ b) (fun hm1 hm2=>⟨(Z3 (⟨d.plan,d.mode,List.set d.stack (Int.toNat (((List.length d.stack:Nat):Int)-1)) (⟨x1.msg,x1.left-1⟩:Lev),d.scan,d.start,d.at_+1,d.field,d.wire,d.want-1,d.utf,d.end_⟩:Dcd) _ _ (Q45) Q2 Q7 (hst.2.2.2.1)),Q6,Q10⟩) ?_ ?_
 rotate_left 2
 refine zM Mac.d Mac.out (Cp d b) (Bx ⟨(⟨d.plan,d.mode,List.set d.stack (Int.toNat (((List.length d.stack:Nat):Int)-1)) (⟨x1.msg,x1.left-1⟩:Lev),d.scan,d.start,d.at_+1,d.field,d.wire,d.want-1,d.utf,d.end_⟩:Dcd),[]⟩ b d.at_) (fun hm1 hm2=>⟨(Vr (⟨d.plan,d.mode,List.set d.stack (Int.toNat (((List.length d.stack:Nat):Int)-1)) (⟨x1.msg,x1.left-1⟩:Lev),d.scan,d.start,d.at_+1,d.field,d.wire,d.want-1,d.utf,d.end_⟩:Dcd) _ _ (Q45) Q2),Q6,Q10⟩) ?_ ?_
 rotate_left 2
 refine⟨(Ka d),h7,h6,dsp (fun h9 p9=>?_) fun h9 p9=>?_⟩
 refine zM Mac.d Mac.out (Cp d b) (D2 ⟨(⟨d.plan,d.mode,List.set d.stack (Int.toNat (((List.length d.stack:Nat):Int)-1)) (⟨x1.msg,x1.left-1⟩:Lev),d.scan,d.start,d.at_+1,d.field,d.wire,d.want,d.utf,d.end_⟩:Dcd),[]⟩ b) (fun hm1 hm2=>⟨(Z3 (⟨d.plan,d.mode,List.set d.stack (Int.toNat (((List.length d.stack:Nat):Int)-1)) (⟨x1.msg,x1.left-1⟩:Lev),d.scan,d.start,d.at_+1,d.field,d.wire,d.want,d.utf,d.end_⟩:Dcd) _ _ (Q46) Q2 Q7 (hst.2.2.2.1)),Q6,Q10⟩) ?_ ?_
 rotate_left 2
 refine zM Mac.d Mac.out (Cp d b) (Bx ⟨(⟨d.plan,d.mode,List.set d.stack (Int.toNat (((List.length d.stack:Nat):Int)-1)) (⟨x1.msg,x1.left-1⟩:Lev),d.scan,d.start,d.at_+1,d.field,d.wire,d.want,d.utf,d.end_⟩:Dcd),[]⟩ b d.at_) (fun hm1 hm2=>⟨(Vr (⟨d.plan,d.mode,List.set d.stack (Int.toNat (((List.length d.stack:Nat):Int)-1)) (⟨x1.msg,x1.left-1⟩:Lev),d.scan,d.start,d.at_+1,d.field,d.wire,d.want,d.utf,d.end_⟩:Dcd) _ _ (Q46) Q2),Q6,Q10⟩) ?_ ?_
 rotate_left 2
 have hne:d.stack=[]:=List.eq_nil_of_length_eq_zero (by omega)
 refine dsp (fun h6 p6=>?_) fun h6 p6=>?_
 refine⟨(Ad Q2 Q2),(Ka d),dsp (fun h7 p7=>?_) fun h7 p7=>?_⟩
 refine zM Mac.d Mac.out (Cp d b) (Af ⟨(⟨d.plan,d.mode,d.stack,d.scan,d.start,d.at_+1,d.field,d.wire,d.want-1,d.utf,d.end_⟩:Dcd),[]⟩) (fun hm1 hm2=>⟨(Jc (⟨d.plan,d.mode,d.stack,d.scan,d.start,d.at_+1,d.field,d.wire,d.want-1,d.utf,d.end_⟩:Dcd) Q7),Q6,Q10⟩) ?_ ?_
 rotate_left 2
 refine⟨h6,dsp (fun h8 p8=>?_) fun h8 p8=>?_⟩
 refine⟨(Tf d.utf _),fun h9=>have q9:=An h9;?_,fun h9=>have q9:=Am h9;?_⟩
 have hu:By d.utf b=none:=by simpa using q9
 refine zD ((Cp d b).d) (A9 (⟨d.plan,d.mode,d.stack,d.scan,d.start,d.at_+1,d.field,d.wire,d.want-1,d.utf,d.end_⟩:Dcd) 5 d.at_) ((Cp d b).out) [A3 5 d.at_] (fun hm1 hm2=>⟨(C7 (⟨d.plan,d.mode,d.stack,d.scan,d.start,d.at_+1,d.field,d.wire,d.want-1,d.utf,d.end_⟩:Dcd) _ _),Q6,Q10⟩) ?_ ?_
 rotate_left 2
 obtain ⟨u,hu⟩:=Option.isSome_iff_exists.1 q9
 have hug:(By d.utf b).getD d.utf=u:=by rw[hu];rfl
 refine zD ((Cp d b).d) ((Af ⟨(⟨d.plan,d.mode,d.stack,d.scan,d.start,d.at_+1,d.field,d.wire,d.want-1,((By d.utf b).getD d.utf),d.end_⟩:Dcd),[]⟩).d) ((Cp d b).out) ((⟨4,0,0,0,List.map Bh [b],0,0⟩:Ev)::(Af ⟨(⟨d.plan,d.mode,d.stack,d.scan,d.start,d.at_+1,d.field,d.wire,d.want-1,((By d.utf b).getD d.utf),d.end_⟩:Dcd),[]⟩).out) (fun hm1 hm2=>⟨(Mn Q2 Q2),(Jd (⟨d.plan,d.mode,d.stack,d.scan,d.start,d.at_+1,d.field,d.wire,d.want-1,((By d.utf b).getD d.utf),d.end_⟩:Dcd) (⟨4,0,0,0,List.map Bh [b],0,0⟩:Ev) Q7),Q6,Q10⟩) ?_ ?_
 rotate_left 2
 refine zD ((Cp d b).d) ((Af ⟨(⟨d.plan,d.mode,d.stack,d.scan,d.start,d.at_+1,d.field,d.wire,d.want-1,d.utf,d.end_⟩:Dcd),[]⟩).d) ((Cp d b).out) ((⟨4,0,0,0,List.map Bh [b],0,0⟩:Ev)::(Af ⟨(⟨d.plan,d.mode,d.stack,d.scan,d.start,d.at_+1,d.field,d.wire,d.want-1,d.utf,d.end_⟩:Dcd),[]⟩).out) (fun hm1 hm2=>⟨(Mn Q2 Q2),(Jd (⟨d.plan,d.mode,d.stack,d.scan,d.start,d.at_+1,d.field,d.wire,d.want-1,d.utf,d.end_⟩:Dcd) (⟨4,0,0,0,List.map Bh [b],0,0⟩:Ev) Q7),Q6,Q10⟩) ?_ ?_
 rotate_left 2
 refine dsp (fun h7 p7=>?_) fun h7 p7=>?_
 refine zM Mac.d Mac.out (Cp d b) (Af ⟨(⟨d.plan,d.mode,d.stack,d.scan,d.start,d.at_+1,d.field,d.wire,d.want-1,d.utf,d.end_⟩:Dcd),[]⟩) (fun hm1 hm2=>⟨(Ad Q2 Q2),(Ka d),h7,(Jc (⟨d.plan,d.mode,d.stack,d.scan,d.start,d.at_+1,d.field,d.wire,d.want-1,d.utf,d.end_⟩:Dcd) Q7),Q6,Q10⟩) ?_ ?_
 rotate_left 2
 refine dsp (fun h8 p8=>?_) fun h8 p8=>?_
 refine⟨(Ad Q2 Q2),(Ka d),h7,h6,dsp (fun h9 p9=>?_) fun h9 p9=>?_⟩
 refine zM Mac.d Mac.out (Cp d b) (D2 ⟨(⟨d.plan,d.mode,d.stack,d.scan,d.start,d.at_+1,d.field,d.wire,d.want-1,d.utf,d.end_⟩:Dcd),[]⟩ b) (fun hm1 hm2=>⟨(Z3 (⟨d.plan,d.mode,d.stack,d.scan,d.start,d.at_+1,d.field,d.wire,d.want-1,d.utf,d.end_⟩:Dcd) _ _ (Q66) Q2 Q7 (hst.2.2.2.1)),Q6,Q10⟩) ?_ ?_
 rotate_left 2
 refine zM Mac.d Mac.out (Cp d b) (Bx ⟨(⟨d.plan,d.mode,d.stack,d.scan,d.start,d.at_+1,d.field,d.wire,d.want-1,d.utf,d.end_⟩:Dcd),[]⟩ b d.at_) (fun hm1 hm2=>⟨(Vr (⟨d.plan,d.mode,d.stack,d.scan,d.start,d.at_+1,d.field,d.wire,d.want-1,d.utf,d.end_⟩:Dcd) _ _ (Q66) Q2),Q6,Q10⟩) ?_ ?_
 rotate_left 2
 refine⟨(Ka d),h7,h6,dsp (fun h9 p9=>?_) fun h9 p9=>?_⟩
 refine zM Mac.d Mac.out (Cp d b) (D2 ⟨(⟨d.plan,d.mode,d.stack,d.scan,d.start,d.at_+1,d.field,d.wire,d.want,d.utf,d.end_⟩:Dcd),[]⟩ b) (fun hm1 hm2=>⟨(Z3 (⟨d.plan,d.mode,d.stack,d.scan,d.start,d.at_+1,d.field,d.wire,d.want,d.utf,d.end_⟩:Dcd) _ _ (Q67) Q2 Q7 (hst.2.2.2.1)),Q6,Q10⟩) ?_ ?_
 rotate_left 2
 refine zM Mac.d Mac.out (Cp d b) (Bx ⟨(⟨d.plan,d.mode,d.stack,d.scan,d.start,d.at_+1,d.field,d.wire,d.want,d.utf,d.end_⟩:Dcd),[]⟩ b d.at_) (fun hm1 hm2=>⟨(Vr (⟨d.plan,d.mode,d.stack,d.scan,d.start,d.at_+1,d.field,d.wire,d.want,d.utf,d.end_⟩:Dcd) _ _ (Q67) Q2),Q6,Q10⟩) ?_ ?_
 rotate_left 2
 all_goals first|((rw[hsb];simp_all[Ep,Df,Ez,Ano,Az,A9,Zo,Cr];done))|((rw[hsb];have hw0:Bu d=0:=(by omega);simp_all[Ep,Df,Ez,Ano,Az,A9,Zo,Cr];done))|((rw[hsb];grind[Ep,Df,Ez,Ano,Az,A9,Zo,Cr]))|(simp_all[Cp,Fi];done)|(grind[Cp,Fi])
structure L5 where
 d:Dcd
 out:List Ev
 i:Nat
def L6 (d:Dcd) (s:List UInt8):Fam:=⟨L5,fun q1=>[(1,.v (vT s)),(2,.v (vP 0)),(4,.v (vP 3)),(6,.v (vO 4)),(7,.v (vI ((q1.i:Nat):Int)))],fun q1=>[.cells (Ae 1 2 q1.d),.tree q1.d.plan.shapes,.lst .lev q1.d.stack,.cells [.nil,.int .i64 0,.int .i64 0,.int .i64 0,.int .i64 0,.nil,.int .u64 0,.int .i64 0,.int .i64 0,.int .i64 0,.int .i64 0,.int .i64 0,.bool false,.bool false,.int .i64 0,.int .i64 0,.int .i64 0,.int .i64 0,.int .i64 0,.int .i64 0,.int .i64 0,.int .i64 0,.int .u64 0,.int .i64 0,.str [],.int .i64 0,.int .i64 0],.lst .ev q1.out],fun q1=>q1.i≤List.length s∧Cv ⟨q1.d,q1.out⟩ (List.drop q1.i s)=Cv ⟨d,[]⟩ s∧(q1.d).plan=d.plan∧List.length (q1.d).stack≤1048576∧((0:Int)≤(q1.d).scan.bits∧(q1.d).scan.bits≤18446744073709551615)∧List.length q1.out≤14*q1.i,fun q1=>List.length s-q1.i⟩
theorem Ahx (d:Dcd) (s:List UInt8) (hp1:List.length (d).plan.shapes≤1048576) (hp2: ∀e∈(d).plan.shapes,List.length e.fields≤1048576) (hp3:List.length (d).stack≤1048576) (hp4:(0:Int)≤(d).scan.bits∧(d).scan.bits≤18446744073709551615) (hp5:List.length s≤1048576):Fun Tryz.prog 155 [.agg (Bs d),vT s] [] (.tup [.agg (Ae 0 1 (Cv ⟨d,[]⟩ s).d),vO 2]) [.tree (Cv ⟨d,[]⟩ s).d.plan.shapes,.lst .lev (Cv ⟨d,[]⟩ s).d.stack,.lst .ev (Cv ⟨d,[]⟩ s).out]:=by
 have hN:A8=274877906944:=rfl
 refine Aq Tryz.func155 Q4 Q4 (w:=let zi:Int→C:= .int .i64;let z5:List C:=[.nil,zi 0,zi 0,zi 0,zi 0,.nil,.int .u64 0,zi 0,zi 0,zi 0,zi 0,zi 0,.bool false,.bool false,zi 0,zi 0,zi 0,zi 0,zi 0,zi 0,zi 0,zi 0,.int .u64 0,zi 0,.str [],zi 0,zi 0];let z6:=L6 d s;(.seg [.call [] (.v (.agg (Ae 0 1 d))) (L2 d),.ty .ev,.at 0,.keep [1,2,4,6,7],.sel [0,2,3,1,4]] (.loop z6 fun q1=> .br (.intro (Sx (s[q1.i]?)) fun x1=>let z1:=Cp q1.d ((UInt8.toNat x1:Nat):Int);.seg [.tree (fr (.two 5 (fr (.one 9 (.one 10 (.first 11 (.done)))) 6 3) 9 (.one 5 (fr (.one 10 (.first 11 (.done))) 6 3))) 0 5) 12 [],.ch x1,.as 24 (.v (vI ((UInt8.toNat x1:Nat):Int))),.call [] (.tup [.agg (Ae 0 1 z1.d),vO 2]) (Ls z1.d z1.out),.at 0,.keep [1,2,4,6,7,8,9],.sel [0,1,2,3,4,8,5,6,7],.call [] (.tup [.agg (Ae 0 1 z1.d),vO 2]) (Ls z1.d z1.out),.at 0,.keep [1,2,4,6,7,8,9],.sel [0,1,2,3,4,5,6,7,8],.ty .ev,.as 18 (.v (vI (((q1.i:Nat):Int)+1))),.at 0,.keep [1,2,4,6,7],.sel [0,6,7,3,9]] (.next)) (.leaf () [1,2,4])),(Fp 59 [.agg (Bs d)] [] (.v (.agg (Ae 0 1 d))) (L2 d))∧z6.Has [(1,.v (vT s)),(2,.v (vP 0)),(4,.v (vP 3)),(6,.v (vO 4)),(7,.v (vI 0))] [.cells (Ae 1 2 d),.tree d.plan.shapes,.lst .lev d.stack,.cells z5,.lst .ev ([]:List Ev)]∧∀q1,z6.inv q1→(let z4:=((q1.i:Nat):Int);Bc (decide (z4<((List.length s:Nat):Int))) (El (s[q1.i]?) fun x1=>(let z3:=((UInt8.toNat x1:Nat):Int);let z2:=Cp q1.d z3;(s[q1.i]? =some x1)∧((0:Int)≤z4)∧(s[q1.i]? =some x1)∧((0:Int)≤z4)∧(wI (z3))∧(wI (z3))∧(Fp 24 [.agg (Bs q1.d),vI z3] [] (.tup [.agg (Ae 0 1 z2.d),vO 2]) (Ls z2.d z2.out))∧(Fp 24 [.agg (Bs q1.d),vI z3] [] (.tup [.agg (Ae 0 1 z2.d),vO 2]) (Ls z2.d z2.out))∧(([.cells (Ae 1 2 q1.d),.tree q1.d.plan.shapes,.lst .lev q1.d.stack,.cells z5,.lst .ev q1.out,.cells (Ae 6 7 z2.d),.tree z2.d.plan.shapes,.lst .lev z2.d.stack,.lst .ev z2.out]:List Blk)=[.cells (Ae 1 2 q1.d),.tree q1.d.plan.shapes,.lst .lev q1.d.stack,.cells z5,.lst .ev q1.out,.cells (Ae 6 7 z2.d),.tree z2.d.plan.shapes,.lst .lev z2.d.stack,.lst .ev z2.out])∧(([(1,.v (vT s)),(2,.v (vP 0)),(4,.v (vP 3)),(6,.v (vO 4)),(7,.v (vI z4)),(8,.v (vP 5)),(9,.v (vO 8))]:List (Nat×S))=[(1,.v (vT s)),(2,.v (vP 0)),(4,.v (vP 3)),(6,.v (vO 4)),(7,.v (vI z4)),(8,.v (vP 5)),(9,.v (vO 8))])∧(List.length q1.out+List.length z2.out≤A8)∧(wI (z4+1))∧z6.Nxt q1 [(1,.v (vT s)),(2,.v (vP 0)),(4,.v (vP 3)),(6,.v (vO 4)),(7,.v (vI (z4+1)))] [.cells (Ae 1 2 z2.d),.tree z2.d.plan.shapes,.lst .lev z2.d.stack,.cells z5,.lst .ev (q1.out++z2.out)])) (Lf (.tup [.agg (Ae 0 1 q1.d),vO 2]) (.tup [.agg (Ae 0 1 (Cv ⟨d,[]⟩ s).d),vO 2]) (Ls q1.d q1.out) (Ls (Cv ⟨d,[]⟩ s).d (Cv ⟨d,[]⟩ s).out))))) Q4 ?_
 refine⟨(Ge d Q2 ((by first|(exact hsf)|(exact hp2))) Q2),Bj (j:=(⟨d,([]:List Ev),0⟩:L5)) Q9 rfl (by dsimp only[L6];exact⟨by omega,rfl,rfl,hp3,hp4,by simp⟩),fun (q1:L5) hq_q1=>?_⟩
 have hi_q1:q1.i≤List.length s∧Cv ⟨q1.d,q1.out⟩ (List.drop q1.i s)=Cv ⟨d,[]⟩ s∧(q1.d).plan=d.plan∧List.length (q1.d).stack≤1048576∧((0:Int)≤(q1.d).scan.bits∧(q1.d).scan.bits≤18446744073709551615)∧List.length q1.out≤14*q1.i:=hq_q1
 obtain ⟨v1,v2,v3,v4,v5,v6⟩:=hi_q1
 have hsl:List.length q1.d.plan.shapes=List.length d.plan.shapes:=by rw[v3]
 have hsf: ∀e∈q1.d.plan.shapes,List.length e.fields≤1048576:=by rw[v3];exact hp2
 refine dsp (fun h1 p1=>?_) fun h1 p1=>?_
 refine⟨(Bm (l:=s) (i:=q1.i) Q2),fun x1 hx1=>?_⟩
 have hb_x1:=UInt8.toNat_lt x1
 rw[Dj hx1,G0] at v2
 have hub:=Aph x1
 have hl:=Qd (d:=q1.d) (b:=((x1.toNat:Nat):Int))
 exact⟨hx1,Q2,hx1,Q2,(Ad Q2 Q2),(Ad Q2 Q2),(Z4 q1.d _ Q2 ((by first|(exact hsf)|(exact hp2))) Q2 Q2),(Z4 q1.d _ Q2 ((by first|(exact hsf)|(exact hp2))) Q2 Q2),rfl,rfl,Q2,(Ad Q2 Q2),A5 (j:=(⟨(Cp q1.d ((UInt8.toNat x1:Nat):Int)).d,q1.out++(Cp q1.d ((UInt8.toNat x1:Nat):Int)).out,q1.i+1⟩:L5)) Q9 rfl (by dsimp only[L6];exact⟨by omega,by rw[←v2];rfl,hl.1.trans v3,by omega,hl.2.2.2 v5,by rw[List.length_append];omega⟩) (by dsimp only[L6];omega)⟩
 rw[List.drop_eq_nil_of_le (by omega),Aa9] at v2
 refine zD ((Cv ⟨d,[]⟩ s).d) q1.d ((Cv ⟨d,[]⟩ s).out) q1.out (fun hm1 hm2=>⟨Q6,Q10⟩) ?_ ?_
 rotate_left 2
 all_goals first|(rfl)|((rw[←v2];done))|(grind)
structure Fw where
 out:List Ev
 i:Nat
def Nw (l:List Ev):Fam:=⟨Fw,fun q1=>[(0,.v (.c (.seq .ev l))),(3,.v (vO 0)),(4,.v (vI ((q1.i:Nat):Int)))],fun q1=>[.lst .ev q1.out],fun q1=>q1.i≤List.length l∧Pq q1.out (List.drop q1.i l)=Ft l∧List.length q1.out≤q1.i∧tx q1.out+tx (List.drop q1.i l)≤tx l,fun q1=>List.length l-q1.i⟩
theorem Ajr (l:List Ev) (hp1:List.length l≤100000000) (hp2:tx l≤100000000):Fun Tryz.prog 15 [.c (.seq .ev l)] [] (.v (vO 0)) [.lst .ev (Ft l)]:=by
 have hN:A8=274877906944:=rfl
 have hI:Bg=9223372036854775807:=rfl
 refine Aq Tryz.func15 Q4 Q4 (w:=let z11:=Nw l;(.seg [.ty .ev,.at 0,.keep [0,3,4],.sel [0]] (.loop z11 fun q1=>let z6:S:= .v (vI (((q1.i:Nat):Int)+1));let z7:=((List.length q1.out:Nat):Int)-1;.br (.intro (Sx (l[q1.i]?)) fun x1=> .seg [.el .ev x1] (.br (.br (.seg [.as 13 z6,.at 0,.keep [0,3,4],.sel [0]] (.next)) (.seg [.br true] (.br (.seg [.as 38 (.v (vI z7))] (.intro (Sx (q1.out[Int.toNat z7]?)) fun x2=> .seg [.el .ev x2] (.br (.seg [.ord (os 15 [14]) [],.as 46 (.v (vI z7)),.as 49 (.v (vI z7)),.el .ev x2,.el .ev x2,.as 13 z6,.at 0,.keep [0,3,4],.sel [0]] (.next)) (.seg [.ty .ev,.ty .ev,.as 13 z6,.at 0,.keep [0,3,4],.sel [3]] (.next))))) (.seg [.ty .ev,.ty .ev,.as 13 z6,.at 0,.keep [0,3,4],.sel [3]] (.next))))) (.seg [.br false,.ty .ev,.ty .ev,.as 13 z6,.at 0,.keep [0,3,4],.sel [3]] (.next)))) (.leaf () [0])),z11.Has [(0,.v (.c (.seq .ev l))),(3,.v (vO 0)),(4,.v (vI 0))] [.lst .ev ([]:List Ev)]∧∀q1,z11.inv q1→(let z8:=((List.length q1.out:Nat):Int);let z10:=((q1.i:Nat):Int);let z9:=z10+1;Bc (decide (z10<((List.length l:Nat):Int))) (El (l[q1.i]?) fun x1=>(let z4:=List.length q1.out+List.length [x1]≤A8;let z3:=z4∧(wI z9)∧z11.Nxt q1 [(0,.v (.c (.seq .ev l))),(3,.v (vO 0)),(4,.v (vI z9))] [.lst .ev (q1.out++[x1])];let z5:=decide (x1.kind=4);(l[q1.i]? =some x1)∧((0:Int)≤z10)∧Bc z5 (Bc (decide (x1.text=[])) ((wI z9)∧z11.Nxt q1 [(0,.v (.c (.seq .ev l))),(3,.v (vO 0)),(4,.v (vI z9))] [.lst .ev q1.out]) ((z5=true)∧Bc (decide (0<z8)) ((wI (z8-1))∧El (q1.out[Int.toNat (z8-1)]?) fun x2=>(let z1:=q1.out[Int.toNat (z8-1)]? =some x2;let z2:=((List.length x2.text+List.length x1.text:Nat):Int)≤Bg;(z8-1<z8)∧((0:Int)≤z8-1)∧z1∧Bc (decide (x2.kind=4)) ((wI (z8-1))∧(wI (z8-1))∧(wI (z8-1))∧(wI (z8-1))∧(z8-1<z8)∧((0:Int)≤z8-1)∧(z8-1<z8)∧((0:Int)≤z8-1)∧z1∧z1∧z2∧z2∧(z8-1<z8)∧((0:Int)≤z8-1)∧(z8-1<z8)∧((0:Int)≤z8-1)∧z1∧(wI z9)∧z11.Nxt q1 [(0,.v (.c (.seq .ev l))),(3,.v (vO 0)),(4,.v (vI z9))] [.lst .ev (List.set q1.out (Int.toNat (z8-1)) (⟨x2.kind,x2.field,x2.bits,x2.len,x2.text++x1.text,x2.code,x2.at_⟩:Ev))]) z3)) z3)) ((z5=false)∧z4∧(wI z9)∧z11.Nxt q1 [(0,.v (.c (.seq .ev l))),(3,.v (vO 0)),(4,.v (vI z9))] [.lst .ev (q1.out++[x1])]))) (Lf (.v (vO 0)) (.v (vO 0)) [.lst .ev q1.out] [.lst .ev (Ft l)])))) Q4 ?_
 refine⟨Bj (j:=(⟨([]:List Ev),0⟩:Fw)) Q9 rfl (by dsimp only[Nw];exact⟨by omega,rfl,by simp,by simp[tx]⟩),fun (q1:Fw) hq_q1=>?_⟩
 have hi_q1:q1.i≤List.length l∧Pq q1.out (List.drop q1.i l)=Ft l∧List.length q1.out≤q1.i∧tx q1.out+tx (List.drop q1.i l)≤tx l:=hq_q1
 obtain ⟨v1,v2,v3,v4⟩:=hi_q1
 refine dsp (fun h1 p1=>?_) fun h1 p1=>?_
 refine⟨(Bm (l:=l) (i:=q1.i) Q2),fun x1 hx1=>?_⟩
 rw[Dj hx1,H3] at v2
 rw[Dj hx1,tx] at v4
 refine⟨hx1,Q2,dsp (fun h2 p2=>?_) fun h2 p2=>?_⟩
 refine dsp (fun h3 p3=>?_) fun h3 p3=>?_
 exact⟨(Ad Q2 Q2),A5 (j:=(⟨q1.out,q1.i+1⟩:Fw)) Q9 rfl Q15 Q82⟩
 refine⟨h2,dsp (fun h4 p4=>?_) fun h4 p4=>?_⟩
 refine⟨(Ad Q2 Q2),(Bm (l:=q1.out) (i:=Int.toNat (((List.length q1.out:Nat):Int)-1)) Q2),fun x2 hx2=>?_⟩
 refine⟨Q2,Q2,?_⟩
 have hle:=Aku hx2
 have hix:Int.toNat ((q1.out.length:Int)-1)=q1.out.length-1:=by omega
 have hxe:=hix▸hx2
 refine⟨hx2,dsp (fun h5 p5=>?_) fun h5 p5=>?_⟩
 have hmm:=Wz (o:=q1.out) (e:=x1) (x:=x2) (by assumption) (by assumption) (by omega) hxe (by assumption)
 have hms:=Akv x1.text hxe
 exact⟨(Ad Q2 Q2),(Ad Q2 Q2),(Ad Q2 Q2),(Ad Q2 Q2),Q2,Q2,Q2,Q2,hx2,hx2,Q2,Q2,Q2,Q2,Q2,Q2,hx2,(Ad Q2 Q2),A5 (j:=(⟨List.set q1.out (Int.toNat (((List.length q1.out:Nat):Int)-1)) (⟨x2.kind,x2.field,x2.bits,x2.len,x2.text++x1.text,x2.code,x2.at_⟩:Ev),q1.i+1⟩:Fw)) Q9 rfl Q15 Q82⟩
 have hse: ¬(0<q1.out.length∧(T7 q1.out).kind=4):=fun h=>by rw[Vk hxe] at h;exact absurd h.2 (by assumption)
 exact⟨Q5,(Ad Q2 Q2),A5 (j:=(⟨q1.out++[x1],q1.i+1⟩:Fw)) Q9 rfl Q15 Q82⟩
 have hse: ¬(0<q1.out.length∧(T7 q1.out).kind=4):=fun h=>by omega
 exact⟨Q5,(Ad Q2 Q2),A5 (j:=(⟨q1.out++[x1],q1.i+1⟩:Fw)) Q9 rfl Q15 Q82⟩
 exact⟨h2,Q5,(Ad Q2 Q2),A5 (j:=(⟨q1.out++[x1],q1.i+1⟩:Fw)) Q9 rfl Q15 Q82⟩
 rw[List.drop_eq_nil_of_le (by omega),Yo] at v2
 refine⟨rfl,(Ab (congrArg (Blk.lst .ev) ?_) rfl)⟩
 rotate_left
 all_goals first|(exact v2)|((rw[←v2];done))
structure E6 where
 out:List Ev
 i:Nat
def Nx (l:List Ev):Fam:=⟨E6,fun q1=>[(0,.v (.c (.seq .ev l))),(3,.v (vO 0)),(4,.v (vI ((q1.i:Nat):Int)))],fun q1=>[.lst .ev q1.out],fun q1=>q1.i≤List.length l∧Pq q1.out (List.drop q1.i l)=Ft l∧List.length q1.out≤q1.i∧sep q1.out (List.drop q1.i l),fun q1=>List.length l-q1.i⟩
structure H5 where
 i:Nat
 texts:List Int
 first:Ev
 found:Bool
def Gu (l:List Ev) (q1:E6):Fam:=⟨H5,fun q2=>[(0,.v (.c (.seq .ev l))),(3,.v (vO 0)),(4,.v (vI ((q2.i:Nat):Int))),(6,.v (vO 1)),(7,.v (vP 2)),(8,.v (vB q2.found))],fun q2=>[.lst .ev q1.out,.lst .u8 q2.texts,.cells (cEv q2.first)],fun q2=>q2.i≤List.length l∧q1.i<q2.i∧Zx q1.out q2.first (List.map Bh q2.texts) q2.found (List.drop q2.i l) (Ft l)∧List.length q2.texts+tx (List.drop q2.i l)≤tx l,fun q2=>List.length l-q2.i⟩
theorem Ajs (l:List Ev) (hp1:List.length l≤100000000) (hp2:tx l≤100000000):Fun Tryz.prog 49 [.c (.seq .ev l)] [] (.v (vO 0)) [.lst .ev (Ft l)]:=by
 have hN:A8=274877906944:=rfl
 refine Aq Tryz.func49 Q4 Q4 (w:=let z10:=Nx l;(.seg [.ty .ev,.at 0,.keep [0,3,4],.sel [0]] (.loop z10 fun q1=> .br (.intro (Sx (l[q1.i]?)) fun x1=> .seg [.el .ev x1,.as 19 (.v (vI (((q1.i:Nat):Int)+1)))] (.br (.seg [.ty .ev,.ty .ev,.at 0,.keep [0,3,4],.sel [3]] (.next)) (.seg [.ord (os 7 [4,5]) [],.at 0,.keep [0,3,4,6,7,8],.sel [0,2,3]] (.loop (Gu l q1) fun q2=>let z4:S:= .v (vI (((q2.i:Nat):Int)+1));.br (.intro (Sx (l[q2.i]?)) fun x2=> .seg [.el .ev x2] (.br (.br (.seg [.el .ev x2] (.br (.seg [.el .ev x2,.el .ev x2,.ty .u8,.as 68 z4,.at 0,.keep [0,3,4,6,7,8],.sel [0,3,2]] (.next)) (.seg [.el .ev x2,.ty .u8,.as 68 z4,.at 0,.keep [0,3,4,6,7,8],.sel [0,3,2]] (.next)))) (.seg [.el .ev x2,.ty .u8,.as 68 z4,.at 0,.keep [0,3,4,6,7,8],.sel [0,3,2]] (.next))) (.br (.seg [.ty .ev,.ty .ev,.at 0,.keep [0,3,4],.sel [4]] (.next)) (.seg [.at 0,.keep [0,3,4],.sel [0]] (.next))))) (.br (.seg [.ty .ev,.ty .ev,.at 0,.keep [0,3,4],.sel [4]] (.next)) (.seg [.at 0,.keep [0,3,4],.sel [0]] (.next))))))) (.leaf () [0])),z10.Has [(0,.v (.c (.seq .ev l))),(3,.v (vO 0)),(4,.v (vI 0))] [.lst .ev ([]:List Ev)]∧∀q1,z10.inv q1→(let z8:=((q1.i:Nat):Int);let z9:=Gu l q1;Bc (decide (z8<((List.length l:Nat):Int))) (El (l[q1.i]?) fun x1=>((l[q1.i]? =some x1)∧((0:Int)≤z8)∧(wI (z8+1))∧Bc (!decide (x1.kind=4)) ((List.length q1.out+List.length [x1]≤A8)∧z10.Nxt q1 [(0,.v (.c (.seq .ev l))),(3,.v (vO 0)),(4,.v (vI (z8+1)))] [.lst .ev (q1.out++[x1])]) ((List.length x1.text≤A8)∧z9.Has [(0,.v (.c (.seq .ev l))),(3,.v (vO 0)),(4,.v (vI (z8+1))),(6,.v (vO 1)),(7,.v (vP 2)),(8,.v (vB (!decide (x1.text=[]))))] [.lst .ev q1.out,.lst .u8 (List.map (fun b=>(UInt8.toNat b:Int)) x1.text),.cells (cEv x1)]∧∀q2,z9.inv q2→(let z6:=((q2.i:Nat):Int);let z7:=(⟨q2.first.kind,q2.first.field,q2.first.bits,q2.first.len,List.map Bh q2.texts,q2.first.code,q2.first.at_⟩:Ev);let z5:=Bc q2.found ((List.length q1.out+List.length [z7]≤A8)∧z10.Nxt q1 [(0,.v (.c (.seq .ev l))),(3,.v (vO 0)),(4,.v (vI z6))] [.lst .ev (q1.out++[z7])]) (z10.Nxt q1 [(0,.v (.c (.seq .ev l))),(3,.v (vO 0)),(4,.v (vI z6))] [.lst .ev q1.out]);Bc (decide (z6<((List.length l:Nat):Int))) (El (l[q2.i]?) fun x2=>(let z2:=List.map (fun b=>(UInt8.toNat b:Int)) x2.text;let z3:=l[q2.i]? =some x2;let z1:=z3∧((0:Int)≤z6)∧(List.length q2.texts+List.length z2≤A8)∧(wI (z6+1))∧z9.Nxt q2 [(0,.v (.c (.seq .ev l))),(3,.v (vO 0)),(4,.v (vI (z6+1))),(6,.v (vO 1)),(7,.v (vP 2)),(8,.v (vB q2.found))] [.lst .ev q1.out,.lst .u8 (q2.texts++z2),.cells (cEv q2.first)];z3∧((0:Int)≤z6)∧Bc (decide (x2.kind=4)) (Bc (!q2.found) (z3∧((0:Int)≤z6)∧Bc (!decide (x2.text=[])) (z3∧((0:Int)≤z6)∧z3∧((0:Int)≤z6)∧(List.length q2.texts+List.length z2≤A8)∧(wI (z6+1))∧z9.Nxt q2 [(0,.v (.c (.seq .ev l))),(3,.v (vO 0)),(4,.v (vI (z6+1))),(6,.v (vO 1)),(7,.v (vP 2)),(8,.v (vB true))] [.lst .ev q1.out,.lst .u8 (q2.texts++z2),.cells (cEv x2)]) z1) z1) z5)) z5)))) (Lf (.v (vO 0)) (.v (vO 0)) [.lst .ev q1.out] [.lst .ev (Ft l)])))) Q4 ?_
 refine⟨Bj (j:=(⟨([]:List Ev),0⟩:E6)) Q9 rfl (by dsimp only[Nx];exact⟨by omega,rfl,by simp,Amr⟩),fun (q1:E6) hq_q1=>?_⟩
 have hi_q1:q1.i≤List.length l∧Pq q1.out (List.drop q1.i l)=Ft l∧List.length q1.out≤q1.i∧sep q1.out (List.drop q1.i l):=hq_q1
 obtain ⟨v1,v2,v3,v4⟩:=hi_q1
 refine dsp (fun h1 p1=>?_) fun h1 p1=>?_
 refine⟨(Bm (l:=l) (i:=q1.i) Q2),fun x1 hx1=>?_⟩
 rw[Dj hx1,H3] at v2
 have hdx:=Dj hx1
 have htl:tx (List.drop q1.i l)=x1.text.length+tx (List.drop (q1.i+1) l):=by rw[hdx,tx]
 have htl2:=Ahe l q1.i
 have hse:=fun hk=>An9 v4 hx1 hk
 refine⟨hx1,Q2,(Ad Q2 Q2),fun h2=>have q2:=An h2;have p2:=of_decide_eq_false q2;?_,fun h2=>have q2:=Am h2;have p2:=of_decide_eq_true q2;?_⟩
 exact⟨Q5,A5 (j:=(⟨q1.out++[x1],q1.i+1⟩:E6)) Q9 rfl Q22 Q83⟩
 have hse:=hse (by assumption)
 refine⟨Q2,Bj (j:=(⟨q1.i+1,List.map (fun b=>(UInt8.toNat b:Int)) x1.text,x1,!decide (x1.text=[])⟩:H5)) Q9 rfl (by dsimp only[Gu];exact(by first|(exact⟨by omega,by omega,by rw[Gk];exact Ajk (by assumption) hse v2,by simp;omega⟩))),fun (q2:H5) hq_q2=>?_⟩
 have hi_q2:q2.i≤List.length l∧q1.i<q2.i∧Zx q1.out q2.first (List.map Bh q2.texts) q2.found (List.drop q2.i l) (Ft l)∧List.length q2.texts+tx (List.drop q2.i l)≤tx l:=hq_q2
 obtain ⟨w1,w2,w3,w4⟩:=hi_q2
 refine dsp (fun h3 p3=>?_) fun h3 p3=>?_
 refine⟨(Bm (l:=l) (i:=q2.i) Q2),fun x2 hx2=>?_⟩
 have hdr:=Dj hx2
 have htx:tx (List.drop q2.i l)=x2.text.length+tx (List.drop (q2.i+1) l):=by rw[hdr,tx]
 refine⟨hx2,Q2,dsp (fun h4 p4=>?_) fun h4 p4=>?_⟩
 refine⟨fun h5=>have q5:=An h5;?_,fun h5=>have q5:=Am h5;?_⟩
 refine⟨hx2,Q2,fun h6=>have q6:=An h6;have p6:=of_decide_eq_false q6;?_,fun h6=>have q6:=Am h6;have p6:=of_decide_eq_true q6;?_⟩
 exact⟨hx2,Q2,hx2,Q2,Q21,(Ad Q2 Q2),A5 (j:=(⟨q2.i+1,q2.texts++(List.map (fun b=>(UInt8.toNat b:Int)) x2.text),x2,true⟩:H5)) Q9 rfl Q25 (by dsimp only[Gu];omega)⟩
 exact⟨hx2,Q2,Q21,(Ad Q2 Q2),A5 (j:=(⟨q2.i+1,q2.texts++(List.map (fun b=>(UInt8.toNat b:Int)) x2.text),q2.first,q2.found⟩:H5)) Q9 rfl Q25 (by dsimp only[Gu];omega)⟩
 exact⟨hx2,Q2,Q21,(Ad Q2 Q2),A5 (j:=(⟨q2.i+1,q2.texts++(List.map (fun b=>(UInt8.toNat b:Int)) x2.text),q2.first,q2.found⟩:H5)) Q9 rfl Q25 (by dsimp only[Gu];omega)⟩
 have hsp: ∀o,sep o (List.drop q2.i l):=fun o=>Adv (.inr ⟨x2,by assumption,by assumption⟩)
 refine⟨fun h5=>?_,fun h5=>?_⟩
 exact⟨(by simp only[List.length_map,List.length_cons,List.length_nil];omega),A5 (j:=(⟨q1.out++[(⟨q2.first.kind,q2.first.field,q2.first.bits,q2.first.len,List.map Bh q2.texts,q2.first.code,q2.first.at_⟩:Ev)],q2.i⟩:E6)) rfl rfl Q22 Q83⟩
 exact A5 (j:=(⟨q1.out,q2.i⟩:E6)) rfl rfl Q22 Q83
 have hsp: ∀o,sep o (List.drop q2.i l):=fun o=>Adv (.inl (by omega))
 refine⟨fun h4=>?_,fun h4=>?_⟩
 exact⟨(by simp only[List.length_map,List.length_cons,List.length_nil];omega),A5 (j:=(⟨q1.out++[(⟨q2.first.kind,q2.first.field,q2.first.bits,q2.first.len,List.map Bh q2.texts,q2.first.code,q2.first.at_⟩:Ev)],q2.i⟩:E6)) rfl rfl Q22 Q83⟩
 exact A5 (j:=(⟨q1.out,q2.i⟩:E6)) rfl rfl Q22 Q83
 rw[List.drop_eq_nil_of_le (by omega),Yo] at v2
 refine⟨rfl,(Ab (congrArg (Blk.lst .ev) ?_) rfl)⟩
 rotate_left
 all_goals first|(exact v2)|((rw[←v2];done))
theorem Aof (d:Dcd) (s:List UInt8) (hp1:List.length (d).plan.shapes≤1048576) (hp2: ∀e∈(d).plan.shapes,List.length e.fields≤1048576) (hp3:List.length (d).stack≤1048576) (hp4:(0:Int)≤(d).scan.bits∧(d).scan.bits≤18446744073709551615) (hp5:List.length s≤1048576):Fun Tryz.prog 20 [.agg (Bs d),vT s] [] (.tup [.agg (Ae 0 1 (Bk d s).d),vO 2]) [.tree (Bk d s).d.plan.shapes,.lst .lev (Bk d s).d.stack,.lst .ev (Bk d s).out]:=by
 have hN:A8=274877906944:=rfl
 have hfb:=Ahg d s
 refine Aq Tryz.func20 Q4 Q4 (w:=let z1:=Cv ⟨d,[]⟩ s;let z2:S:= .tup [.agg (Ae 0 1 z1.d),vO 2];(.seg [.call [] z2 (Ls z1.d z1.out),.tree (.first 0 (.first 1 (.one 2 (.one 3 (.first 4 (.done)))))) 3 [],.call [] (.v (vO 0)) [.lst .ev (Ft z1.out)]] (.leaf () [2,3,6]),(Fp 48 [.agg (Bs d),vT s] [] z2 (Ls z1.d z1.out))∧(Fp 49 [.c (.seq .ev z1.out)] [] (.v (vO 0)) [.lst .ev (Ft z1.out)])∧Lf z2 (.tup [.agg (Ae 0 1 (Bk d s).d),vO 2]) (Ls z1.d (Ft z1.out)) (Ls (Bk d s).d (Bk d s).out))) Q4 ?_
 refine⟨(Ahv d _ Q2 (hp2) Q2 Q2 Q2),(Ajs _ Q2 Q2),?_⟩
 have hm1:(Bk d s).d=(Cv ⟨d,[]⟩ s).d:=by rfl
 have hm2:(Bk d s).out=Ft (Cv ⟨d,[]⟩ s).out:=by rfl
 exact⟨Q6,Q10⟩
theorem Aog (d:Dcd) (s:List UInt8) (hp1:List.length (d).plan.shapes≤1048576) (hp2: ∀e∈(d).plan.shapes,List.length e.fields≤1048576) (hp3:List.length (d).stack≤1048576) (hp4:(0:Int)≤(d).scan.bits∧(d).scan.bits≤18446744073709551615) (hp5:List.length s≤1048576):Fun Tryz.prog 90 [.agg (Bs d),vT s] [] (.tup [.agg (Ae 0 1 (Bk d s).d),vO 2]) [.tree (Bk d s).d.plan.shapes,.lst .lev (Bk d s).d.stack,.lst .ev (Bk d s).out]:=by
 have hN:A8=274877906944:=rfl
 have hfb:=Ahg d s
 refine Aq Tryz.func90 Q4 Q4 (w:=let z1:=Cv ⟨d,[]⟩ s;let z2:S:= .tup [.agg (Ae 0 1 z1.d),vO 2];(.seg [.call [] z2 (Ls z1.d z1.out),.tree (.first 0 (.first 1 (.one 2 (.one 3 (.first 4 (.done)))))) 3 [],.call [] (.v (vO 0)) [.lst .ev (Ft z1.out)]] (.leaf () [2,3,6]),(Fp 155 [.agg (Bs d),vT s] [] z2 (Ls z1.d z1.out))∧(Fp 15 [.c (.seq .ev z1.out)] [] (.v (vO 0)) [.lst .ev (Ft z1.out)])∧Lf z2 (.tup [.agg (Ae 0 1 (Bk d s).d),vO 2]) (Ls z1.d (Ft z1.out)) (Ls (Bk d s).d (Bk d s).out))) Q4 ?_
 refine⟨(Ahx d _ Q2 (hp2) Q2 Q2 Q2),(Ajr _ Q2 Q2),?_⟩
 have hm1:(Bk d s).d=(Cv ⟨d,[]⟩ s).d:=by rfl
 have hm2:(Bk d s).out=Ft (Cv ⟨d,[]⟩ s).out:=by rfl
 exact⟨Q6,Q10⟩
structure Aky where
 next:Dcd
 out:List Ev
 v:Nat
structure Akz where
 d:Dcd
 out:List Ev
 i:Nat
theorem Ahy (d:Dcd) (hp1:List.length (d).plan.shapes≤1048576) (hp2: ∀e∈(d).plan.shapes,List.length e.fields≤1048576) (hp3:List.length (d).stack≤1048576) (hp4:(0:Int)≤(d).scan.bits∧(d).scan.bits≤18446744073709551615):Fun Tryz.prog 87 [.agg (Bs d)] [] (.v (vB (Ee d))) []:=by
 have hN:A8=274877906944:=rfl
 refine Aq Tryz.func87 Q4 Q4 (w:=let z1:=Lf (.v (vB false)) (.v (vB (Ee d))) [] [];(.seg [.call [] (.v (vB (Bv d))) []] (.br (.br (.leaf () []) (.leaf () [])) (.leaf () [])),(Fp 51 [.agg (Bs d)] [] (.v (vB (Bv d))) [])∧Bc (Bv d) (Bc (decide (d.mode=1)) (Lf (.v (vB (decide (d.scan.have_=0)))) (.v (vB (Ee d))) [] []) z1) z1)) Q4 ?_
 refine⟨(W5 d Q2 Q2),fun h1=>?_,fun h1=>?_⟩
 refine dsp (fun h2 p2=>?_) fun h2 p2=>?_
 refine⟨(sB ?_),rfl⟩
 rotate_left
 refine⟨(sB ?_),rfl⟩
 rotate_left
 refine⟨(sB ?_),rfl⟩
 rotate_left
 all_goals first|(simp[Ee, *];done)|(simp_all[Ee];done)|(grind[Ee])
theorem Ajt (d:Dcd) (hp1:List.length (d).plan.shapes≤1048576) (hp2: ∀e∈(d).plan.shapes,List.length e.fields≤1048576) (hp3:List.length (d).stack≤1048576) (hp4:(0:Int)≤(d).scan.bits∧(d).scan.bits≤18446744073709551615):Fun Tryz.prog 39 [.agg (Bs d)] [] (.tup [.agg (Ae 0 1 (G5 d).d),vO 2]) [.tree (G5 d).d.plan.shapes,.lst .lev (G5 d).d.stack,.lst .ev (G5 d).out]:=by
 have hN:A8=274877906944:=rfl
 refine Aq Tryz.func39 Q4 Q4 (w:=let zi:Int→C:= .int .i64;let z1:List C:=[.own 1,zi d.plan.root,zi d.plan.deep,zi d.plan.most,zi 9,.own 2,.int .u64 d.scan.bits,zi d.scan.have_,zi d.start,zi d.at_,zi d.field.number,zi d.field.kind,.bool d.field.rep,.bool d.field.packed,zi d.field.msg,zi d.wire,zi d.want,zi d.utf.want,zi d.utf.low,zi d.utf.high,zi 9,zi 0,.int .u64 0,zi 0,.str [],zi 0,zi d.at_,.own 4];let z2:List C:=[zi 9,zi 0,.int .u64 0,zi 0,.str [],zi 0,zi d.at_];let z7:S:= .tup [.agg (Ae 0 1 (G5 d).d),vO 2];let z8:=([]:List Ev);let z3:=Az (⟨d,z8⟩:Mac) 10 d.at_;let z6:List Blk:=[.cells (Ac 1 2 4 z3),.tree z3.d.plan.shapes,.lst .lev z3.d.stack,.dead,.lst .ev z3.out];let z9:=Ls (G5 d).d (G5 d).out;let z4:=Lf (.tup [.agg (Ae 0 1 d),vO 2]) z7 (Ls d z8) z9;let z10:=z8++[(⟨9,0,0,0,[],0,d.at_⟩:Ev)];let z5:List Blk:=[.cells z1,.tree d.plan.shapes,.lst .lev d.stack,.dead,.lst .ev z10];(.seg [.call [] (.v (.agg (Ae 0 1 d))) (L2 d),.call [] (.v (vB (Bv d))) []] (.br (.seg [.at 8,.mk 4 27 .ev,.ord (os 10 [8]) [1]] (.leaf () [2,3,5])) (.br (.seg [.at 8,.mk 4 27 .ev,.ord (os 10 [8]) [1]] (.leaf () [2,3,5])) (.seg [.call [] (.v (vB (Ee d))) []] (.br (.seg [.at 6,.mk 4 27 .ev,.ord (os 13 [8,12]) [4],.call [4,2,3,5] (.tup []) z5,.ord (os 10 [8]) [1]] (.leaf () [2,3,6])) (.seg [.at 3,.mk 4 27 .ev,.call [4,2,3,5] (.tup []) z6,.ord (os 10 [8]) [1]] (.leaf () [2,3,6])))))),(Fp 50 [.agg (Bs d)] [] (.v (.agg (Ae 0 1 d))) (L2 d))∧(Fp 51 [.agg (Bs d)] [] (.v (vB (Bv d))) [])∧Bc (!(Bv d)) z4 (Bc (decide (d.mode=9)) z4 ((Fp 87 [.agg (Bs d)] [] (.v (vB (Ee d))) [])∧Bc (Ee d) ((Fp 88 [vP 0,.agg z2] [.cells [.own 1,zi d.plan.root,zi d.plan.deep,zi d.plan.most,zi 9,.own 2,.int .u64 d.scan.bits,zi d.scan.have_,zi d.start,zi d.at_,zi d.field.number,zi d.field.kind,.bool d.field.rep,.bool d.field.packed,zi d.field.msg,zi d.wire,zi d.want,zi d.utf.want,zi d.utf.low,zi d.utf.high,zi 9,zi 0,.int .u64 0,zi 0,.str [],zi 0,zi d.at_,.own 3],.tree d.plan.shapes,.lst .lev d.stack,.lst .ev z8] (.tup []) z5)∧Lf (.tup [.agg (.own 0::zi d.plan.root::zi d.plan.deep::zi d.plan.most::zi 9:: .own 1:: .int .u64 d.scan.bits::zi d.scan.have_::zi d.start::zi d.at_::zi d.field.number::zi d.field.kind:: .bool d.field.rep:: .bool d.field.packed::zi d.field.msg::zi d.wire::zi d.want::zi d.utf.want::zi d.utf.low::zi d.utf.high::z2),vO 2]) z7 (Ls d z10) z9) ((Fp 52 [vP 0,vI 10,vI d.at_] [.cells [.own 1,zi d.plan.root,zi d.plan.deep,zi d.plan.most,zi d.mode,.own 2,.int .u64 d.scan.bits,zi d.scan.have_,zi d.start,zi d.at_,zi d.field.number,zi d.field.kind,.bool d.field.rep,.bool d.field.packed,zi d.field.msg,zi d.wire,zi d.want,zi d.utf.want,zi d.utf.low,zi d.utf.high,zi d.end_.kind,zi d.end_.field,.int .u64 d.end_.bits,zi d.end_.len,.str d.end_.text,zi d.end_.code,zi d.end_.at_,.own 3],.tree d.plan.shapes,.lst .lev d.stack,.lst .ev z8] (.tup []) z6)∧Lf (.tup [.agg (Ae 0 1 z3.d),vO 2]) z7 (Ls z3.d z3.out) z9))))) Q4 ?_
 refine⟨(Mt d Q2 (hp2) Q2),(W5 d Q2 Q2),fun h1=>have q1:=An h1;?_,fun h1=>have q1:=Am h1;?_⟩
 refine zD ((G5 d).d) d ((G5 d).out) ([]:List Ev) (fun hm1 hm2=>⟨Q6,Q10⟩) ?_ ?_
 rotate_left 2
 refine dsp (fun h2 p2=>?_) fun h2 p2=>?_
 refine zD ((G5 d).d) d ((G5 d).out) ([]:List Ev) (fun hm1 hm2=>⟨Q6,Q10⟩) ?_ ?_
 rotate_left 2
 refine⟨(Ahy d Q2 (hp2) Q2 Q2),fun h3=>?_,fun h3=>?_⟩
 refine zD ((G5 d).d) (⟨d.plan,9,d.stack,d.scan,d.start,d.at_,d.field,d.wire,d.want,d.utf,(⟨9,0,0,0,[],0,d.at_⟩:Ev)⟩:Dcd) ((G5 d).out) (([]:List Ev)++[(⟨9,0,0,0,[],0,d.at_⟩:Ev)]) (fun hm1 hm2=>⟨(Fv (⟨(⟨d.plan,9,d.stack,d.scan,d.start,d.at_,d.field,d.wire,d.want,d.utf,(⟨9,0,0,0,[],0,d.at_⟩:Ev)⟩:Dcd),([]:List Ev)⟩:Mac) (⟨9,0,0,0,[],0,d.at_⟩:Ev) Q18),Q6,Q10⟩) ?_ ?_
 rotate_left 2
 refine zM Mac.d Mac.out (G5 d) (Az (⟨d,([]:List Ev)⟩:Mac) 10 d.at_) (fun hm1 hm2=>⟨(Cg (⟨d,([]:List Ev)⟩:Mac) _ _ Q18),Q6,Q10⟩) ?_ ?_
 rotate_left 2
 all_goals first|(simp_all[G5,Ee,Az,A9,Ack];done)|(grind[G5,Ee,Az,A9,Ack])
theorem Am2 (d:Dcd) (c:Int) (hp1:List.length (d).plan.shapes≤1048576) (hp2: ∀e∈(d).plan.shapes,List.length e.fields≤1048576) (hp3:List.length (d).stack≤1048576) (hp4:(0:Int)≤(d).scan.bits∧(d).scan.bits≤18446744073709551615):Fun Tryz.prog 21 [.agg (Bs d),vI c] [] (.tup [.agg (Ae 0 1 (Jx d c).d),vO 2]) [.tree (Jx d c).d.plan.shapes,.lst .lev (Jx d c).d.stack,.lst .ev (Jx d c).out]:=by
 have hN:A8=274877906944:=rfl
 refine Aq Tryz.func21 Q4 Q4 (w:=let zi:Int→C:= .int .i64;let z1:=Az (⟨d,([]:List Ev)⟩:Mac) c d.at_;let z3:List Blk:=[.cells (Ac 1 2 4 z1),.tree z1.d.plan.shapes,.lst .lev z1.d.stack,.dead,.lst .ev z1.out];let z4:S:= .tup [.agg (Ae 0 1 (Jx d c).d),vO 2];let z5:=Ls (Jx d c).d (Jx d c).out;let z2:=Lf (.tup [.agg (Ae 0 1 d),vO 2]) z4 (Ls d ([]:List Ev)) z5;(.seg [.call [] (.v (.agg (Ae 0 1 d))) (L2 d),.call [] (.v (vB (Bv d))) []] (.br (.br (.br (.seg [.at 4,.mk 4 27 .ev,.call [4,2,3,5] (.tup []) z3,.ord (os 10 [8]) [1]] (.leaf () [2,3,6])) (.seg [.at 5,.mk 4 27 .ev,.ord (os 10 [8]) [1]] (.leaf () [2,3,5]))) (.seg [.at 5,.mk 4 27 .ev,.ord (os 10 [8]) [1]] (.leaf () [2,3,5]))) (.seg [.at 5,.mk 4 27 .ev,.ord (os 10 [8]) [1]] (.leaf () [2,3,5]))),(Fp 50 [.agg (Bs d)] [] (.v (.agg (Ae 0 1 d))) (L2 d))∧(Fp 51 [.agg (Bs d)] [] (.v (vB (Bv d))) [])∧Bc (Bv d) (Bc (!decide (d.mode=9)) (Bc (decide (1≤c)) ((Fp 52 [vP 0,vI c,vI d.at_] [.cells [.own 1,zi d.plan.root,zi d.plan.deep,zi d.plan.most,zi d.mode,.own 2,.int .u64 d.scan.bits,zi d.scan.have_,zi d.start,zi d.at_,zi d.field.number,zi d.field.kind,.bool d.field.rep,.bool d.field.packed,zi d.field.msg,zi d.wire,zi d.want,zi d.utf.want,zi d.utf.low,zi d.utf.high,zi d.end_.kind,zi d.end_.field,.int .u64 d.end_.bits,zi d.end_.len,.str d.end_.text,zi d.end_.code,zi d.end_.at_,.own 3],.tree d.plan.shapes,.lst .lev d.stack,.lst .ev ([]:List Ev)] (.tup []) z3)∧Lf (.tup [.agg (Ae 0 1 z1.d),vO 2]) z4 (Ls z1.d z1.out) z5) z2) z2) z2)) Q4 ?_
 refine⟨(Mt d Q2 (hp2) Q2),(W5 d Q2 Q2),fun h1=>?_,fun h1=>?_⟩
 refine⟨fun h2=>have q2:=An h2;have p2:=of_decide_eq_false q2;?_,fun h2=>have q2:=Am h2;have p2:=of_decide_eq_true q2;?_⟩
 refine dsp (fun h3 p3=>?_) fun h3 p3=>?_
 refine zM Mac.d Mac.out (Jx d c) (Az (⟨d,([]:List Ev)⟩:Mac) c d.at_) (fun hm1 hm2=>⟨(Cg (⟨d,([]:List Ev)⟩:Mac) _ _ Q18),Q6,Q10⟩) ?_ ?_
 rotate_left 2
 refine zD ((Jx d c).d) d ((Jx d c).out) ([]:List Ev) (fun hm1 hm2=>⟨Q6,Q10⟩) ?_ ?_
 rotate_left 2
 refine zD ((Jx d c).d) d ((Jx d c).out) ([]:List Ev) (fun hm1 hm2=>⟨Q6,Q10⟩) ?_ ?_
 rotate_left 2
 refine zD ((Jx d c).d) d ((Jx d c).out) ([]:List Ev) (fun hm1 hm2=>⟨Q6,Q10⟩) ?_ ?_
 rotate_left 2
 all_goals first|(simp_all[Jx,Az,A9];done)|(grind[Jx,Az,A9])
theorem Ahz (d:Dcd) (hp1:List.length (d).plan.shapes≤1048576) (hp2: ∀e∈(d).plan.shapes,List.length e.fields≤1048576) (hp3:List.length (d).stack≤1048576) (hp4:(0:Int)≤(d).scan.bits∧(d).scan.bits≤18446744073709551615):Fun Tryz.prog 91 [.agg (Bs d)] [] (.v (vB (Ee d))) []:=by
 have hN:A8=274877906944:=rfl
 refine Aq Tryz.func91 Q4 Q4 (w:=let z1:=Lf (.v (vB false)) (.v (vB (Ee d))) [] [];(.seg [.call [] (.v (vB (Bv d))) []] (.br (.br (.leaf () []) (.leaf () [])) (.leaf () [])),(Fp 60 [.agg (Bs d)] [] (.v (vB (Bv d))) [])∧Bc (Bv d) (Bc (decide (d.mode=1)) (Lf (.v (vB (decide (d.scan.have_=0)))) (.v (vB (Ee d))) [] []) z1) z1)) Q4 ?_
 refine⟨(W6 d Q2 Q2),fun h1=>?_,fun h1=>?_⟩
 refine dsp (fun h2 p2=>?_) fun h2 p2=>?_
 refine⟨(sB ?_),rfl⟩
 rotate_left
 refine⟨(sB ?_),rfl⟩
 rotate_left
 refine⟨(sB ?_),rfl⟩
 rotate_left
 all_goals first|(simp[Ee, *];done)|(simp_all[Ee];done)|(grind[Ee])
theorem Aju (d:Dcd) (hp1:List.length (d).plan.shapes≤1048576) (hp2: ∀e∈(d).plan.shapes,List.length e.fields≤1048576) (hp3:List.length (d).stack≤1048576) (hp4:(0:Int)≤(d).scan.bits∧(d).scan.bits≤18446744073709551615):Fun Tryz.prog 42 [.agg (Bs d)] [] (.tup [.agg (Ae 0 1 (G5 d).d),vO 2]) [.tree (G5 d).d.plan.shapes,.lst .lev (G5 d).d.stack,.lst .ev (G5 d).out]:=by
 have hN:A8=274877906944:=rfl
 refine Aq Tryz.func42 Q4 Q4 (w:=let zi:Int→C:= .int .i64;let z1:List C:=[.int .u64 d.scan.bits,zi d.scan.have_,zi d.start,zi d.at_,zi d.field.number,zi d.field.kind,.bool d.field.rep,.bool d.field.packed,zi d.field.msg,zi d.wire,zi d.want,zi d.utf.want,zi d.utf.low,zi d.utf.high,zi 9,zi 0,.int .u64 0,zi 0,.str [],zi 0,zi d.at_];let z4:S:= .tup [.agg (Ae 0 1 (G5 d).d),vO 2];let z5:=A9 d 10 d.at_;let z6:=Ls (G5 d).d (G5 d).out;let z7:=Ae 0 1 d;let z3:=Lf (.tup [.agg z7,vO 2]) z4 (Ls d ([]:List Ev)) z6;let z8:S:= .tup [.agg (Ae 2 3 z5),vO 4];let z9:List Blk:= .dead:: .dead::Ls z5 [A3 10 d.at_];let z10:=(⟨9,0,0,0,[],0,d.at_⟩:Ev);let z2:List Blk:=[.cells (.own 1::zi d.plan.root::zi d.plan.deep::zi d.plan.most::zi 9:: .own 2::z1),.tree d.plan.shapes,.lst .lev d.stack,.lst .ev [z10]];(.seg [.call [] (.v (.agg z7)) (L2 d),.call [] (.v (vB (Bv d))) []] (.br (.seg [.ty .ev] (.leaf () [2,3,5])) (.br (.seg [.ty .ev] (.leaf () [2,3,5])) (.seg [.call [] (.v (vB (Ee d))) []] (.br (.seg [.call [2,3] z8 z9] (.leaf () [5,6,7])) (.seg [.tree (fr (.two 3 (.one 4 (.first 5 (.done))) 4 (.one 3 (.first 5 (.done)))) 0 3) 6 [1],.ty .ev,.at 0,.keep [2,3],.sel [1,2,3,5],.ty .ev,.at 0,.keep [2,3],.sel [1,2,3,5]] (.leaf () [1,2,3])))))),(Fp 59 [.agg (Bs d)] [] (.v (.agg z7)) (L2 d))∧(Fp 60 [.agg (Bs d)] [] (.v (vB (Bv d))) [])∧Bc (!(Bv d)) z3 (Bc (decide (d.mode=9)) z3 ((Fp 91 [.agg (Bs d)] [] (.v (vB (Ee d))) [])∧Bc (!(Ee d)) ((Fp 64 [.agg z7,vI 10,vI d.at_] (L2 d) z8 z9)∧Lf (.tup [.agg (Ae 0 1 z5),vO 2]) z4 (Ls z5 [A3 10 d.at_]) z6) (((z2:List Blk)=z2)∧(([(2,.v (vP 0)),(3,.v (vO 3))]:List (Nat×S))=[(2,.v (vP 0)),(3,.v (vO 3))])∧Lf (.tup [.agg (.own 0::zi d.plan.root::zi d.plan.deep::zi d.plan.most::zi 9:: .own 1::z1),vO 2]) z4 (Ls d [z10]) z6))))) Q4 ?_
 refine⟨(Ge d Q2 (hp2) Q2),(W6 d Q2 Q2),fun h1=>have q1:=An h1;?_,fun h1=>have q1:=Am h1;?_⟩
 refine zD ((G5 d).d) d ((G5 d).out) ([]:List Ev) (fun hm1 hm2=>⟨Q6,Q10⟩) ?_ ?_
 rotate_left 2
 refine dsp (fun h2 p2=>?_) fun h2 p2=>?_
 refine zD ((G5 d).d) d ((G5 d).out) ([]:List Ev) (fun hm1 hm2=>⟨Q6,Q10⟩) ?_ ?_
 rotate_left 2
 refine⟨(Ahz d Q2 (hp2) Q2 Q2),fun h3=>have q3:=An h3;?_,fun h3=>have q3:=Am h3;?_⟩
 refine zD ((G5 d).d) (A9 d 10 d.at_) ((G5 d).out) [A3 10 d.at_] (fun hm1 hm2=>⟨(C7 d _ _),Q6,Q10⟩) ?_ ?_
 rotate_left 2
 refine zD ((G5 d).d) (⟨d.plan,9,d.stack,d.scan,d.start,d.at_,d.field,d.wire,d.want,d.utf,(⟨9,0,0,0,[],0,d.at_⟩:Ev)⟩:Dcd) ((G5 d).out) [(⟨9,0,0,0,[],0,d.at_⟩:Ev)] (fun hm1 hm2=>⟨rfl,rfl,Q6,Q10⟩) ?_ ?_
 rotate_left 2
 all_goals first|(simp_all[G5,Ee,Az,A9,Ack];done)|(grind[G5,Ee,Az,A9,Ack])
theorem Ajv (data:List UInt8) (script:List Rd) (hp1:List.length data≤1048576) (hp2:List.length script≤1048576):Fun Tryz.prog 192 [vT data,.c (.seq .rd script)] [] (.tup [.agg (Fd 0 (Lo data script)),vB (No data script)]) [.lst .rd (Lo data script).script]:=by
 have hN:A8=274877906944:=rfl
 refine Aq Tryz.func192 Q4 Q4 (w:=let zi:Int→C:= .int .i64;let z3:=([]:List Rd);let z1:=Bo (⟨data,0,z3++script,0,0⟩:Rdr);let z4:=Lo data script;let z2:S:= .tup [.agg (Fd 0 z4),vB (No data script)];(.seg [.ty .rd,.ty .rd,.call [] (.v (vB z1)) []] (.br (.seg [.at 0,.mk 0 2 .rd] (.leaf () [4])) (.leaf () [2])),(List.length z3+List.length script≤A8)∧(Fp 75 [.agg [.str data,zi 0,.seq .rd (z3++script),zi 0,zi 0]] [] (.v (vB z1)) [])∧Bc (!z1) (Lf (.tup [.agg [.str [],zi 0,.own 0,zi 0,zi 0],vB false]) z2 [.lst .rd z3] [.lst .rd z4.script]) (Lf (.tup [.agg [.str data,zi 0,.own 0,zi 0,zi 0],vB true]) z2 [.lst .rd (z3++script)] [.lst .rd z4.script]))) Q4 ?_
 refine⟨Q5,(T5 (⟨data,0,([]:List Rd)++script,0,0⟩:Rdr) Q7 Q18),fun h1=>have q1:=An h1;?_,fun h1=>have q1:=Am h1;have p1:=Eg q1;?_⟩
 refine zE (Lo data script) (⟨[],0,([]:List Rd),0,0⟩:Rdr) (fun hm1=>⟨(congrArg S.tup (Ab (congrArg V.agg (Ab (congrArg C.str ?_) (Ab (congrArg (C.int .i64) ?_) (Ab rfl (Ab (congrArg (C.int .i64) ?_) (Ab (congrArg (C.int .i64) ?_) rfl)))))) (Ab (congrArg V.c (congrArg C.bool ?_)) rfl))),Q6⟩) ?_
 rotate_left 6
 refine zE (Lo data script) (⟨data,0,([]:List Rd)++script,0,0⟩:Rdr) (fun hm1=>⟨(congrArg S.tup (Ab (congrArg V.agg (Ab (congrArg C.str ?_) (Ab (congrArg (C.int .i64) ?_) (Ab rfl (Ab (congrArg (C.int .i64) ?_) (Ab (congrArg (C.int .i64) ?_) rfl)))))) (Ab (congrArg V.c (congrArg C.bool ?_)) rfl))),Q6⟩) ?_
 rotate_left 6
 all_goals first|(simp_all[Lo,No];done)|(grind[Lo,No])
theorem Tm (p:Pln) (data:List UInt8) (script:List Rd) (hp1:List.length data≤1048576) (hp2:List.length script≤1048576) (hp3:List.length (p).shapes≤A8):Fun Tryz.prog 140 [.agg (Mg p),vT data,.c (.seq .rd script)] [] (.tup [.agg (Ar 0 1 2 3 (Fo p data script)),vB (K6 p data script)]) [.lst .rd (Fo p data script).reader.script,.tree (Fo p data script).dec.plan.shapes,.lst .lev (Fo p data script).dec.stack,.lst .ev (Fo p data script).queue]:=by
 have hN:A8=274877906944:=rfl
 refine Aq Tryz.func140 Q4 Q4 (w:=let zi:Int→C:= .int .i64;let z1:List C:=[.str [],zi 0,.own 0,zi 0,zi 0,.own 1,zi 0,zi 0,zi 0,zi 0,.own 2,.int .u64 0,zi 0,zi 0,zi 0,zi 0,zi 0,.bool false,.bool false,zi 0,zi 0,zi 0,zi 0,zi 0,zi 0,zi 0,zi 0,.int .u64 0,zi 0,.str [],zi 0,zi 0,.own 3,zi 0];let z3:=Fc p;let z4:=Fo p data script;let z5:=Lo data script;let z6:List Blk:=[.lst .rd z4.reader.script,.tree z4.dec.plan.shapes,.lst .lev z4.dec.stack,.lst .ev z4.queue];let z7:S:= .tup [.agg (Ar 0 1 2 3 z4),vB (K6 p data script)];let z2:=Lf (.tup [.agg z1,vB false]) z7 [.lst .rd ([]:List Rd),.tree ([]:List Shp),.lst .lev ([]:List Lev),.lst .ev ([]:List Ev)] z6;let z8:S:= .tup [.agg (Fd 0 z5),vB (No data script)];let z9:S:= .tup [.agg (Ae 0 1 z3),vB (Dh p)];(.seg [.call [] z8 [.lst .rd z5.script],.call [] z9 (L2 z3)] (.br (.seg [.at 0,.mk 1 2 .rd,.mkT 1 5,.mk 1 10 .lev,.mk 1 32 .ev] (.leaf () [7,8,9,10])) (.br (.seg [.at 0,.mk 1 2 .rd,.mkT 1 5,.mk 1 10 .lev,.mk 1 32 .ev] (.leaf () [7,8,9,10])) (.seg [.at 0,.mk 1 32 .ev] (.leaf () [2,4,5,7])))),(Fp 192 [vT data,.c (.seq .rd script)] [] z8 [.lst .rd z5.script])∧(Fp 40 [.agg (Mg p)] [] z9 (L2 z3))∧Bc (!(No data script)) z2 (Bc (!(Dh p)) z2 (Lf (.tup [.agg [.str z5.data,zi z5.at_,.own 0,zi z5.next,zi z5.code,.own 1,zi z3.plan.root,zi z3.plan.deep,zi z3.plan.most,zi z3.mode,.own 2,.int .u64 z3.scan.bits,zi z3.scan.have_,zi z3.start,zi z3.at_,zi z3.field.number,zi z3.field.kind,.bool z3.field.rep,.bool z3.field.packed,zi z3.field.msg,zi z3.wire,zi z3.want,zi z3.utf.want,zi z3.utf.low,zi z3.utf.high,zi z3.end_.kind,zi z3.end_.field,.int .u64 z3.end_.bits,zi z3.end_.len,.str z3.end_.text,zi z3.end_.code,zi z3.end_.at_,.own 3,zi 0],vB true]) z7 [.lst .rd z5.script,.tree z3.plan.shapes,.lst .lev z3.stack,.lst .ev ([]:List Ev)] z6)))) Q4 ?_
 refine⟨(Ajv _ _ Q2 Q2),(Adz p Q2),fun h1=>have q1:=An h1;?_,fun h1=>have q1:=Am h1;?_⟩
 refine zE (Fo p data script) (⟨(⟨[],0,([]:List Rd),0,0⟩:Rdr),(⟨(⟨([]:List Shp),0,0,0⟩:Pln),0,([]:List Lev),(⟨0,0⟩:Scn),0,0,(⟨0,0,false,false,0⟩:Fld),0,0,(⟨0,0,0⟩:Utf),(⟨0,0,0,0,[],0,0⟩:Ev)⟩:Dcd),([]:List Ev),0⟩:Strm) (fun hm1=>⟨(congrArg S.tup (Ab (congrArg V.agg (Ab (congrArg C.str ?_) (Ab (congrArg (C.int .i64) ?_) (Ab rfl (Ab (congrArg (C.int .i64) ?_) (Ab (congrArg (C.int .i64) ?_) (Ab rfl (Ab (congrArg (C.int .i64) ?_) (Ab (congrArg (C.int .i64) ?_) (Ab (congrArg (C.int .i64) ?_) (Ab (congrArg (C.int .i64) ?_) (Ab rfl (Ab (congrArg (C.int .u64) ?_) (Ab (congrArg (C.int .i64) ?_) (Ab (congrArg (C.int .i64) ?_) (Ab (congrArg (C.int .i64) ?_) (Ab (congrArg (C.int .i64) ?_) (Ab (congrArg (C.int .i64) ?_) (Ab (congrArg C.bool ?_) (Ab (congrArg C.bool ?_) (Ab (congrArg (C.int .i64) ?_) (Ab (congrArg (C.int .i64) ?_) (Ab (congrArg (C.int .i64) ?_) (Ab (congrArg (C.int .i64) ?_) (Ab (congrArg (C.int .i64) ?_) (Ab (congrArg (C.int .i64) ?_) (Ab (congrArg (C.int .i64) ?_) (Ab (congrArg (C.int .i64) ?_) (Ab (congrArg (C.int .u64) ?_) (Ab (congrArg (C.int .i64) ?_) (Ab (congrArg C.str ?_) (Ab (congrArg (C.int .i64) ?_) (Ab (congrArg (C.int .i64) ?_) (Ab rfl (Ab (congrArg (C.int .i64) ?_) rfl))))))))))))))))))))))))))))))))))) (Ab (congrArg V.c (congrArg C.bool ?_)) rfl))),Q6⟩) ?_
 rotate_left 32
 refine⟨fun h2=>have q2:=An h2;?_,fun h2=>have q2:=Am h2;have p2:=Cj q2;?_⟩
 refine zE (Fo p data script) (⟨(⟨[],0,([]:List Rd),0,0⟩:Rdr),(⟨(⟨([]:List Shp),0,0,0⟩:Pln),0,([]:List Lev),(⟨0,0⟩:Scn),0,0,(⟨0,0,false,false,0⟩:Fld),0,0,(⟨0,0,0⟩:Utf),(⟨0,0,0,0,[],0,0⟩:Ev)⟩:Dcd),([]:List Ev),0⟩:Strm) (fun hm1=>⟨(congrArg S.tup (Ab (congrArg V.agg (Ab (congrArg C.str ?_) (Ab (congrArg (C.int .i64) ?_) (Ab rfl (Ab (congrArg (C.int .i64) ?_) (Ab (congrArg (C.int .i64) ?_) (Ab rfl (Ab (congrArg (C.int .i64) ?_) (Ab (congrArg (C.int .i64) ?_) (Ab (congrArg (C.int .i64) ?_) (Ab (congrArg (C.int .i64) ?_) (Ab rfl (Ab (congrArg (C.int .u64) ?_) (Ab (congrArg (C.int .i64) ?_) (Ab (congrArg (C.int .i64) ?_) (Ab (congrArg (C.int .i64) ?_) (Ab (congrArg (C.int .i64) ?_) (Ab (congrArg (C.int .i64) ?_) (Ab (congrArg C.bool ?_) (Ab (congrArg C.bool ?_) (Ab (congrArg (C.int .i64) ?_) (Ab (congrArg (C.int .i64) ?_) (Ab (congrArg (C.int .i64) ?_) (Ab (congrArg (C.int .i64) ?_) (Ab (congrArg (C.int .i64) ?_) (Ab (congrArg (C.int .i64) ?_) (Ab (congrArg (C.int .i64) ?_) (Ab (congrArg (C.int .i64) ?_) (Ab (congrArg (C.int .u64) ?_) (Ab (congrArg (C.int .i64) ?_) (Ab (congrArg C.str ?_) (Ab (congrArg (C.int .i64) ?_) (Ab (congrArg (C.int .i64) ?_) (Ab rfl (Ab (congrArg (C.int .i64) ?_) rfl))))))))))))))))))))))))))))))))))) (Ab (congrArg V.c (congrArg C.bool ?_)) rfl))),Q6⟩) ?_
 rotate_left 32
 refine zE (Fo p data script) (⟨(Lo data script),(Fc p),([]:List Ev),0⟩:Strm) (fun hm1=>⟨(congrArg S.tup (Ab (congrArg V.agg (Ab (congrArg C.str ?_) (Ab (congrArg (C.int .i64) ?_) (Ab rfl (Ab (congrArg (C.int .i64) ?_) (Ab (congrArg (C.int .i64) ?_) (Ab rfl (Ab (congrArg (C.int .i64) ?_) (Ab (congrArg (C.int .i64) ?_) (Ab (congrArg (C.int .i64) ?_) (Ab (congrArg (C.int .i64) ?_) (Ab rfl (Ab (congrArg (C.int .u64) ?_) (Ab (congrArg (C.int .i64) ?_) (Ab (congrArg (C.int .i64) ?_) (Ab (congrArg (C.int .i64) ?_) (Ab (congrArg (C.int .i64) ?_) (Ab (congrArg (C.int .i64) ?_) (Ab (congrArg C.bool ?_) (Ab (congrArg C.bool ?_) (Ab (congrArg (C.int .i64) ?_) (Ab (congrArg (C.int .i64) ?_) (Ab (congrArg (C.int .i64) ?_) (Ab (congrArg (C.int .i64) ?_) (Ab (congrArg (C.int .i64) ?_) (Ab (congrArg (C.int .i64) ?_) (Ab (congrArg (C.int .i64) ?_) (Ab (congrArg (C.int .i64) ?_) (Ab (congrArg (C.int .u64) ?_) (Ab (congrArg (C.int .i64) ?_) (Ab (congrArg C.str ?_) (Ab (congrArg (C.int .i64) ?_) (Ab (congrArg (C.int .i64) ?_) (Ab rfl (Ab (congrArg (C.int .i64) ?_) rfl))))))))))))))))))))))))))))))))))) (Ab (congrArg V.c (congrArg C.bool ?_)) rfl))),Q6⟩) ?_
 rotate_left 32
 all_goals first|(simp_all[Fo,K6,An5,Ao3,utf0];done)|(grind[Fo,K6,An5,Ao3,utf0])
theorem Ah0 (d:Dcd) (c:Int) (hp1:List.length (d).plan.shapes≤1048576) (hp2: ∀e∈(d).plan.shapes,List.length e.fields≤1048576) (hp3:List.length (d).stack≤1048576) (hp4:(0:Int)≤(d).scan.bits∧(d).scan.bits≤18446744073709551615):Fun Tryz.prog 147 [.agg (Bs d),vI c] [] (.tup [.agg (Ae 0 1 (Jx d c).d),vO 2]) [.tree (Jx d c).d.plan.shapes,.lst .lev (Jx d c).d.stack,.lst .ev (Jx d c).out]:=by
 have hN:A8=274877906944:=rfl
 refine Aq Tryz.func147 Q4 Q4 (w:=let z2:=A9 d c d.at_;let z3:S:= .tup [.agg (Ae 0 1 (Jx d c).d),vO 2];let z4:=Ae 0 1 d;let z5:S:= .tup [.agg (Ae 2 3 z2),vO 4];let z6:List Blk:= .dead:: .dead::Ls z2 [A3 c d.at_];let z7:=Ls (Jx d c).d (Jx d c).out;let z1:=Lf (.tup [.agg z4,vO 2]) z3 (Ls d ([]:List Ev)) z7;(.seg [.call [] (.v (.agg z4)) (L2 d),.call [] (.v (vB (Bv d))) []] (.br (.seg [.ty .ev] (.leaf () [2,3,5])) (.br (.seg [.ty .ev] (.leaf () [2,3,5])) (.br (.seg [.ty .ev] (.leaf () [2,3,5])) (.seg [.call [2,3] z5 z6] (.leaf () [5,6,7]))))),(Fp 59 [.agg (Bs d)] [] (.v (.agg z4)) (L2 d))∧(Fp 60 [.agg (Bs d)] [] (.v (vB (Bv d))) [])∧Bc (!(Bv d)) z1 (Bc (decide (d.mode=9)) z1 (Bc (decide (c<1)) z1 ((Fp 64 [.agg z4,vI c,vI d.at_] (L2 d) z5 z6)∧Lf (.tup [.agg (Ae 0 1 z2),vO 2]) z3 (Ls z2 [A3 c d.at_]) z7))))) Q4 ?_
 refine⟨(Ge d Q2 (hp2) Q2),(W6 d Q2 Q2),fun h1=>have q1:=An h1;?_,fun h1=>have q1:=Am h1;?_⟩
 refine zD ((Jx d c).d) d ((Jx d c).out) ([]:List Ev) (fun hm1 hm2=>⟨Q6,Q10⟩) ?_ ?_
 rotate_left 2
 refine dsp (fun h2 p2=>?_) fun h2 p2=>?_
 refine zD ((Jx d c).d) d ((Jx d c).out) ([]:List Ev) (fun hm1 hm2=>⟨Q6,Q10⟩) ?_ ?_
 rotate_left 2
 refine dsp (fun h3 p3=>?_) fun h3 p3=>?_
 refine zD ((Jx d c).d) d ((Jx d c).out) ([]:List Ev) (fun hm1 hm2=>⟨Q6,Q10⟩) ?_ ?_
 rotate_left 2
 refine zD ((Jx d c).d) (A9 d c d.at_) ((Jx d c).out) [A3 c d.at_] (fun hm1 hm2=>⟨(C7 d _ _),Q6,Q10⟩) ?_ ?_
 rotate_left 2
 all_goals first|(simp_all[Jx,Az,A9];done)|(grind[Jx,Az,A9])
theorem Ny (s:Strm) (hp1:List.length (s).reader.data≤A8) (hp2:List.length (s).reader.script≤A8) (hp3:List.length (s).dec.stack≤A8) (hp4:List.length (s).dec.plan.shapes≤A8):Fun Tryz.prog 30 [.agg (Sf s)] [] (.v (vB (Dn s))) []:=by
 have hN:A8=274877906944:=rfl
 refine Aq Tryz.func30 Q4 Q4 (w:=let z1:=Lf (.v (vB false)) (.v (vB (Dn s))) [] [];let z2:=Bo s.reader;(.seg [.call [] (.v (vB z2)) []] (.br (.seg [.call [] (.v (vB (Bv s.dec))) []] (.br (.leaf () []) (.leaf () []))) (.leaf () [])),(Fp 76 [.agg (Zt s.reader)] [] (.v (vB z2)) [])∧Bc z2 ((Fp 51 [.agg (Bs s.dec)] [] (.v (vB (Bv s.dec))) [])∧Bc (Bv s.dec) (Lf (.v (vB (decide (0≤s.reads)))) (.v (vB (Dn s))) [] []) z1) z1)) Q4 ?_
 refine⟨(Yk s.reader Q2 Q2),fun h1=>have p1:=Eg h1;?_,fun h1=>?_⟩
 refine⟨(W5 s.dec Q2 Q2),fun h2=>?_,fun h2=>?_⟩
 refine⟨(sB ?_),rfl⟩
 rotate_left
 refine⟨(sB ?_),rfl⟩
 rotate_left
 refine⟨(sB ?_),rfl⟩
 rotate_left
 all_goals first|(simp_all[Dn];done)|(grind[Dn])
theorem Ad1 (s:Strm) (hp1:List.length (s).reader.data≤A8) (hp2:List.length (s).reader.script≤A8) (hp3:List.length (s).dec.stack≤A8) (hp4:List.length (s).dec.plan.shapes≤A8):Fun Tryz.prog 29 [.agg (Sf s)] [] (.v (vB (Dn s))) []:=by
 have hN:A8=274877906944:=rfl
 refine Aq Tryz.func29 Q4 Q4 (w:=let z1:=Lf (.v (vB false)) (.v (vB (Dn s))) [] [];let z2:=Bo s.reader;(.seg [.call [] (.v (vB z2)) []] (.br (.seg [.call [] (.v (vB (Bv s.dec))) []] (.br (.leaf () []) (.leaf () []))) (.leaf () [])),(Fp 75 [.agg (Zt s.reader)] [] (.v (vB z2)) [])∧Bc z2 ((Fp 60 [.agg (Bs s.dec)] [] (.v (vB (Bv s.dec))) [])∧Bc (Bv s.dec) (Lf (.v (vB (decide (0≤s.reads)))) (.v (vB (Dn s))) [] []) z1) z1)) Q4 ?_
 refine⟨(T5 s.reader Q2 Q2),fun h1=>have p1:=Eg h1;?_,fun h1=>?_⟩
 refine⟨(W6 s.dec Q2 Q2),fun h2=>?_,fun h2=>?_⟩
 refine⟨(sB ?_),rfl⟩
 rotate_left
 refine⟨(sB ?_),rfl⟩
 rotate_left
 refine⟨(sB ?_),rfl⟩
 rotate_left
 all_goals first|(simp_all[Dn];done)|(grind[Dn])
theorem Ae9 (s:Strm) (hp1:List.length (s).dec.plan.shapes≤1048576) (hp2: ∀e∈(s).dec.plan.shapes,List.length e.fields≤1048576) (hp3:List.length (s).dec.stack≤1048576) (hp4:List.length (s).reader.script≤1048576) (hp5:List.length (s).queue≤1048576):Fun Tryz.prog 73 [.agg (Sf s)] [] (.v (.agg (Ar 0 1 2 3 s))) [.lst .rd s.reader.script,.tree s.dec.plan.shapes,.lst .lev s.dec.stack,.lst .ev s.queue]:=by
 have hN:A8=274877906944:=rfl
 refine Aq Tryz.func73 Q4 Q4 (w:=let z1:List Blk:=[.cells (Ar 1 2 3 4 s),.lst .rd s.reader.script,.tree s.dec.plan.shapes,.lst .lev s.dec.stack,.lst .ev (([]:List Ev)++s.queue)];let z2:S:= .v (.agg (Ae 0 1 s.dec));let z3:=List.length ([]:List Ev)+List.length s.queue≤A8;let z4:S:= .v (.agg (Fd 0 s.reader));let z5:List Blk:=[.lst .rd s.reader.script];let z6:=([(2,.v (vP 0))]:List (Nat×S))=[(2,.v (vP 0))];let z7:=L2 s.dec;let z8:S:= .v (.agg (Ar 0 1 2 3 s));(.seg [.tree (.first 0 (.first 1 (.first 3 (.first 4 (.first 7 (.first 8 (.first 10 (.first 11 (.two 2 (.two 5 (.one 6 (.one 9 (.first 12 (.one 13 (.done))))) 6 (.one 5 (.one 9 (.first 12 (.one 13 (.done)))))) 6 (.one 2 (.one 5 (.one 9 (.first 12 (.one 13 (.done))))))))))))))) 13 [],.call [] z4 z5,.call [] z2 z7,.ty .ev,.ty .ev,.at 0,.keep [2],.sel [1,2,3,4,6],.ty .ev,.call [] z2 z7,.ty .ev,.at 0,.keep [2],.sel [1,2,4,5,6],.ty .ev,.call [] z4 z5,.call [] z2 z7,.ty .ev,.at 0,.keep [2],.sel [1,3,4,5,6]] (.leaf () [1,2,3,4]),(Fp 145 [.agg (Zt s.reader)] [] z4 z5)∧(Fp 59 [.agg (Bs s.dec)] [] z2 z7)∧z3∧(Fp 59 [.agg (Bs s.dec)] [] z2 z7)∧z3∧((z1:List Blk)=z1)∧z6∧(Fp 145 [.agg (Zt s.reader)] [] z4 z5)∧(Fp 59 [.agg (Bs s.dec)] [] z2 z7)∧z3∧((z1:List Blk)=z1)∧z6∧Lf z8 z8 [.lst .rd s.reader.script,.tree s.dec.plan.shapes,.lst .lev s.dec.stack,.lst .ev (([]:List Ev)++s.queue)] [.lst .rd s.reader.script,.tree s.dec.plan.shapes,.lst .lev s.dec.stack,.lst .ev s.queue])) Q4 ?_
 refine⟨(Ww s.reader Q2),(Ge s.dec Q2 (hp2) Q2),Q5,(Ge s.dec Q2 (hp2) Q2),Q5,rfl,rfl,(Ww s.reader Q2),(Ge s.dec Q2 (hp2) Q2),Q5,rfl,rfl,?_⟩
 have hm1:s=(⟨s.reader,s.dec,([]:List Ev)++s.queue,s.reads⟩:Strm):=by rfl
 exact⟨Q6,Q6⟩
theorem W9 {r:Rdr} {room:Int} :(A2 r room).length≤r.data.length:=by
 unfold A2
 split
 ·exact Nat.zero_le _
 ·rw[List.length_drop,List.length_take];omega
theorem Ah1 (d:Dcd):(G5 d).d.plan=d.plan∧(G5 d).d.stack=d.stack∧((0≤d.scan.bits∧d.scan.bits≤18446744073709551615)→0≤(G5 d).d.scan.bits∧(G5 d).d.scan.bits≤18446744073709551615):=by
 unfold G5
 split
 ·exact⟨rfl,rfl,fun h=>h⟩
 ·split
  ·exact⟨rfl,rfl,fun h=>h⟩
  ·exact⟨rfl,rfl,fun _=>by show (0:Int)≤0∧(0:Int)≤18446744073709551615;decide⟩
theorem Z5 (d:Dcd) (c:Int):(Jx d c).out.length≤1:=by unfold Jx;split<;>simp
theorem Aoh (s:Strm) (hp1:List.length (s).dec.plan.shapes≤1048576) (hp2: ∀e∈(s).dec.plan.shapes,List.length e.fields≤1048576) (hp3:List.length (s).dec.stack≤1048576) (hp4:(0:Int)≤(s).dec.scan.bits∧(s).dec.scan.bits≤18446744073709551615) (hp5:List.length (s).reader.script≤1048576) (hp6:List.length (s).reader.data≤1048576) (hp7:List.length (s).queue≤1048576):Fun Tryz.prog 74 [.agg (Ar 0 1 2 3 s)] [.lst .rd s.reader.script,.tree s.dec.plan.shapes,.lst .lev s.dec.stack,.lst .ev s.queue] (.v (.agg (Ar 4 5 6 7 (Cw s)))) [.dead,.dead,.dead,.dead,.lst .rd (Cw s).reader.script,.tree (Cw s).dec.plan.shapes,.lst .lev (Cw s).dec.stack,.lst .ev (Cw s).queue]:=by
 have hN:A8=274877906944:=rfl
 have htl:=W9 (r:=s.reader) (room:=16)
 have hcl:=W0 s.dec (A2 s.reader 16)
 have hcb:=hcl.2.2.2 hp4
 have hcs:List.length (Bk s.dec (A2 s.reader 16)).d.plan.shapes=List.length s.dec.plan.shapes:=by rw[hcl.1]
 have hcf: ∀e∈(Bk s.dec (A2 s.reader 16)).d.plan.shapes,List.length e.fields≤1048576:=by rw[hcl.1];exact hp2
 have hfl:=Zz (Bk s.dec (A2 s.reader 16)).d
 have hbl:=Z5 (Bk s.dec (A2 s.reader 16)).d (B0 s.reader 16)
 have hfs:=Ah1 (Bk s.dec (A2 s.reader 16)).d
 have hfb:=hfs.2.2 hcb
 have hfp:List.length (G5 (Bk s.dec (A2 s.reader 16)).d).d.plan.shapes=List.length s.dec.plan.shapes:=by rw[hfs.1];exact hcs
 have hft:List.length (G5 (Bk s.dec (A2 s.reader 16)).d).d.stack=List.length (Bk s.dec (A2 s.reader 16)).d.stack:=by rw[hfs.2.1]
 have hff: ∀e∈(G5 (Bk s.dec (A2 s.reader 16)).d).d.plan.shapes,List.length e.fields≤1048576:=by rw[hfs.1];exact hcf
 have hb2:=Z5 (G5 (Bk s.dec (A2 s.reader 16)).d).d (B0 s.reader 16)
 refine Aq Tryz.func74 Q4 Q4 (w:=let zi:Int→C:= .int .i64;let z4:=B0 s.reader 16;let z5:List Blk:=[.dead,.dead,.dead,.dead,.lst .rd (Cw s).reader.script,.tree (Cw s).dec.plan.shapes,.lst .lev (Cw s).dec.stack,.lst .ev (Cw s).queue];let z7:=A7 s.reader 16;let z11:S:= .v (.agg (Ar 4 5 6 7 (Cw s)));let z14:=IntKind.i64.wrap (s.reads+1);let z18:=A2 s.reader 16;let z3:=Bk s.dec z18;let z2:List C:=[.str z7.data,zi z7.at_,.own 4,zi z7.next,zi z7.code,.own 5,zi z3.d.plan.root,zi z3.d.plan.deep,zi z3.d.plan.most,zi z3.d.mode,.own 6,.int .u64 z3.d.scan.bits,zi z3.d.scan.have_,zi z3.d.start,zi z3.d.at_,zi z3.d.field.number,zi z3.d.field.kind,.bool z3.d.field.rep,.bool z3.d.field.packed,zi z3.d.field.msg,zi z3.d.wire,zi z3.d.want,zi z3.d.utf.want,zi z3.d.utf.low,zi z3.d.utf.high,zi z3.d.end_.kind,zi z3.d.end_.field,.int .u64 z3.d.end_.bits,zi z3.d.end_.len,.str z3.d.end_.text,zi z3.d.end_.code,zi z3.d.end_.at_,.own 7,zi z14];let z8:=Jx z3.d z4;let z9:=G5 z3.d;let z1:List C:=[.str z7.data,zi z7.at_,.own 4,zi z7.next,zi z7.code,.own 5,zi z9.d.plan.root,zi z9.d.plan.deep,zi z9.d.plan.most,zi z9.d.mode,.own 6,.int .u64 z9.d.scan.bits,zi z9.d.scan.have_,zi z9.d.start,zi z9.d.at_,zi z9.d.field.number,zi z9.d.field.kind,.bool z9.d.field.rep,.bool z9.d.field.packed,zi z9.d.field.msg,zi z9.d.wire,zi z9.d.want,zi z9.d.utf.want,zi z9.d.utf.low,zi z9.d.utf.high,zi z9.d.end_.kind,zi z9.d.end_.field,.int .u64 z9.d.end_.bits,zi z9.d.end_.len,.str z9.d.end_.text,zi z9.d.end_.code,zi z9.d.end_.at_,.own 7,zi z14];let z6:=Jx z9.d z4;let z12:=s.queue++z3.out;let z10:=(List.length z12+List.length z9.out≤A8)∧Lf (.v (.agg z1)) z11 [.dead,.dead,.dead,.dead,.lst .rd z7.script,.tree z9.d.plan.shapes,.lst .lev z9.d.stack,.lst .ev (z12++z9.out)] z5;let z13:List Blk:=[.dead,.dead,.dead,.dead,.lst .rd z7.script,.tree z3.d.plan.shapes,.lst .lev z3.d.stack,.lst .ev (z12++([]:List Ev))];let z15:S:= .tup [.agg (Fd 0 z7),vT z18,vI z4];let z16:=List.length z12+List.length ([]:List Ev)≤A8;let z17:= !decide (z3.d.mode=9);let z19:S:= .tup [.agg (Ae 0 1 z3.d),vO 2];let z20:S:= .tup [.agg (Ae 0 1 z9.d),vO 2];let z21:S:= .tup [.agg (Ae 0 1 z6.d),vO 2];let z22:S:= .tup [.agg (Ae 0 1 z8.d),vO 2];let z23:=decide (20≤B0 s.reader 16);(.seg [.call [] z15 [.lst .rd z7.script],.call [] z19 (Ls z3.d z3.out),.ty .ev,.ty .ev] (.br (.br (.seg [.call [] z20 (Ls z9.d z9.out)] (.br (.br (.seg [.call [] z21 (Ls z6.d z6.out),.ty .ev,.at 0,.kill 0,.kill 1,.kill 2] (.leaf () [0,1,2,3,6,17,18,20])) (.seg [.ty .ev,.at 0,.kill 0,.kill 1,.kill 2] (.leaf () [0,1,2,3,6,14,15,17]))) (.seg [.ty .ev,.at 0,.kill 0,.kill 1,.kill 2] (.leaf () [0,1,2,3,6,14,15,17])))) (.seg [.br true] (.br (.seg [.call [] z22 (Ls z8.d z8.out),.ty .ev,.at 0,.kill 0,.kill 1,.kill 2] (.leaf () [0,1,2,3,6,14,15,17])) (.seg [.ty .ev,.at 0,.kill 0,.kill 1,.kill 2] (.leaf () [0,1,2,3,6,8,9,14]))))) (.seg [.br false,.ty .ev,.at 0,.kill 0,.kill 1,.kill 2] (.leaf () [0,1,2,3,6,8,9,14]))),(Fp 146 [.agg (Zt s.reader),vI 16] [] z15 [.lst .rd z7.script])∧(Fp 90 [.agg (Bs s.dec),vT z18] [] z19 (Ls z3.d z3.out))∧(List.length s.queue+List.length z3.out≤A8)∧Bc z17 (Bc (decide (B0 s.reader 16=1)) ((Fp 42 [.agg (Bs z3.d)] [] z20 (Ls z9.d z9.out))∧Bc (!decide (z9.d.mode=9)) (Bc z23 ((Fp 147 [.agg (Bs z9.d),vI z4] [] z21 (Ls z6.d z6.out))∧(List.length z12+List.length z6.out≤A8)∧Lf (.v (.agg [.str z7.data,zi z7.at_,.own 4,zi z7.next,zi z7.code,.own 5,zi z6.d.plan.root,zi z6.d.plan.deep,zi z6.d.plan.most,zi z6.d.mode,.own 6,.int .u64 z6.d.scan.bits,zi z6.d.scan.have_,zi z6.d.start,zi z6.d.at_,zi z6.d.field.number,zi z6.d.field.kind,.bool z6.d.field.rep,.bool z6.d.field.packed,zi z6.d.field.msg,zi z6.d.wire,zi z6.d.want,zi z6.d.utf.want,zi z6.d.utf.low,zi z6.d.utf.high,zi z6.d.end_.kind,zi z6.d.end_.field,.int .u64 z6.d.end_.bits,zi z6.d.end_.len,.str z6.d.end_.text,zi z6.d.end_.code,zi z6.d.end_.at_,.own 7,zi z14])) z11 [.dead,.dead,.dead,.dead,.lst .rd z7.script,.tree z6.d.plan.shapes,.lst .lev z6.d.stack,.lst .ev (z12++z6.out)] z5) z10) z10) ((z17=true)∧Bc z23 ((Fp 147 [.agg (Bs z3.d),vI z4] [] z22 (Ls z8.d z8.out))∧(List.length z12+List.length z8.out≤A8)∧Lf (.v (.agg [.str z7.data,zi z7.at_,.own 4,zi z7.next,zi z7.code,.own 5,zi z8.d.plan.root,zi z8.d.plan.deep,zi z8.d.plan.most,zi z8.d.mode,.own 6,.int .u64 z8.d.scan.bits,zi z8.d.scan.have_,zi z8.d.start,zi z8.d.at_,zi z8.d.field.number,zi z8.d.field.kind,.bool z8.d.field.rep,.bool z8.d.field.packed,zi z8.d.field.msg,zi z8.d.wire,zi z8.d.want,zi z8.d.utf.want,zi z8.d.utf.low,zi z8.d.utf.high,zi z8.d.end_.kind,zi z8.d.end_.field,.int .u64 z8.d.end_.bits,zi z8.d.end_.len,.str z8.d.end_.text,zi z8.d.end_.code,zi z8.d.end_.at_,.own 7,zi z14])) z11 [.dead,.dead,.dead,.dead,.lst .rd z7.script,.tree z8.d.plan.shapes,.lst .lev z8.d.stack,.lst .ev (z12++z8.out)] z5) (z16∧Lf (.v (.agg z2)) z11 z13 z5))) ((z17=false)∧z16∧Lf (.v (.agg z2)) z11 z13 z5))) Q4 ?_
 refine⟨(Ym s.reader _ Q2 Q2),(Aog s.dec _ Q2 (Q78) Q2 Q2 Q2),Q2,fun h1=>have q1:=An h1;have p1:=of_decide_eq_false q1;?_,fun h1=>have q1:=Am h1;have p1:=of_decide_eq_true q1;?_⟩
 refine dsp (fun h2 p2=>?_) fun h2 p2=>?_
 refine⟨(Aju (Bk s.dec (A2 s.reader 16)).d Q2 (Q78) Q2 Q2),fun h3=>have q3:=An h3;have p3:=of_decide_eq_false q3;?_,fun h3=>have q3:=Am h3;have p3:=of_decide_eq_true q3;?_⟩
 refine dsp (fun h4 p4=>?_) fun h4 p4=>?_
 refine zE (Cw s) (⟨(A7 s.reader 16),(Jx (G5 (Bk s.dec (A2 s.reader 16)).d).d (B0 s.reader 16)).d,(s.queue++(Bk s.dec (A2 s.reader 16)).out)++(Jx (G5 (Bk s.dec (A2 s.reader 16)).d).d (B0 s.reader 16)).out,IntKind.i64.wrap (s.reads+1)⟩:Strm) (fun hm1=>⟨(Ah0 (G5 (Bk s.dec (A2 s.reader 16)).d).d _ Q2 (Q78) Q2 Q2),Q29,Q6,Q6⟩) ?_
 rotate_left
 refine zE (Cw s) (⟨(A7 s.reader 16),(G5 (Bk s.dec (A2 s.reader 16)).d).d,(s.queue++(Bk s.dec (A2 s.reader 16)).out)++(G5 (Bk s.dec (A2 s.reader 16)).d).out,IntKind.i64.wrap (s.reads+1)⟩:Strm) (fun hm1=>⟨Q29,Q6,Q6⟩) ?_
 rotate_left
 refine zE (Cw s) (⟨(A7 s.reader 16),(G5 (Bk s.dec (A2 s.reader 16)).d).d,(s.queue++(Bk s.dec (A2 s.reader 16)).out)++(G5 (Bk s.dec (A2 s.reader 16)).d).out,IntKind.i64.wrap (s.reads+1)⟩:Strm) (fun hm1=>⟨Q29,Q6,Q6⟩) ?_
 rotate_left
 refine⟨h1,dsp (fun h3 p3=>?_) fun h3 p3=>?_⟩
 refine zE (Cw s) (⟨(A7 s.reader 16),(Jx (Bk s.dec (A2 s.reader 16)).d (B0 s.reader 16)).d,(s.queue++(Bk s.dec (A2 s.reader 16)).out)++(Jx (Bk s.dec (A2 s.reader 16)).d (B0 s.reader 16)).out,IntKind.i64.wrap (s.reads+1)⟩:Strm) (fun hm1=>⟨(Ah0 (Bk s.dec (A2 s.reader 16)).d _ Q2 (Q78) Q2 Q2),Q29,Q6,Q6⟩) ?_
 rotate_left
 refine zE (Cw s) (⟨(A7 s.reader 16),(Bk s.dec (A2 s.reader 16)).d,(s.queue++(Bk s.dec (A2 s.reader 16)).out)++([]:List Ev),IntKind.i64.wrap (s.reads+1)⟩:Strm) (fun hm1=>⟨Q47,Q6,Q6⟩) ?_
 rotate_left
 refine zE (Cw s) (⟨(A7 s.reader 16),(Bk s.dec (A2 s.reader 16)).d,(s.queue++(Bk s.dec (A2 s.reader 16)).out)++([]:List Ev),IntKind.i64.wrap (s.reads+1)⟩:Strm) (fun hm1=>⟨h1,Q47,Q6,Q6⟩) ?_
 rotate_left
 all_goals first|((simp[Cw,W1, *];done))|(simp_all[Cw,W1];done)|((exfalso;omega))|(grind[Cw,W1])
structure Bxi where
 v:List Int
theorem Z6 {p:Pln} :(Fc p).plan.shapes.length≤6∧(∀e∈(Fc p).plan.shapes,e.fields.length≤1048576)∧(Fc p).stack.length≤8∧(0≤(Fc p).scan.bits∧(Fc p).scan.bits≤18446744073709551615):=by
 unfold Fc
 split
 ·rename_i h
  have ht:=Cj h
  exact⟨ht.1,D4 ht.2.1,by simp,by simp⟩
 ·exact⟨by simp,fun e he=>(by cases he),by simp,by simp⟩
structure Bxn where
 v:Int
theorem Tn {s:Strm} (h:Dn s=true):Bo s.reader=true∧Bv s.dec=true∧0≤s.reads:=by
 simp only[Dn,Bool.and_eq_true,decide_eq_true_eq] at h
 exact⟨h.1.1,h.1.2,h.2⟩
theorem Ah2 {s:Strm} (h1:Bo s.reader=true) (h2:Bv s.dec=true) (h3:0≤s.reads):Dn s=true:=by
 simp only[Dn,Bool.and_eq_true,decide_eq_true_eq]
 exact⟨⟨h1,h2⟩,h3⟩
theorem Nz {s:Strm} (hr:Bo s.reader=true) (hd:Bv s.dec=true):s.dec.plan.shapes.length≤6∧(∀e∈s.dec.plan.shapes,e.fields.length≤1048576)∧s.dec.stack.length≤8∧(0≤s.dec.scan.bits∧s.dec.scan.bits≤18446744073709551615)∧s.reader.script.length≤200∧s.reader.data.length≤4000:=by
 have hl:=B7 (Mi hd).1
 have hp:=Cj hl.1
 have ht:=Eg hr
 exact⟨hp.1,D4 hp.2.1,hl.2.2.1,Qz hd,by omega,by omega⟩
theorem Ah3 (d:Dcd) (c:Int):(Jx d c).d.plan=d.plan:=by unfold Jx;split<;>rfl
theorem Ah4 (d:Dcd):(G5 d).d.plan=d.plan:=by unfold G5;split;rfl;split<;>rfl
theorem Ah5 (d:Dcd) (c:Int):(W1 d c).d.plan=d.plan:=by
 unfold W1
 split
 ·rfl
 ·split
  ·exact Ah4 d
  ·split
   ·exact Ah3 d c
   ·rfl
theorem Ad2 (d:Dcd) (c:Int):(W1 d c).out.length≤1:=by
 unfold W1
 split
 ·exact Nat.zero_le _
 ·split
  ·exact Zz d
  ·split
   ·unfold Jx;split
    ·exact Nat.le_refl _
    ·exact Nat.zero_le _
   ·exact Nat.zero_le _
theorem Abe (r:Rdr) (room:Int):(A2 r room).length≤r.data.length:=by
 unfold A2
 split
 ·exact Nat.zero_le _
 ·rw[List.length_drop,List.length_take];omega
theorem To (r:Rdr) (room:Int):(A7 r room).data=r.data∧(A7 r room).script=r.script:=by
 unfold A7
 split
 ·exact⟨rfl,rfl⟩
 ·exact⟨rfl,rfl⟩
theorem Ud (s:Strm):(Cw s).dec.plan=s.dec.plan∧(Cw s).reader.data=s.reader.data∧(Cw s).reader.script=s.reader.script∧(Cw s).queue.length≤s.queue.length+14*s.reader.data.length+1∧(Cw s).reads=IntKind.i64.wrap (s.reads+1):=by
 have hc:=W0 s.dec (A2 s.reader 16)
 have hk:=To s.reader 16
 have ht:=Abe s.reader 16
 have he:=Ad2 (Bk s.dec (A2 s.reader 16)).d (B0 s.reader 16)
 refine⟨(Ah5 _ _).trans hc.1,hk.1,hk.2,?_,rfl⟩
 show (s.queue++_++_).length≤_
 rw[List.length_append,List.length_append]
 omega
structure Keep (s t:Strm) (n:Nat):Prop where
 rd:Bo t.reader=true
 dc:Bv t.dec=true
 pl:t.dec.plan=s.dec.plan
 da:t.reader.data=s.reader.data
 sc:t.reader.script=s.reader.script
 qu:t.queue.length≤max s.queue.length 60000
 re:0≤s.reads→s.reads+(n:Int)≤4611686018427387904→0≤t.reads∧t.reads≤s.reads+(n:Int)
theorem Keep.refl {s:Strm} (h1:Bo s.reader=true) (h2:Bv s.dec=true) (n:Nat):Keep s s n:=⟨h1,h2,rfl,rfl,rfl,by omega,fun h _=>⟨h,by omega⟩⟩
theorem Keep.trans {s t u:Strm} {a b c:Nat} (h:Keep s t a) (h2:Keep t u b) (hc:a+b≤c):Keep s u c:=by
 refine⟨h2.rd,h2.dc,h2.pl.trans h.pl,h2.da.trans h.da,h2.sc.trans h.sc,?_,fun h0 hb=>?_⟩
 ·have:=h.qu;have:=h2.qu;omega
 ·have h3:=h.re h0 (by omega)
  have h4:=h2.re h3.1 (by omega)
  omega
theorem Am3 {x:Int} (h:0≤x) (h2:x≤4611686018427387905):IntKind.i64.wrap x=x:=Ab8 (by omega) (by omega)
theorem Keep.fill {s:Strm} (h1:Bo s.reader=true) (h2:Bv s.dec=true) (hq:s.queue=[]):Keep s (Cw s) 1:=by
 have hk:=Ud s
 have hl:=Nz h1 h2
 refine⟨Fu h1,K9 h2,hk.1,hk.2.1,hk.2.2.1,?_,fun h0 hb=>?_⟩
 ·have:=hk.2.2.2.1;rw[hq] at this;simp only[List.length_nil] at this;omega
 ·rw[hk.2.2.2.2,Am3 (by omega) (by omega)];omega
theorem Xa: ∀(k:Nat) {s:Strm},Bo s.reader=true→Bv s.dec=true→Keep s (Jk k s) k
 |0,s,h1,h2=>Keep.refl h1 h2 0
 |k+1,s,h1,h2=>by
  rw[Jk]
  split
  ·rename_i h
   have hf:=Keep.fill h1 h2 h.1
   exact hf.trans (Xa k hf.rd hf.dc) Q2
  ·exact Keep.refl h1 h2 _
theorem Ajw {r:Rdr} (h:Bo r=true):rmu r≤4200:=by
 have:=Eg h
 unfold rmu
 omega
theorem Afa {s:Strm} (h1:Bo s.reader=true) (h2:Bv s.dec=true):Keep s (G6 s) 4201:=by
 have h:=Xa (rmu s.reader+1) h1 h2
 have hr:=Ajw h1
 exact h.trans (Keep.refl h.rd h.dc 0) Q2
def Rs (s:Strm):Strm:=⟨(G6 s).reader,(G6 s).dec,(G6 s).queue.drop 1,(G6 s).reads⟩
def Ad3 (s:Strm):Ev:=(G6 s).queue.headD (G6 s).dec.end_
def Dp (s:Strm):Strm:=if Dn s=true then Rs s else s
def J0 (s:Strm):Ev:=if Dn s=true then Ad3 s else ev0
theorem Z7 {s:Strm} (h1:Bo s.reader=true) (h2:Bv s.dec=true):Keep s (Rs s) 4201:=by
 have h:=Afa h1 h2
 exact⟨h.rd,h.dc,h.pl,h.da,h.sc,by have:=h.qu;show ((G6 s).queue.drop 1).length≤_;rw[List.length_drop];omega,h.re⟩
theorem Z8 {s:Strm} {x:Ev} (h:s.queue[0]? =some x):s.queue.headD s.dec.end_=x:=by
 cases hq:s.queue with
 |nil=>rw[hq] at h;cases h
 |cons a r=>rw[hq] at h;cases h;rfl
def smu (s:Strm):Nat:=if s.dec.mode=9 then 0 else rmu s.reader+1
theorem Ad4 {s:Strm} (hr:Bo s.reader=true) (hd:Bv s.dec=true) (h9:s.dec.mode≠9):smu (Cw s)<smu s:=by
 unfold smu
 rw[if_neg h9]
 rcases Ra hr hd with h|h
 ·rw[if_pos h];omega
 ·split<;>omega
theorem Vs {s:Strm} (h:Dn s=true):Dp s=Rs s∧J0 s=Ad3 s:=by unfold Dp J0;rw[if_pos h,if_pos h];exact⟨rfl,rfl⟩
theorem Z9 {s:Strm} (h:Dn s=false):Dp s=s∧J0 s=ev0:=by unfold Dp J0;rw[if_neg (by simp[h]),if_neg (by simp[h])];exact⟨rfl,rfl⟩
theorem Yz {s t:Strm} (h:t=G6 s):Rs s=⟨t.reader,t.dec,t.queue.drop 1,t.reads⟩∧Ad3 s=t.queue.headD t.dec.end_:=by subst h;exact⟨rfl,rfl⟩
theorem Afb {α:Type} {l:List α} :[]++List.take (l.length-1) (List.drop 1 l)=List.drop 1 l:=by
 rw[List.nil_append];exact List.take_of_length_le (by rw[List.length_drop];exact Nat.le_refl _)
theorem Vt {α:Type} {l:List α} (h:l=[]):l.drop 1=l:=by rw[h];rfl
structure Tp where
 out:Strm
def Tq (s:Strm):Fam:=⟨Tp,fun q1=>[(2,.v (vP 0)),(3,.v (vP 1)),(4,.v (vP 2))],fun q1=>[.cells [.str [],.int .i64 0,.nil,.int .i64 0,.int .i64 0,.nil,.int .i64 0,.int .i64 0,.int .i64 0,.int .i64 0,.nil,.int .u64 0,.int .i64 0,.int .i64 0,.int .i64 0,.int .i64 0,.int .i64 0,.bool false,.bool false,.int .i64 0,.int .i64 0,.int .i64 0,.int .i64 0,.int .i64 0,.int .i64 0,.int .i64 0,.int .i64 0,.int .u64 0,.int .i64 0,.str [],.int .i64 0,.int .i64 0,.nil,.int .i64 0],.cells [.int .i64 0,.int .i64 0,.int .u64 0,.int .i64 0,.str [],.int .i64 0,.int .i64 0],.cells (Ar 3 4 5 6 q1.out),.lst .rd q1.out.reader.script,.tree q1.out.dec.plan.shapes,.lst .lev q1.out.dec.stack,.lst .ev q1.out.queue],fun q1=>G6 q1.out=G6 s∧Bo (q1.out).reader=true∧Bv (q1.out).dec=true∧List.length (q1.out).queue≤1048576,fun q1=>smu q1.out⟩
theorem Ak0 (s:Strm) (hp1:List.length (s).dec.plan.shapes≤1048576) (hp2: ∀e∈(s).dec.plan.shapes,List.length e.fields≤1048576) (hp3:List.length (s).dec.stack≤1048576) (hp4:List.length (s).reader.script≤1048576) (hp5:List.length (s).queue≤1048576) (hp6:List.length (s).reader.data≤A8):Fun Tryz.prog 28 [.agg (Sf s)] [] (.tup [.agg (Ar 0 1 2 3 (Dp s)),.agg (cEv (J0 s))]) [.lst .rd (Dp s).reader.script,.tree (Dp s).dec.plan.shapes,.lst .lev (Dp s).dec.stack,.lst .ev (Dp s).queue]:=by
 have hN:A8=274877906944:=rfl
 refine Aq Tryz.func28 Q4 Q4 (w:=let zi:Int→C:= .int .i64;let z8:List C:=[.str [],zi 0,.nil,zi 0,zi 0,.nil,zi 0,zi 0,zi 0,zi 0,.nil,.int .u64 0,zi 0,zi 0,zi 0,zi 0,zi 0,.bool false,.bool false,zi 0,zi 0,zi 0,zi 0,zi 0,zi 0,zi 0,zi 0,.int .u64 0,zi 0,.str [],zi 0,zi 0,.nil,zi 0];let z9:List C:=[zi 0,zi 0,.int .u64 0,zi 0,.str [],zi 0,zi 0];let z10:List Blk:=[.lst .rd (Dp s).reader.script,.tree (Dp s).dec.plan.shapes,.lst .lev (Dp s).dec.stack,.lst .ev (Dp s).queue];let z11:List Blk:=[.lst .rd s.reader.script,.tree s.dec.plan.shapes,.lst .lev s.dec.stack,.lst .ev s.queue];let z12:S:= .tup [.agg (Ar 0 1 2 3 (Dp s)),.agg (cEv (J0 s))];let z13:=Ar 0 1 2 3 s;let z14:=Tq s;(.seg [.call [] (.v (.agg z13)) z11,.call [] (.v (vB (Dn s))) []] (.br (.leaf () [3,4,5,6]) (.seg [.at 0,.keep [2,3,4],.sel [1,2,7,3,4,5,6]] (.loop z14 fun q1=>let z1:=Cw q1.out;.br (.br (.seg [.call [3,4,5,6] (.v (.agg (Ar 4 5 6 7 z1))) [.dead,.dead,.dead,.dead,.lst .rd z1.reader.script,.tree z1.dec.plan.shapes,.lst .lev z1.dec.stack,.lst .ev z1.queue],.at 0,.keep [2,3,4],.sel [0,1,2,7,8,9,10]] (.next)) (.br (.intro (Sx (q1.out.queue[0]?)) fun x1=> .seg [.el .ev x1,.ty .ev,.ty .ev,.ord (os 4 [2,3]) [0]] (.leaf () [3,4,5,9])) (.seg [.ord (os 6 [4,5]) [0]] (.leaf () [3,4,5,6])))) (.br (.intro (Sx (q1.out.queue[0]?)) fun x1=> .seg [.el .ev x1,.ty .ev,.ty .ev,.ord (os 4 [2,3]) [0]] (.leaf () [3,4,5,9])) (.seg [.ord (os 6 [4,5]) [0]] (.leaf () [3,4,5,6])))))),(Fp 73 [.agg (Sf s)] [] (.v (.agg z13)) z11)∧(Fp 29 [.agg (Sf s)] [] (.v (vB (Dn s))) [])∧Bc (!(Dn s)) (Lf (.tup [.agg z13,.agg z9]) z12 z11 z10) (z14.Has [(2,.v (vP 0)),(3,.v (vP 1)),(4,.v (vP 2))] [.cells z8,.cells z9,.cells (Ar 3 4 5 6 s),.lst .rd s.reader.script,.tree s.dec.plan.shapes,.lst .lev s.dec.stack,.lst .ev s.queue]∧∀q1,z14.inv q1→(let z3:=((List.length q1.out.queue:Nat):Int);let z4:List Blk:=[.lst .rd q1.out.reader.script,.tree q1.out.dec.plan.shapes,.lst .lev q1.out.dec.stack,.lst .ev q1.out.queue];let z5:=Cw q1.out;let z6:=List.take ((List.length q1.out.queue)-1) (List.drop 1 q1.out.queue);let z7:=Ar 0 1 2 3 q1.out;let z2:=Bc (decide (0<z3)) (El (q1.out.queue[0]?) fun x1=>((0<z3)∧((0:Int)≤0)∧(q1.out.queue[0]? =some x1)∧(1≤z3)∧((0:Int)≤1)∧(List.length ([]:List Ev)+List.length z6≤A8)∧Lf (.tup [.agg z7,.agg (cEv x1)]) z12 [.lst .rd q1.out.reader.script,.tree q1.out.dec.plan.shapes,.lst .lev q1.out.dec.stack,.lst .ev (([]:List Ev)++z6)] z10)) (Lf (.tup [.agg z7,.agg (cEv q1.out.dec.end_)]) z12 z4 z10);Bc (decide (z3=0)) (Bc (!decide (q1.out.dec.mode=9)) ((Fp 74 [.agg z7] z4 (.v (.agg (Ar 4 5 6 7 z5))) [.dead,.dead,.dead,.dead,.lst .rd z5.reader.script,.tree z5.dec.plan.shapes,.lst .lev z5.dec.stack,.lst .ev z5.queue])∧z14.Nxt q1 [(2,.v (vP 0)),(3,.v (vP 1)),(4,.v (vP 2))] [.cells z8,.cells z9,.cells (Ar 3 4 5 6 z5),.lst .rd z5.reader.script,.tree z5.dec.plan.shapes,.lst .lev z5.dec.stack,.lst .ev z5.queue]) z2) z2)))) Q4 ?_
 refine⟨(Ae9 s Q2 ((by first|(exact hlm.2.1)|(exact hp2))) Q2 Q2 Q2),(Ad1 s Q2 Q2 Q2 Q2),fun h1=>have q1:=An h1;?_,fun h1=>have q1:=Am h1;?_⟩
 have hpl:=Z9 (by simpa using q1)
 refine zD (Dp s) s (J0 s) (⟨0,0,0,0,[],0,0⟩:Ev) (fun hm1 hm2=>⟨Q10,Q6⟩) ?_ ?_
 rotate_left 2
 have hpl:=Vs q1
 have hso:=Tn q1
 have hsl:=Nz hso.1 hso.2.1
 refine⟨Bj (j:=(⟨s⟩:Tp)) rfl rfl (by dsimp only[Tq];exact⟨rfl,hso.1,hso.2.1,hp5⟩),fun (q1:Tp) hq_q1=>?_⟩
 have hi_q1:G6 q1.out=G6 s∧Bo (q1.out).reader=true∧Bv (q1.out).dec=true∧List.length (q1.out).queue≤1048576:=hq_q1
 obtain ⟨v1,v2,v3,v4⟩:=hi_q1
 have hlm:=Nz v2 v3
 refine dsp (fun h2 p2=>?_) fun h2 p2=>?_
 have hqe:q1.out.queue=[]:=List.eq_nil_of_length_eq_zero (by omega)
 refine⟨fun h3=>have q3:=An h3;have p3:=of_decide_eq_false q3;?_,fun h3=>have q3:=Am h3;have p3:=of_decide_eq_true q3;?_⟩
 have h9:q1.out.dec.mode≠9:=by omega
 exact⟨(Aoh q1.out Q2 ((by first|(exact hlm.2.1)|(exact hp2))) Q2 Q2 Q2 Q2 Q2),A5 (j:=(⟨(Cw q1.out)⟩:Tp)) rfl rfl (by dsimp only[Tq];exact⟨(Ys v2 v3 ⟨hqe,h9⟩).symm.trans v1,Fu v2,K9 v3,by have:=(Ud q1.out).2.2.2.1;omega⟩) (by dsimp only[Tq];exact Ad4 v2 v3 h9)⟩
 have hst:G6 q1.out=q1.out:=H4 (fun hc=>by have h1:=congrArg List.length hc.1;rw[List.length_nil] at h1;have h2:=hc.2;omega)
 rw[hst] at v1
 have hpo:=Yz v1
 refine dsp (fun h4 p4=>?_) fun h4 p4=>?_
 have hst:G6 q1.out=q1.out:=H4 (fun hc=>by have h1:=congrArg List.length hc.1;rw[List.length_nil] at h1;have h2:=hc.2;omega)
 try rw[hst] at v1
 have hpo:=Yz v1
 refine⟨(Bm (l:=q1.out.queue) (i:=0) Q2),fun x1 hx1=>?_⟩
 refine⟨Q2,Q30,?_⟩
 have hpx:=Z8 (s:=q1.out) hx1
 refine zD (Dp s) (⟨q1.out.reader,q1.out.dec,([]:List Ev)++(List.take ((List.length q1.out.queue)-1) (List.drop 1 q1.out.queue)),q1.out.reads⟩:Strm) (J0 s) x1 (fun hm1 hm2=>⟨hx1,Q2,Q30,Q49,Q10,Q6⟩) ?_ ?_
 rotate_left 2
 have hqe:q1.out.queue=[]:=List.eq_nil_of_length_eq_zero (by omega)
 refine zD (Dp s) q1.out (J0 s) q1.out.dec.end_ (fun hm1 hm2=>⟨Q10,Q6⟩) ?_ ?_
 rotate_left 2
 have hst:G6 q1.out=q1.out:=H4 (fun hc=>by have h1:=congrArg List.length hc.1;rw[List.length_nil] at h1;have h2:=hc.2;omega)
 try rw[hst] at v1
 have hpo:=Yz v1
 refine dsp (fun h3 p3=>?_) fun h3 p3=>?_
 have hst:G6 q1.out=q1.out:=H4 (fun hc=>by have h1:=congrArg List.length hc.1;rw[List.length_nil] at h1;have h2:=hc.2;omega)
 try rw[hst] at v1
 have hpo:=Yz v1
 refine⟨(Bm (l:=q1.out.queue) (i:=0) Q2),fun x1 hx1=>?_⟩
 refine⟨Q2,Q30,?_⟩
 have hpx:=Z8 (s:=q1.out) hx1
 refine zD (Dp s) (⟨q1.out.reader,q1.out.dec,([]:List Ev)++(List.take ((List.length q1.out.queue)-1) (List.drop 1 q1.out.queue)),q1.out.reads⟩:Strm) (J0 s) x1 (fun hm1 hm2=>⟨hx1,Q2,Q30,Q49,Q10,Q6⟩) ?_ ?_
 rotate_left 2
 have hqe:q1.out.queue=[]:=List.eq_nil_of_length_eq_zero (by omega)
 refine zD (Dp s) q1.out (J0 s) q1.out.dec.end_ (fun hm1 hm2=>⟨Q10,Q6⟩) ?_ ?_
 rotate_left 2
 all_goals first|((exfalso;omega))|((rw[hpl.1];done))|((rw[hpl.2];rfl))|((rw[hpl.1,hpo.1];done))|((rw[hpl.1,hpo.1,Afb];done))|((rw[hpl.1,hpo.1,Vt hqe];done))|((rw[hpl.1,hpo.1,Vt hqe];rfl))|((rw[hpl.2,hpo.2,hpx];done))|((rw[hpl.2,hpo.2,hqe];rfl))|(grind)
def Y0:List (List Ev)→Nat
 |[]=>0
 |x::r=>x.length+Y0 r
theorem Aaa: ∀l:List (List Ev),l.flatten.length=Y0 l
 |[]=>rfl
 |x::r=>by rw[List.flatten_cons,List.length_append,Aaa r,Y0]
theorem Abf: ∀ {l:List (List Ev)} {i:Nat} {x:List Ev},l[i]? =some x→Y0 (l.take (i+1))=Y0 (l.take i)+x.length∧Y0 (l.take (i+1))≤Y0 l
 |[],i,x,h=>by simp at h
 |y::r,0,x,h=>by
  simp at h;subst h
  simp[Y0]
 |y::r,i+1,x,h=>by
  have:=Abf (l:=r) (i:=i) (x:=x) (by simpa using h)
  rw[List.take_succ_cons,List.take_succ_cons,Y0,Y0,Y0]
  omega
theorem Aab {P:Program} {f:FuncId} {t:TypeId}
  (hg: ∀(ad:Option Addr) (n:Nat) (w:World),0<n→n≤1000000000→Calls P f #[.slice ad 0 0,.int .i64 n] w fun e w'=> ∃arr,e= .returned (.slice (some ⟨w.heap.size,0,none⟩) 0 (grownCap w n 0 t))∧w'=w.drew.alloc (.cells arr t)∧grownCap w n 0 t*7≤arr.size)
  (h0: ∀(ad:Option Addr) (w:World),Calls P f #[.slice ad 0 0,.int .i64 (0:Nat)] w fun e w'=>e= .returned (.slice ad 0 0)∧w'=w)
  {n:Int} (h1:0≤n∧n≤1000000000):Contract P f [.c .nil,vI n] [] (.v (vO 0)) [.lst .ev []]:=by
 intro π R w vs ok hv
 cases hv with
 |cons hv1 hv=>
  cases hv with
  |cons hv2 hv=>
   cases hv
   obtain ⟨ad,rfl⟩:=hv1
   have hv2:_=Value.int .i64 n:=hv2
   subst hv2
   obtain ⟨m,rfl⟩: ∃m:Nat,n=m:=⟨n.toNat,by omega⟩
   by_cases hm:m=0
   ·subst hm
    refine(h0 ad w).mono fun e w' hh=>?_
    obtain ⟨rfl,rfl⟩:=hh
    obtain ⟨a,b,c⟩:=Tx ok .ev
    exact⟨_,_,R,rfl,a,b,c ad⟩
   ·refine(hg ad m w (by omega) (by omega)).mono fun e w' hh=>?_
    obtain ⟨arr,rfl,rfl,hsz⟩:=hh
    have hge:=grownCap_ge w m 0 t
    have hgm:grownCap w m 0 t≤maxLen:=grownCap_le_maxLen _ _ _ _ (by unfold maxLen;omega)
    generalize grownCap w m 0 t=cap at hsz hge hgm
    have gr:Grows w (w.drew.alloc (.cells arr t)):=(Grows.refl w).drew.trans (Grows.alloc _ _)
    have hb:(w.drew.alloc (.cells arr t)).heap[w.heap.size]? =some (.cells arr t (0,0)):=heap_alloc_new w.drew _
    refine⟨_,upd π 0 ⟨w.heap.size,cap,Ga⟩,R,rfl,ok.push gr ⟨w.heap.size,cap,Ga⟩ _ (fun b h=>by have h:w.heap.size=b:=h.2;subst h;exact⟨Nat.le_refl _,(Array.getElem?_eq_some_iff.1 hb).1⟩) ⟨Nat.zero_le _,hgm,fun _=>⟨t,arr,(0,0),hb,fun _ _ h=>by omega,hsz,fun i x hi=>by simp at hi⟩⟩,Goes.push gr _ _ fun b h=>Nat.le_of_eq h.2,?_⟩
    show RepC ([]++[.lst .ev []]) (upd π ([]:List Blk).length ⟨w.heap.size,cap,Ga⟩) (w.drew.alloc (.cells arr t)) R (.own ([]:List Blk).length) _
    simp only[RepC,Co,B8]
    exact .inr ⟨by show 0<cap;omega,rfl⟩
def growRen:Go.Shelf.Ren:=⟨fun|4=>217|n=>n,fun|22=>32|25=>50|n=>n,fun|n=>n⟩
theorem Ad5:Go.Proofs.Lays8.n4 Tryz.prog growRen:= {
 mixed:=by kernel_rfl
 f4:=⟨Tryz.f217.name,by kernel_rfl,Tryz.func217.trans (congrArg some (by kernel_rfl))⟩
 t0:=Tryz.underlying0
 a0:=Tryz.isAgg0
 z0:=Tryz.sizeOf0
 v0:=Tryz.zeroValue0
 t3:=Tryz.underlying3
 a3:=Tryz.isAgg3
 z3:=Tryz.sizeOf3
 v3:=Tryz.zeroValue3
 t4:=Tryz.underlying4
 a4:=Tryz.isAgg4
 z4:=Tryz.sizeOf4
 v4:=Tryz.zeroValue4
 t9:=Tryz.underlying9
 a9:=Tryz.isAgg9
 z9:=Tryz.sizeOf9
 v9:=Tryz.zeroValue9
 t20:=Tryz.underlying20
 a20:=Tryz.isAgg20
 z20:=Tryz.sizeOf20
 v20:=Tryz.zeroValue20
 t22:=Tryz.underlying32
 a22:=Tryz.isAgg32
 z22:=Tryz.sizeOf32
 v22:=Tryz.zeroValue32 }
theorem Aoi: ∃i z,Tryz.prog.info? 50=some i∧i.zero=some z∧i.size=7∧z.cells.size=7∧i.bytes≤512:=
 ⟨(Tryz.prog.info? 50).get (by kernel_rfl),((Tryz.prog.info? 50).get (by kernel_rfl)).zero.get (by kernel_rfl),(Option.some_get _).symm,(Option.some_get _).symm,by kernel_rfl,by kernel_rfl,Nat.le_of_ble_eq_true (by kernel_rfl)⟩
theorem Aoj (n:Int) (hp1:0≤n∧n≤1000000000):Fun Tryz.prog 217 [.c (.nil),vI n] [] (.v (vO 0)) [.lst .ev ([]:List Ev)]:=by
 obtain ⟨i,z,hi,hz,h7,hz7,hb⟩:=Aoi
 refine⟨Gp Tryz.func217 Q4 Q4,Aab (t:=50) (fun ad m w hm hm2=>?_) (fun ad w=>Go.Proofs.Any8.slices_Grow_room Ad5 ad 0 0 0 w (Nat.le_refl _) Q2 Q2 Q2) hp1⟩
 refine(Go.Proofs.Any8.slices_Grow_grow Ad5 i z hi hz Q2 ad 0 0 m [] w (Nat.le_refl _) Q2 ?_ Q2 Q80 (fun _=>rfl) (fun a _ j v hj=>by simp at hj)).mono fun e w' hh=>?_
 ·have:(0+m)*i.bytes≤1000000000*512:=Nat.mul_le_mul (by omega) hb
  omega
 ·obtain ⟨rfl,rfl⟩:=hh
  rw[Nat.zero_add]
  refine⟨_,rfl,rfl,?_⟩
  have hge:=grownCap_ge w m 0 50
  simp only[Array.size_append,List.size_toArray,List.length_nil,size_zeroCells,hz7]
  show grownCap w m 0 50*7≤_
  have he:growRen.t 25=50:=rfl
  rw[he]
  omega
structure N0 where
 size:Int
 v:Nat
def N1 (l:List (List Ev)):Fam:=⟨N0,fun q1=>[(0,.v (.c (.seq .evs l))),(3,.v (vI q1.size)),(9,.v (.c (.seq .evs l))),(10,.v (vI ((List.length l:Nat):Int))),(11,.v (vI ((q1.v:Nat):Int)))],fun _=>[],fun q1=>q1.v≤List.length l∧q1.size=((Y0 (List.take q1.v l):Nat):Int),fun q1=>List.length l-q1.v⟩
structure N2 where
 newslice:List Ev
 v:Nat
def N3 (l:List (List Ev)):Fam:=⟨N2,fun q2=>[(6,.v (vO 0)),(25,.v (.c (.seq .evs l))),(26,.v (vI ((List.length l:Nat):Int))),(27,.v (vI ((q2.v:Nat):Int)))],fun q2=>[.lst .ev q2.newslice],fun q2=>q2.v≤List.length l∧q2.newslice++List.flatten (List.drop q2.v l)=List.flatten l,fun q2=>List.length l-q2.v⟩
theorem Vu (l:List (List Ev)) (hp1:List.length l≤1000) (hp2:Y0 l≤100000000):Fun Tryz.prog 195 [.c (.seq .evs l)] [] (.v (vO 0)) [.lst .ev (List.flatten l)]:=by
 have hN:A8=274877906944:=rfl
 refine Aq Tryz.func195 Q4 Q4 (w:=let z4:=((List.length l:Nat):Int);let z5:=N1 l;let z6:List Blk:=[.lst .ev ([]:List Ev)];let z7:=N3 l;(.seg [.at 0,.keep [0,3,9,10,11],.sel []] (.loop z5 fun q1=> .br (.intro (Sx (l[q1.v]?)) fun x1=> .seg [.el .evs x1,.as 18 (.v (vI (q1.size+((List.length x1:Nat):Int)))),.br false,.as 22 (.v (vI (((q1.v:Nat):Int)+1))),.at 0,.keep [0,3,9,10,11],.sel []] (.next)) (.seg [.call [] (.v (vO 0)) z6,.at 0,.keep [6,25,26,27],.sel [0]] (.loop z7 fun q2=> .br (.intro (Sx (l[q2.v]?)) fun x1=> .seg [.el .evs x1,.ty .ev,.as 34 (.v (vI (((q2.v:Nat):Int)+1))),.at 0,.keep [6,25,26,27],.sel [1]] (.next)) (.leaf () [0])))),z5.Has [(0,.v (.c (.seq .evs l))),(3,.v (vI 0)),(9,.v (.c (.seq .evs l))),(10,.v (vI z4)),(11,.v (vI 0))] []∧∀q1,z5.inv q1→(let z3:=((q1.v:Nat):Int);Bc (decide (z3<z4)) (El (l[q1.v]?) fun x1=>(let z1:=((List.length x1:Nat):Int);(l[q1.v]? =some x1)∧((0:Int)≤z3)∧(wI (q1.size+z1))∧((decide (q1.size+z1<0))=false)∧(wI (z3+1))∧z5.Nxt q1 [(0,.v (.c (.seq .evs l))),(3,.v (vI (q1.size+z1))),(9,.v (.c (.seq .evs l))),(10,.v (vI z4)),(11,.v (vI (z3+1)))] [])) ((Fp 217 [.c (.nil),vI q1.size] [] (.v (vO 0)) z6)∧z7.Has [(6,.v (vO 0)),(25,.v (.c (.seq .evs l))),(26,.v (vI z4)),(27,.v (vI 0))] z6∧∀q2,z7.inv q2→(let z2:=((q2.v:Nat):Int);Bc (decide (z2<z4)) (El (l[q2.v]?) fun x1=>((l[q2.v]? =some x1)∧((0:Int)≤z2)∧(List.length q2.newslice+List.length x1≤A8)∧(wI (z2+1))∧z7.Nxt q2 [(6,.v (vO 0)),(25,.v (.c (.seq .evs l))),(26,.v (vI z4)),(27,.v (vI (z2+1)))] [.lst .ev (q2.newslice++x1)])) (Lf (.v (vO 0)) (.v (vO 0)) [.lst .ev q2.newslice] [.lst .ev (List.flatten l)])))))) Q4 ?_
 refine⟨Bj (j:=(⟨0,0⟩:N0)) Q9 rfl (by dsimp only[N1];exact⟨by omega,by simp[Y0]⟩),fun (q1:N0) hq_q1=>?_⟩
 have hi_q1:q1.v≤List.length l∧q1.size=((Y0 (List.take q1.v l):Nat):Int):=hq_q1
 obtain ⟨v1,v2⟩:=hi_q1
 refine dsp (fun h1 p1=>?_) fun h1 p1=>?_
 refine⟨(Bm (l:=l) (i:=q1.v) Q2),fun x1 hx1=>?_⟩
 have hst:=Abf hx1
 exact⟨hx1,Q2,(Ad Q2 Q2),(decide_eq_false Q2),(Ad Q2 Q2),A5 (j:=(⟨q1.size+((List.length x1:Nat):Int),q1.v+1⟩:N0)) Q9 rfl (by dsimp only[N1];exact⟨by omega,by omega⟩) (by dsimp only[N1];omega)⟩
 have htk:List.take q1.v l=l:=List.take_of_length_le (by omega)
 rw[htk] at v2
 refine⟨(Aoj _ Q2),Bj (j:=(⟨([]:List Ev),0⟩:N2)) Q9 rfl (by dsimp only[N3];exact⟨by omega,rfl⟩),fun (q2:N2) hq_q2=>?_⟩
 have hi_q2:q2.v≤List.length l∧q2.newslice++List.flatten (List.drop q2.v l)=List.flatten l:=hq_q2
 obtain ⟨w1,w2⟩:=hi_q2
 have how:=congrArg List.length w2
 rw[List.length_append,Aaa,Aaa] at how
 refine dsp (fun h2 p2=>?_) fun h2 p2=>?_
 refine⟨(Bm (l:=l) (i:=q2.v) Q2),fun x1 hx1=>?_⟩
 rw[Dj hx1,List.flatten_cons,←List.append_assoc] at w2
 have hdl:Y0 (List.drop q2.v l)=x1.length+Y0 (List.drop (q2.v+1) l):=by rw[Dj hx1,Y0]
 exact⟨hx1,Q2,Q2,(Ad Q2 Q2),A5 (j:=(⟨q2.newslice++x1,q2.v+1⟩:N2)) Q9 rfl (by dsimp only[N3];exact⟨by omega,w2⟩) (by dsimp only[N3];omega)⟩
 rw[List.drop_eq_nil_of_le (by omega),List.flatten_nil,List.append_nil] at w2
 refine⟨rfl,(Ab (congrArg (Blk.lst .ev) ?_) rfl)⟩
 rotate_left
 all_goals first|(exact w2)|((rw[←w2];done))
theorem Ajx {a b c:List Ev} :List.flatten [a,b,c]=a++b++c:=by simp
theorem Apr {a b c:List Ev} :Y0 [a,b,c]=a.length+b.length+c.length:=by simp[Y0];omega
theorem Aok (s:Strm) (hp1:List.length (s).dec.plan.shapes≤1048576) (hp2: ∀e∈(s).dec.plan.shapes,List.length e.fields≤1048576) (hp3:List.length (s).dec.stack≤1048576) (hp4:(0:Int)≤(s).dec.scan.bits∧(s).dec.scan.bits≤18446744073709551615) (hp5:List.length (s).reader.script≤1048576) (hp6:List.length (s).reader.data≤1048576) (hp7:List.length (s).queue≤1048576):Fun Tryz.prog 144 [vP 0] [.cells (C2 1 2 3 s),.lst .rd s.reader.script,.tree s.dec.plan.shapes,.lst .lev s.dec.stack] (.tup []) [.cells (C2 4 5 6 (Cw s)),.dead,.dead,.dead,.lst .rd (Cw s).reader.script,.tree (Cw s).dec.plan.shapes,.lst .lev (Cw s).dec.stack]:=by
 have hN:A8=274877906944:=rfl
 have htl:=W9 (r:=s.reader) (room:=16)
 have hcl:=W0 s.dec (A2 s.reader 16)
 have hcb:=hcl.2.2.2 hp4
 have hcs:List.length (Bk s.dec (A2 s.reader 16)).d.plan.shapes=List.length s.dec.plan.shapes:=by rw[hcl.1]
 have hcf: ∀e∈(Bk s.dec (A2 s.reader 16)).d.plan.shapes,List.length e.fields≤1048576:=by rw[hcl.1];exact hp2
 have hfl:=Zz (Bk s.dec (A2 s.reader 16)).d
 have hbl:=Z5 (Bk s.dec (A2 s.reader 16)).d (B0 s.reader 16)
 refine Aq Tryz.func144 Q4 Q4 (w:=let zi:Int→C:= .int .i64;let z4:List Blk:=[.cells (C2 4 5 6 (Cw s)),.dead,.dead,.dead,.lst .rd (Cw s).reader.script,.tree (Cw s).dec.plan.shapes,.lst .lev (Cw s).dec.stack];let z5:=A7 s.reader 16;let z6:=fr (.one 8 (fr (.one 12 (.first 13 (.first 14 (.one 15 (.first 16 (.first 17 (.one 18 (.done)))))))) 9 3)) 0 8;let z13:=IntKind.i64.wrap (s.reads+1);let z14:S:= .v (vO 0);let z15:=B0 s.reader 16;let z16:=A2 s.reader 16;let z2:=Bk s.dec z16;let z3:=Jx z2.d z15;let z7:=G5 z2.d;let z8:=List.flatten [s.queue,z2.out,([]:List Ev)];let z1:List C:=[.str z5.data,zi z5.at_,.own 4,zi z5.next,zi z5.code,.own 5,zi z2.d.plan.root,zi z2.d.plan.deep,zi z2.d.plan.most,zi z2.d.mode,.own 6,.int .u64 z2.d.scan.bits,zi z2.d.scan.have_,zi z2.d.start,zi z2.d.at_,zi z2.d.field.number,zi z2.d.field.kind,.bool z2.d.field.rep,.bool z2.d.field.packed,zi z2.d.field.msg,zi z2.d.wire,zi z2.d.want,zi z2.d.utf.want,zi z2.d.utf.low,zi z2.d.utf.high,zi z2.d.end_.kind,zi z2.d.end_.field,.int .u64 z2.d.end_.bits,zi z2.d.end_.len,.str z2.d.end_.text,zi z2.d.end_.code,zi z2.d.end_.at_,.seq .ev z8,zi z13];let z9:List Blk:=[.cells z1,.dead,.dead,.dead,.lst .rd z5.script,.tree z2.d.plan.shapes,.lst .lev z2.d.stack];let z10:S:= .tup [.agg (Fd 0 z5),vT z16,vI z15];let z11:=List.flatten [s.queue,z2.out,z7.out];let z12:=List.flatten [s.queue,z2.out,z3.out];let z17:S:= .tup [.agg (Ae 0 1 z2.d),vO 2];let z18:S:= .tup [.agg (Ae 0 1 z7.d),vO 2];let z19:S:= .tup [.agg (Ae 0 1 z3.d),vO 2];(.seg [.call [] z10 [.lst .rd z5.script],.call [] z17 (Ls z2.d z2.out)] (.br (.br (.seg [.call [] z18 (Ls z7.d z7.out),.tree z6 18 [0],.at 0,.keep [0,6,7],.sel [0,1,2,3,4,10,11,8,12],.at 10,.pubS 6,.pubS 7,.ty .evs,.pubS 69,.call [] z14 [.lst .ev z11],.at 0,.pub 0 32,.kill 1,.kill 2,.kill 3] (.leaf () [0,1,2,3,4,5,6])) (.br (.seg [.call [] z19 (Ls z3.d z3.out),.tree z6 18 [0],.at 0,.keep [0,6,7],.sel [0,1,2,3,4,10,11,8,12],.at 10,.pubS 6,.pubS 7,.ty .evs,.pubS 69,.call [] z14 [.lst .ev z12],.at 0,.pub 0 32,.kill 1,.kill 2,.kill 3] (.leaf () [0,1,2,3,4,5,6])) (.seg [.tree z6 18 [0],.at 0,.keep [0,6,7],.sel [0,1,2,3,4,6,7,8],.at 10,.pubS 6,.mkS 7 .ev,.pubS 7,.ty .evs,.pubS 69,.call [] z14 [.lst .ev z8],.at 0,.pub 0 32,.kill 1,.kill 2,.kill 3] (.leaf () [0,1,2,3,4,5,6])))) (.seg [.tree z6 18 [0],.at 0,.keep [0,6,7],.sel [0,1,2,3,4,6,7,8],.at 10,.pubS 6,.mkS 7 .ev,.pubS 7,.ty .evs,.pubS 69,.call [] z14 [.lst .ev z8],.at 0,.pub 0 32,.kill 1,.kill 2,.kill 3] (.leaf () [0,1,2,3,4,5,6]))),(Fp 194 [.agg (Zt s.reader),vI 16] [] z10 [.lst .rd z5.script])∧(Fp 20 [.agg (Bs s.dec),vT z16] [] z17 (Ls z2.d z2.out))∧Bc (!decide (z2.d.mode=9)) (Bc (decide (B0 s.reader 16=1)) ((Fp 39 [.agg (Bs z2.d)] [] z18 (Ls z7.d z7.out))∧(Fp 195 [.c (.seq .evs [s.queue,z2.out,z7.out])] [] z14 [.lst .ev z11])∧Lf (.tup []) (.tup []) [.cells [.str z5.data,zi z5.at_,.own 4,zi z5.next,zi z5.code,.own 5,zi z7.d.plan.root,zi z7.d.plan.deep,zi z7.d.plan.most,zi z7.d.mode,.own 6,.int .u64 z7.d.scan.bits,zi z7.d.scan.have_,zi z7.d.start,zi z7.d.at_,zi z7.d.field.number,zi z7.d.field.kind,.bool z7.d.field.rep,.bool z7.d.field.packed,zi z7.d.field.msg,zi z7.d.wire,zi z7.d.want,zi z7.d.utf.want,zi z7.d.utf.low,zi z7.d.utf.high,zi z7.d.end_.kind,zi z7.d.end_.field,.int .u64 z7.d.end_.bits,zi z7.d.end_.len,.str z7.d.end_.text,zi z7.d.end_.code,zi z7.d.end_.at_,.seq .ev z11,zi z13],.dead,.dead,.dead,.lst .rd z5.script,.tree z7.d.plan.shapes,.lst .lev z7.d.stack] z4) (Bc (decide (20≤B0 s.reader 16)) ((Fp 21 [.agg (Bs z2.d),vI z15] [] z19 (Ls z3.d z3.out))∧(Fp 195 [.c (.seq .evs [s.queue,z2.out,z3.out])] [] z14 [.lst .ev z12])∧Lf (.tup []) (.tup []) [.cells [.str z5.data,zi z5.at_,.own 4,zi z5.next,zi z5.code,.own 5,zi z3.d.plan.root,zi z3.d.plan.deep,zi z3.d.plan.most,zi z3.d.mode,.own 6,.int .u64 z3.d.scan.bits,zi z3.d.scan.have_,zi z3.d.start,zi z3.d.at_,zi z3.d.field.number,zi z3.d.field.kind,.bool z3.d.field.rep,.bool z3.d.field.packed,zi z3.d.field.msg,zi z3.d.wire,zi z3.d.want,zi z3.d.utf.want,zi z3.d.utf.low,zi z3.d.utf.high,zi z3.d.end_.kind,zi z3.d.end_.field,.int .u64 z3.d.end_.bits,zi z3.d.end_.len,.str z3.d.end_.text,zi z3.d.end_.code,zi z3.d.end_.at_,.seq .ev z12,zi z13],.dead,.dead,.dead,.lst .rd z5.script,.tree z3.d.plan.shapes,.lst .lev z3.d.stack] z4) ((Fp 195 [.c (.seq .evs [s.queue,z2.out,([]:List Ev)])] [] z14 [.lst .ev z8])∧Lf (.tup []) (.tup []) z9 z4))) ((Fp 195 [.c (.seq .evs [s.queue,z2.out,([]:List Ev)])] [] z14 [.lst .ev z8])∧Lf (.tup []) (.tup []) z9 z4))) Q4 ?_
 refine⟨(Aet s.reader _ Q2 Q2),(Aof s.dec _ Q2 ((by first|(exact hcf)|(exact hp2))) Q2 Q2 Q2),fun h1=>have q1:=An h1;have p1:=of_decide_eq_false q1;?_,fun h1=>have q1:=Am h1;have p1:=of_decide_eq_true q1;?_⟩
 refine dsp (fun h2 p2=>?_) fun h2 p2=>?_
 refine zE (Cw s) (⟨(A7 s.reader 16),(G5 (Bk s.dec (A2 s.reader 16)).d).d,List.flatten [s.queue,(Bk s.dec (A2 s.reader 16)).out,(G5 (Bk s.dec (A2 s.reader 16)).d).out],IntKind.i64.wrap (s.reads+1)⟩:Strm) (fun hm1=>⟨(Ajt (Bk s.dec (A2 s.reader 16)).d Q2 ((by first|(exact hcf)|(exact hp2))) Q2 Q2),(Vu _ Q80 Q76),rfl,Q6⟩) ?_
 rotate_left
 refine dsp (fun h3 p3=>?_) fun h3 p3=>?_
 refine zE (Cw s) (⟨(A7 s.reader 16),(Jx (Bk s.dec (A2 s.reader 16)).d (B0 s.reader 16)).d,List.flatten [s.queue,(Bk s.dec (A2 s.reader 16)).out,(Jx (Bk s.dec (A2 s.reader 16)).d (B0 s.reader 16)).out],IntKind.i64.wrap (s.reads+1)⟩:Strm) (fun hm1=>⟨(Am2 (Bk s.dec (A2 s.reader 16)).d _ Q2 ((by first|(exact hcf)|(exact hp2))) Q2 Q2),(Vu _ Q80 Q76),rfl,Q6⟩) ?_
 rotate_left
 refine zE (Cw s) (⟨(A7 s.reader 16),(Bk s.dec (A2 s.reader 16)).d,List.flatten [s.queue,(Bk s.dec (A2 s.reader 16)).out,([]:List Ev)],IntKind.i64.wrap (s.reads+1)⟩:Strm) (fun hm1=>⟨(Vu _ Q80 Q76),rfl,Q6⟩) ?_
 rotate_left
 refine zE (Cw s) (⟨(A7 s.reader 16),(Bk s.dec (A2 s.reader 16)).d,List.flatten [s.queue,(Bk s.dec (A2 s.reader 16)).out,([]:List Ev)],IntKind.i64.wrap (s.reads+1)⟩:Strm) (fun hm1=>⟨(Vu _ Q80 Q76),rfl,Q6⟩) ?_
 rotate_left
 all_goals first|((rw[Ajx];simp[Cw,W1, *];done))|((simp[Cw,W1,Ajx, *];done))|((simp_all[Cw,W1,Ajx];done))|(grind[Cw,W1,Ajx])
structure Ts where
 s:Strm
def Tt (s:Strm):Fam:=⟨Ts,fun q1=>[(0,.v (vP 0)),(2,.v (vP 7))],fun q1=>[.cells (C2 4 5 6 q1.s),.dead,.dead,.dead,.lst .rd q1.s.reader.script,.tree q1.s.dec.plan.shapes,.lst .lev q1.s.dec.stack,.cells [.int .i64 0,.int .i64 0,.int .u64 0,.int .i64 0,.str [],.int .i64 0,.int .i64 0]],fun q1=>G6 q1.s=G6 s∧Bo (q1.s).reader=true∧Bv (q1.s).dec=true∧List.length (q1.s).queue≤1048576,fun q1=>smu q1.s⟩
theorem Aom (s:Strm) (hp1:Bo (s).reader=true) (hp2:Bv (s).dec=true) (hp3:List.length (s).queue≤1048576):Fun Tryz.prog 72 [vP 0] [.cells (C2 1 2 3 s),.lst .rd s.reader.script,.tree s.dec.plan.shapes,.lst .lev s.dec.stack] (.v (.agg (cEv (Ad3 s)))) [.cells (C2 4 5 6 (Rs s)),.dead,.dead,.dead,.lst .rd (Rs s).reader.script,.tree (Rs s).dec.plan.shapes,.lst .lev (Rs s).dec.stack]:=by
 have hN:A8=274877906944:=rfl
 refine Aq Tryz.func72 Q4 Q4 (w:=let zi:Int→C:= .int .i64;let z3:List C:=[zi 0,zi 0,.int .u64 0,zi 0,.str [],zi 0,zi 0];let z4:List Blk:=[.cells (C2 4 5 6 (Rs s)),.dead,.dead,.dead,.lst .rd (Rs s).reader.script,.tree (Rs s).dec.plan.shapes,.lst .lev (Rs s).dec.stack];let z5:=Tt s;(.seg [.at 0,.cut 0 2,.cut 0 5,.cut 0 10,.keep [0,2],.sel [0,1,2,3,5,6,7,4]] (.loop z5 fun q1=> .br (.br (.seg [.call [0,4,5,6] (.tup []) [.cells (C2 4 5 6 (Cw q1.s)),.dead,.dead,.dead,.lst .rd (Cw q1.s).reader.script,.tree (Cw q1.s).dec.plan.shapes,.lst .lev (Cw q1.s).dec.stack],.at 0,.keep [0,2],.sel [0,1,2,3,8,9,10,7]] (.next)) (.seg [.br true] (.leaf () [0,1,2,3,4,5,6]))) (.intro (Sx (q1.s.queue[0]?)) fun x1=> .seg [.br false,.el .ev x1] (.leaf () [0,1,2,3,4,5,6]))),z5.Has [(0,.v (vP 0)),(2,.v (vP 7))] [.cells (C2 4 5 6 s),.dead,.dead,.dead,.lst .rd s.reader.script,.tree s.dec.plan.shapes,.lst .lev s.dec.stack,.cells z3]∧∀q1,z5.inv q1→(let z1:=((List.length q1.s.queue:Nat):Int);let z2:=Cw q1.s;Bc (decide (z1=0)) (Bc (!decide (q1.s.dec.mode=9)) ((Fp 144 [vP 0] [.cells (C2 1 2 3 q1.s),.lst .rd q1.s.reader.script,.tree q1.s.dec.plan.shapes,.lst .lev q1.s.dec.stack] (.tup []) [.cells (C2 4 5 6 z2),.dead,.dead,.dead,.lst .rd z2.reader.script,.tree z2.dec.plan.shapes,.lst .lev z2.dec.stack])∧z5.Nxt q1 [(0,.v (vP 0)),(2,.v (vP 7))] [.cells (C2 4 5 6 z2),.dead,.dead,.dead,.lst .rd z2.reader.script,.tree z2.dec.plan.shapes,.lst .lev z2.dec.stack,.cells z3]) (((decide (z1=0))=true)∧Lf (.v (.agg (cEv q1.s.dec.end_))) (.v (.agg (cEv (Ad3 s)))) [.cells (C2 4 5 6 q1.s),.dead,.dead,.dead,.lst .rd q1.s.reader.script,.tree q1.s.dec.plan.shapes,.lst .lev q1.s.dec.stack] z4)) (El (q1.s.queue[0]?) fun x1=>(((decide (z1=0))=false)∧(q1.s.queue[0]? =some x1)∧((0:Int)≤0)∧(1≤z1)∧((0:Int)≤1)∧Lf (.v (.agg (cEv x1))) (.v (.agg (cEv (Ad3 s)))) [.cells [.str q1.s.reader.data,zi q1.s.reader.at_,.own 4,zi q1.s.reader.next,zi q1.s.reader.code,.own 5,zi q1.s.dec.plan.root,zi q1.s.dec.plan.deep,zi q1.s.dec.plan.most,zi q1.s.dec.mode,.own 6,.int .u64 q1.s.dec.scan.bits,zi q1.s.dec.scan.have_,zi q1.s.dec.start,zi q1.s.dec.at_,zi q1.s.dec.field.number,zi q1.s.dec.field.kind,.bool q1.s.dec.field.rep,.bool q1.s.dec.field.packed,zi q1.s.dec.field.msg,zi q1.s.dec.wire,zi q1.s.dec.want,zi q1.s.dec.utf.want,zi q1.s.dec.utf.low,zi q1.s.dec.utf.high,zi q1.s.dec.end_.kind,zi q1.s.dec.end_.field,.int .u64 q1.s.dec.end_.bits,zi q1.s.dec.end_.len,.str q1.s.dec.end_.text,zi q1.s.dec.end_.code,zi q1.s.dec.end_.at_,.seq .ev (List.drop 1 q1.s.queue),zi q1.s.reads],.dead,.dead,.dead,.lst .rd q1.s.reader.script,.tree q1.s.dec.plan.shapes,.lst .lev q1.s.dec.stack] z4))))) Q4 ?_
 refine⟨Bj (j:=(⟨s⟩:Ts)) rfl rfl (by dsimp only[Tt];exact⟨rfl,hp1,hp2,hp3⟩),fun (q1:Ts) hq_q1=>?_⟩
 have hi_q1:G6 q1.s=G6 s∧Bo (q1.s).reader=true∧Bv (q1.s).dec=true∧List.length (q1.s).queue≤1048576:=hq_q1
 obtain ⟨v1,v2,v3,v4⟩:=hi_q1
 have hlm:=Nz v2 v3
 refine dsp (fun h1 p1=>?_) fun h1 p1=>?_
 have hqe:q1.s.queue=[]:=List.eq_nil_of_length_eq_zero (by omega)
 refine⟨fun h2=>have q2:=An h2;have p2:=of_decide_eq_false q2;?_,fun h2=>have q2:=Am h2;have p2:=of_decide_eq_true q2;?_⟩
 have h9:q1.s.dec.mode≠9:=by omega
 exact⟨(Aok q1.s Q2 (hlm.2.1) Q2 Q2 Q2 Q2 Q2),A5 (j:=(⟨(Cw q1.s)⟩:Ts)) rfl rfl (by dsimp only[Tt];exact⟨(Ys v2 v3 ⟨hqe,h9⟩).symm.trans v1,Fu v2,K9 v3,by have:=(Ud q1.s).2.2.2.1;omega⟩) (by dsimp only[Tt];exact Ad4 v2 v3 h9)⟩
 have hst:G6 q1.s=q1.s:=H4 (fun hc=>by have h1:=congrArg List.length hc.1;rw[List.length_nil] at h1;have h2:=hc.2;omega)
 rw[hst] at v1
 have hpo:=Yz v1
 refine zD (Ad3 s) q1.s.dec.end_ (Rs s) q1.s (fun hm1 hm2=>⟨h1,Q6,(by rw[hm2]<;>rfl)⟩) ?_ ?_
 rotate_left 2
 have hst:G6 q1.s=q1.s:=H4 (fun hc=>by have h1:=congrArg List.length hc.1;rw[List.length_nil] at h1;have h2:=hc.2;omega)
 try rw[hst] at v1
 have hpo:=Yz v1
 refine⟨(Bm (l:=q1.s.queue) (i:=0) Q2),fun x1 hx1=>?_⟩
 refine⟨h1,?_⟩
 have hpx:=Z8 (s:=q1.s) hx1
 refine zD (Ad3 s) x1 (Rs s) (⟨q1.s.reader,q1.s.dec,List.drop 1 q1.s.queue,q1.s.reads⟩:Strm) (fun hm1 hm2=>⟨hx1,Q30,Q2,Q30,Q6,(by rw[hm2]<;>rfl)⟩) ?_ ?_
 rotate_left 2
 all_goals first|((exfalso;omega))|((rw[hpo.1];done))|((rw[hpo.2,hpx];done))|((rw[hpo.2,hqe];rfl))|((rw[hpo.1,Vt hqe];done))|((rw[hpo.1,Vt hqe];rfl))|(grind)
theorem Xb (l:List Ev) (hp1:List.length l≤A8):Fun Tryz.prog 71 [.c (.seq .ev l)] [] (.v (vO 0)) [.lst .ev l]:=by
 refine⟨Gp Tryz.func71 Q4 Q4,?_⟩
 have key:Sm Tryz.prog 8 0 (Aay Tryz.f71 1) [(2,.v (.c .nil)),(0,.v (.c (.seq .ev l)))] [] .ret [(2,.v (.c (.own 0)))] [.lst .ev l]:=by
  refine Sm.nilTest' (s:=0) (t3:=3) (t4:=4) (t:= .ev) (l:=l) rfl rfl rfl rfl rfl rfl rfl Tryz.underlying32 Q4 rfl rfl rfl fun p hp=>?_
  cases p with
  |true=>
   have hl:=hp rfl
   subst hl
   exact .inr ⟨by decide,Dt (ds:=[.br true,.at 0,.mkS 2 .ev,.keep [2],.sel [0]]) (ob:=[true=true]) Q4 ⟨rfl,trivial⟩⟩
  |false=>
   exact .inl ⟨[(0,.v (.c (.seq .ev l)))],[],Dt (ds:=[.br false,.at 0,.keep [0],.sel []]) (ob:=[false=false]) Q4 ⟨rfl,trivial⟩,
    (Dt (tm':=[(2,.v (.c (.own 0)))]) (H':=[.lst .ev ([]++l)]) (ds:=[.ty .ev,.ty .ev,.at 0,.keep [2],.sel [1]]) (ob:=[List.length ([]:List Ev)+List.length l≤A8]) (by kernel_rfl) ⟨by simpa using hp1,trivial⟩).to (by rfl) (by rfl)⟩
 exact Qw Tryz.func71 (res:= .v (.c (.own 0))) (L':=[.lst .ev l]) (ds:=[.jump 1 .ret [(2,.v (.c (.own 0)))] [.lst .ev l]]) (σ:=[0]) (ob:=[Sm Tryz.prog 8 0 (Aay Tryz.f71 1) [(2,.v (.c .nil)),(0,.v (.c (.seq .ev l)))] [] .ret [(2,.v (.c (.own 0)))] [.lst .ev l]]) Q4 ⟨key,trivial⟩
theorem Ak1 (s:Strm) (hp1:List.length (s).dec.plan.shapes≤1048576) (hp2: ∀e∈(s).dec.plan.shapes,List.length e.fields≤1048576) (hp3:List.length (s).dec.stack≤1048576) (hp4:List.length (s).reader.script≤1048576) (hp5:List.length (s).queue≤1048576) (hp6:List.length (s).reader.data≤A8):Fun Tryz.prog 27 [.agg (Sf s)] [] (.tup [.agg (Ar 0 1 2 3 (Dp s)),.agg (cEv (J0 s))]) [.lst .rd (Dp s).reader.script,.tree (Dp s).dec.plan.shapes,.lst .lev (Dp s).dec.stack,.lst .ev (Dp s).queue]:=by
 have hN:A8=274877906944:=rfl
 refine Aq Tryz.func27 Q4 Q4 (w:=let zi:Int→C:= .int .i64;let z1:List C:=[.str [],zi 0,.nil,zi 0,zi 0,.nil,zi 0,zi 0,zi 0,zi 0,.nil,.int .u64 0,zi 0,zi 0,zi 0,zi 0,zi 0,.bool false,.bool false,zi 0,zi 0,zi 0,zi 0,zi 0,zi 0,zi 0,zi 0,.int .u64 0,zi 0,.str [],zi 0,zi 0,.nil,zi 0];let z2:List C:=[zi 0,zi 0,.int .u64 0,zi 0,.str [],zi 0,zi 0];let z3:List Blk:=[.cells (Sf s),.cells z1,.cells z2,.cells (Ar 4 5 6 7 s),.lst .rd s.reader.script,.tree s.dec.plan.shapes,.lst .lev s.dec.stack,.lst .ev s.queue];let z4:=([(1,.v (vP 0)),(2,.v (vP 1)),(3,.v (vP 2)),(4,.v (vP 3))]:List (Nat×S))=[(1,.v (vP 0)),(2,.v (vP 1)),(3,.v (vP 2)),(4,.v (vP 3))];let z5:List Blk:=[.cells (C2 4 5 6 (Rs s)),.dead,.dead,.dead,.lst .rd (Rs s).reader.script,.tree (Rs s).dec.plan.shapes,.lst .lev (Rs s).dec.stack];let z6:S:= .v (.agg (Ae 0 1 s.dec));let z7:List Blk:=[.lst .rd (Dp s).reader.script,.tree (Dp s).dec.plan.shapes,.lst .lev (Dp s).dec.stack,.lst .ev (Dp s).queue];let z8:List Blk:=[.lst .ev s.queue];let z9:S:= .v (.agg (Fd 0 s.reader));let z10:S:= .v (vO 0);let z11:S:= .tup [.agg (Ar 0 1 2 3 (Dp s)),.agg (cEv (J0 s))];let z12:List Blk:=[.lst .rd s.reader.script];let z13:=(z3:List Blk)=z3;let z14:=L2 s.dec;(.seg [.tree (.first 0 (.first 1 (.first 3 (.first 4 (.first 6 (.first 7 (.first 9 (.first 10 (.two 2 (.two 5 (.two 8 (.first 11 (.one 12 (.one 13 (.done)))) 12 (.one 8 (.first 11 (.one 13 (.done))))) 12 (.one 5 (.one 8 (.first 11 (.one 13 (.done)))))) 12 (.one 2 (.one 5 (.one 8 (.first 11 (.one 13 (.done))))))))))))))) 13 [],.call [] z9 z12,.call [] z6 z14,.call [] z10 z8,.at 0,.keep [1,2,3,4],.sel [0,1,2,7,3,4,5,6],.call [] z10 z8,.at 0,.keep [1,2,3,4],.sel [0,1,2,6,3,4,5,7],.call [] z6 z14,.call [] z10 z8,.at 0,.keep [1,2,3,4],.sel [0,1,2,4,3,5,6,7],.call [] z9 z12,.call [] z6 z14,.call [] z10 z8,.at 0,.keep [1,2,3,4],.sel [0,1,2,3,4,5,6,7],.call [] (.v (vB (Dn s))) []] (.br (.leaf () [4,5,6,7]) (.seg [.at 5,.pub 3 32,.call [3,4,5,6] (.v (.agg (cEv (Ad3 s)))) z5,.call [] z10 [.lst .ev (Rs s).queue],.ord (os 4 [2,3]) [1]] (.leaf () [8,9,10,12]))),(Fp 70 [.agg (Zt s.reader)] [] z9 z12)∧(Fp 50 [.agg (Bs s.dec)] [] z6 z14)∧(Fp 71 [.c (.seq .ev s.queue)] [] z10 z8)∧(Fp 71 [.c (.seq .ev s.queue)] [] z10 z8)∧z13∧z4∧(Fp 50 [.agg (Bs s.dec)] [] z6 z14)∧(Fp 71 [.c (.seq .ev s.queue)] [] z10 z8)∧z13∧z4∧(Fp 70 [.agg (Zt s.reader)] [] z9 z12)∧(Fp 50 [.agg (Bs s.dec)] [] z6 z14)∧(Fp 71 [.c (.seq .ev s.queue)] [] z10 z8)∧z13∧z4∧(Fp 30 [.agg (Sf s)] [] (.v (vB (Dn s))) [])∧Bc (!(Dn s)) (Lf (.tup [.agg (Ar 0 1 2 3 s),.agg z2]) z11 [.lst .rd s.reader.script,.tree s.dec.plan.shapes,.lst .lev s.dec.stack,.lst .ev s.queue] z7) ((Fp 72 [vP 0] [.cells (C2 1 2 3 s),.lst .rd s.reader.script,.tree s.dec.plan.shapes,.lst .lev s.dec.stack] (.v (.agg (cEv (Ad3 s)))) z5)∧(Fp 71 [.c (.seq .ev (Rs s).queue)] [] z10 [.lst .ev (Rs s).queue])∧Lf (.tup [.agg (Ar 0 1 2 3 (Rs s)),.agg (cEv (Ad3 s))]) z11 [.lst .rd (Rs s).reader.script,.tree (Rs s).dec.plan.shapes,.lst .lev (Rs s).dec.stack,.lst .ev (Rs s).queue] z7))) Q4 ?_
 refine⟨(Wv s.reader Q2),(Mt s.dec Q2 ((by first|(exact hsl.2.1)|(exact hp2))) Q2),(Xb s.queue Q2),(Xb s.queue Q2),rfl,rfl,(Mt s.dec Q2 ((by first|(exact hsl.2.1)|(exact hp2))) Q2),(Xb s.queue Q2),rfl,rfl,(Wv s.reader Q2),(Mt s.dec Q2 ((by first|(exact hsl.2.1)|(exact hp2))) Q2),(Xb s.queue Q2),rfl,rfl,(Ny s Q2 Q2 Q2 Q2),fun h1=>have q1:=An h1;?_,fun h1=>have q1:=Am h1;?_⟩
 have hpl:=Z9 (by simpa using q1)
 refine zD (Dp s) s (J0 s) (⟨0,0,0,0,[],0,0⟩:Ev) (fun hm1 hm2=>⟨Q10,Q6⟩) ?_ ?_
 rotate_left 2
 have hpl:=Vs q1
 have hso:=Tn q1
 have hsl:=Nz hso.1 hso.2.1
 have hk:=Z7 hso.1 hso.2.1
 have hkq:=hk.qu
 refine zD (Dp s) (Rs s) (J0 s) (Ad3 s) (fun hm1 hm2=>⟨(Aom s ((by first|(exact hso.1))) ((by first|(exact hso.2.1))) Q2),(Xb (Rs s).queue Q2),Q10,Q6⟩) ?_ ?_
 rotate_left 2
 all_goals first|((rw[hpl.1];done))|((rw[hpl.2];done))|((rw[hpl.2];rfl))|(grind)
end Go.Proofs.YtphecbmdhbphgaaGreat.Ax
