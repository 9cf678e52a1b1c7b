/- A byte: the reference. Models: the grammar. The grammar: numbers, Qk, texts. The grammar: texts. The grammar: values with a length. The grammar: messages. Models: Aev inputs. Whole inputs: what is said of them. What is too long to draw from. Readings of own, comparisons. Decoders that are the same. Draws of numbers, bytes, scripts. Drawn descriptions: checks. -/
import Derived.Test.YtcmnedgnppnhoaaGreatKFnStopped5
import Derived.Test.YtcmnedgnppnhoaaGreatKFnStopped1
import Derived.Test.YtcmnedgnppnhoaaGreatKFnStopped2
import Derived.Test.YtcmnedgnppnhoaaGreatKFnStopped4
set_option linter.unusedSimpArgs false
set_option linter.unusedVariables false
namespace Go.Proofs.YtcmnedgnppnhoaaGreat.Ax
open Go.RowKit
set_option maxHeartbeats 3200000 in
theorem Xb (d:Dcd) (b:Int) (hp1:List.length (d).plan.shapes≤1048576) (hp2: ∀e∈(d).plan.shapes,List.length e.fields≤1048576) (hp3:List.length (d).stack≤1048576) (hp4:(0:Int)≤(d).scan.bits∧(d).scan.bits≤18446744073709551615):Fun Tryz.prog 18 [.agg (Bt d),vI b] [] (.tup [.agg (Ad 0 1 (B3 d b).d),vO 2]) [.tree (B3 d b).d.plan.shapes,.lst .lev (B3 d b).d.stack,.lst .ev (B3 d b).out]:=by
 have hN:Bg=274877906944:=rfl
 refine Ar Tryz.func18 Q4 Q4 (w:=let zi:Int→C:= .int .i64;let z15:List C:=[zi 4,zi 0,.int .u64 0,zi 0,.str (List.map Bc [b]),zi 0,zi 0];let z16:List C:=[zi d.end_.kind,zi d.end_.field,.int .u64 d.end_.bits,zi d.end_.len,.str d.end_.text,zi d.end_.code,zi d.end_.at_];let z17:=(⟨d.plan,d.mode,d.stack,d.scan,d.start,d.at_+1,d.field,d.wire,d.want-1,d.utf,d.end_⟩:Dcd);let z18:=(⟨d.plan,d.mode,d.stack,d.scan,d.start,d.at_+1,d.field,d.wire,d.want,d.utf,d.end_⟩:Dcd);let z20:=((List.length d.stack:Nat):Int);let z21:=B3 d b;let z22:=Ac ⟨z17,[]⟩;let z23:=(⟨4,0,0,0,List.map Bc [b],0,0⟩:Ev);let z24:=Ad 0 1 z21.d;let z27:=decide (d.mode=7);let z28:=Bo ⟨z17,[]⟩ b d.at_;let z29:=Bo ⟨z18,[]⟩ b d.at_;let z30:=([.tree d.plan.shapes,.lst .lev d.stack,.lst .ev ([]:List Ev)]:List Blk);let z31:List Blk:=[.dead,.dead,.tree z22.d.plan.shapes,.lst .lev z22.d.stack,.lst .ev z22.out];let z32:=(.v (.c (.int .u8 (IntKind.u8.wrap (b)))):S)= .v (.c (.int .u8 b));let z33:=(.v (vI (IntKind.i64.wrap (z20-1))):S)= .v (vI (z20-1));let z34:=vI (Bp d);let z35:=C9 ⟨z17,[]⟩ b;let z36:=C9 ⟨z18,[]⟩ b;let z37:=decide (d.mode=6);let z38:=decide (0<Bp d);let z39:=A1 z17 5 d.at_;let z40:=Bj d.utf b;let z26:=z40.getD d.utf;let z19:=Ac ⟨(⟨d.plan,d.mode,d.stack,d.scan,d.start,d.at_+1,d.field,d.wire,d.want-1,z26,d.end_⟩:Dcd),[]⟩;let z41:=Int.toNat (z20-1);let z42:=(.tup [.agg (Ad 0 1 d),vO 2]:S);let z43:=vI (d.want-1);let z25:=(.v (vI (IntKind.i64.wrap (d.want-1))):S)= .v z43;let z44:=Ad 2 3 z22.d;let z45:=(.tup [.agg (Ad 0 1 z22.d),vO 2]:S);let z46:List Blk:=[.dead,.dead,.tree z19.d.plan.shapes,.lst .lev z19.d.stack,.lst .ev (z23::z19.out)];let z47:List Blk:=[.dead,.dead,.tree z22.d.plan.shapes,.lst .lev z22.d.stack,.lst .ev (z23::z22.out)];let z48:=([.tree z22.d.plan.shapes,.lst .lev z22.d.stack,.lst .ev z22.out]:List Blk);let z49:List Blk:=[.dead,.dead,.tree z39.plan.shapes,.lst .lev z39.stack,.lst .ev [A3 5 d.at_]];let z50:=decide (d.field.kind=6);let z51:List Blk:=[.dead,.dead,.tree z35.d.plan.shapes,.lst .lev z35.d.stack,.lst .ev z35.out];let z52:List Blk:=[.dead,.dead,.tree z28.d.plan.shapes,.lst .lev z28.d.stack,.lst .ev z28.out];let z53:List Blk:=[.dead,.dead,.tree z36.d.plan.shapes,.lst .lev z36.d.stack,.lst .ev z36.out];let z54:List Blk:=[.dead,.dead,.tree z29.d.plan.shapes,.lst .lev z29.d.stack,.lst .ev z29.out];let z55:=(0:Int)≤z20-1;let z56:=decide (d.mode=8);let z57:=d.at_+1;let z12:List C:= .own 0::zi d.plan.root::zi d.plan.deep::zi d.plan.most::zi d.mode:: .own 1:: .int .u64 d.scan.bits::zi d.scan.have_::zi d.start::zi z57::zi d.field.number::zi d.field.kind:: .bool d.field.rep:: .bool d.field.packed::zi d.field.msg::zi d.wire::zi (d.want-1)::zi d.utf.want::zi d.utf.low::zi d.utf.high::z16;let z13:List C:= .own 0::zi d.plan.root::zi d.plan.deep::zi d.plan.most::zi d.mode:: .own 1:: .int .u64 d.scan.bits::zi d.scan.have_::zi d.start::zi z57::zi d.field.number::zi d.field.kind:: .bool d.field.rep:: .bool d.field.packed::zi d.field.msg::zi d.wire::zi d.want::zi d.utf.want::zi d.utf.low::zi d.utf.high::z16;let z14:List C:= .own 0::zi d.plan.root::zi d.plan.deep::zi d.plan.most::zi d.mode:: .own 1:: .int .u64 d.scan.bits::zi d.scan.have_::zi d.start::zi z57::zi d.field.number::zi d.field.kind:: .bool d.field.rep:: .bool d.field.packed::zi d.field.msg::zi d.wire::zi (d.want-1)::zi z26.want::zi z26.low::zi z26.high::z16;let z58:=Am b 0 255;let z59:=z20-1<z20;let z60:= !z40.isSome;let z61:=z27=false;let z62:=z37=false;(.seg [.call [] (.v (.agg (Ad 0 1 d))) [.tree d.plan.shapes,.lst .lev d.stack],.call [] (.v (vB (Cj d))) []] (.br (.seg [.ty .ev] (.leaf () [2,3,5])) (.br (.seg [.ty .ev] (.leaf () [2,3,5])) (.seg [.call [] (.v (vB z58)) []] (.br (.seg [.ty .ev] (.leaf () [2,3,5])) (.br (.seg [.ty .ev] (.leaf () [2,3,5])) (.seg [.as 35 (.v (vI z57))] (.br (.intro (fun (x1:Lev)=>d.stack[Int.toNat (z20-1)]? =some x1) fun x1=>let z4:=(⟨x1.msg,x1.left-1⟩:Lev);let z1:=(⟨d.plan,d.mode,List.set d.stack z41 z4,d.scan,d.start,d.at_+1,d.field,d.wire,d.want-1,d.utf,d.end_⟩:Dcd);let z2:=(⟨d.plan,d.mode,List.set d.stack z41 z4,d.scan,d.start,d.at_+1,d.field,d.wire,d.want,d.utf,d.end_⟩:Dcd);let z3:=Ac ⟨(⟨d.plan,d.mode,List.set d.stack z41 z4,d.scan,d.start,d.at_+1,d.field,d.wire,d.want-1,z26,d.end_⟩:Dcd),[]⟩;.seg [.ord (os 15 [14]) [],.as 45 (.v (vI (z20-1))),.as 49 (.v (vI (z20-1))),.el .lev x1,.as 53 (.v (vI (x1.left-1))),.el .lev x1] (.br (.seg [.as 71 (.v z43),.call [] (.v z34) []] (.br (.seg [.call [2,3] (.tup [.agg (Ad 2 3 (Ac ⟨z1,[]⟩).d),vO 4]) [.dead,.dead,.tree (Ac ⟨z1,[]⟩).d.plan.shapes,.lst .lev (Ac ⟨z1,[]⟩).d.stack,.lst .ev (Ac ⟨z1,[]⟩).out]] (.leaf () [5,6,7])) (.seg [.br true] (.br (.seg [.call [] (.tup [.agg (Hg z26),vB z40.isSome]) []] (.br (.seg [.call [2,3] (.tup [.agg (Ad 2 3 (A1 z1 5 d.at_)),vO 4]) [.dead,.dead,.tree (A1 z1 5 d.at_).plan.shapes,.lst .lev (A1 z1 5 d.at_).stack,.lst .ev [A3 5 d.at_]]] (.leaf () [6,7,8])) (.seg [.as 110 (.v (.c (.int .u8 b))),.ty .u8,.call [2,3] (.tup [.agg (Ad 2 3 z3.d),vO 4]) [.dead,.dead,.tree z3.d.plan.shapes,.lst .lev z3.d.stack,.lst .ev (z23::z3.out)]] (.leaf () [7,8,9])))) (.seg [.as 110 (.v (.c (.int .u8 b))),.ty .u8,.call [2,3] (.tup [.agg (Ad 2 3 (Ac ⟨z1,[]⟩).d),vO 4]) [.dead,.dead,.tree (Ac ⟨z1,[]⟩).d.plan.shapes,.lst .lev (Ac ⟨z1,[]⟩).d.stack,.lst .ev (z23::(Ac ⟨z1,[]⟩).out)]] (.leaf () [6,7,8])))))) (.br (.seg [.as 71 (.v z43),.call [] (.v z34) [],.br true,.call [2,3] (.tup [.agg (Ad 2 3 (Ac ⟨z1,[]⟩).d),vO 4]) [.dead,.dead,.tree (Ac ⟨z1,[]⟩).d.plan.shapes,.lst .lev (Ac ⟨z1,[]⟩).d.stack,.lst .ev (Ac ⟨z1,[]⟩).out]] (.leaf () [5,6,7])) (.br (.seg [.as 71 (.v z43),.call [] (.v z34) [],.br false,.br false] (.br (.seg [.call [2,3] (.tup [.agg (Ad 2 3 (C9 ⟨z1,[]⟩ b).d),vO 4]) [.dead,.dead,.tree (C9 ⟨z1,[]⟩ b).d.plan.shapes,.lst .lev (C9 ⟨z1,[]⟩ b).d.stack,.lst .ev (C9 ⟨z1,[]⟩ b).out]] (.leaf () [5,6,7])) (.seg [.call [2,3] (.tup [.agg (Ad 2 3 (Bo ⟨z1,[]⟩ b d.at_).d),vO 4]) [.dead,.dead,.tree (Bo ⟨z1,[]⟩ b d.at_).d.plan.shapes,.lst .lev (Bo ⟨z1,[]⟩ b d.at_).d.stack,.lst .ev (Bo ⟨z1,[]⟩ b d.at_).out]] (.leaf () [5,6,7])))) (.seg [.call [] (.v z34) [],.br false,.br false] (.br (.seg [.call [2,3] (.tup [.agg (Ad 2 3 (C9 ⟨z2,[]⟩ b).d),vO 4]) [.dead,.dead,.tree (C9 ⟨z2,[]⟩ b).d.plan.shapes,.lst .lev (C9 ⟨z2,[]⟩ b).d.stack,.lst .ev (C9 ⟨z2,[]⟩ b).out]] (.leaf () [5,6,7])) (.seg [.call [2,3] (.tup [.agg (Ad 2 3 (Bo ⟨z2,[]⟩ b d.at_).d),vO 4]) [.dead,.dead,.tree (Bo ⟨z2,[]⟩ b d.at_).d.plan.shapes,.lst .lev (Bo ⟨z2,[]⟩ b d.at_).d.stack,.lst .ev (Bo ⟨z2,[]⟩ b d.at_).out]] (.leaf () [5,6,7])))))))) (.br (.seg [.as 71 (.v z43),.call [] (.v z34) []] (.br (.seg [.call [2,3] (.tup [.agg z44,vO 4]) z31] (.leaf () [5,6,7])) (.seg [.br true] (.br (.seg [.call [] (.tup [.agg (Hg z26),vB z40.isSome]) []] (.br (.seg [.call [2,3] (.tup [.agg (Ad 2 3 z39),vO 4]) z49] (.leaf () [6,7,8])) (.seg [.as 110 (.v (.c (.int .u8 b))),.ty .u8,.call [2,3] (.tup [.agg (Ad 2 3 z19.d),vO 4]) z46] (.leaf () [7,8,9])))) (.seg [.as 110 (.v (.c (.int .u8 b))),.ty .u8,.call [2,3] (.tup [.agg z44,vO 4]) z47] (.leaf () [6,7,8])))))) (.br (.seg [.as 71 (.v z43),.call [] (.v z34) [],.br true,.call [2,3] (.tup [.agg z44,vO 4]) z31] (.leaf () [5,6,7])) (.br (.seg [.as 71 (.v z43),.call [] (.v z34) [],.br false,.br false] (.br (.seg [.call [2,3] (.tup [.agg (Ad 2 3 z35.d),vO 4]) z51] (.leaf () [5,6,7])) (.seg [.call [2,3] (.tup [.agg (Ad 2 3 z28.d),vO 4]) z52] (.leaf () [5,6,7])))) (.seg [.call [] (.v z34) [],.br false,.br false] (.br (.seg [.call [2,3] (.tup [.agg (Ad 2 3 z36.d),vO 4]) z53] (.leaf () [5,6,7])) (.seg [.call [2,3] (.tup [.agg (Ad 2 3 z29.d),vO 4]) z54] (.leaf () [5,6,7])))))))))))))),(Fun Tryz.prog 58 [.agg (Bt d)] [] (.v (.agg (Ad 0 1 d))) [.tree d.plan.shapes,.lst .lev d.stack])∧(Fun Tryz.prog 20 [.agg (Bt d)] [] (.v (vB (Cj d))) [])∧((!(Cj d))=true→z42= .tup [.agg z24,vO 2]∧z30=[.tree z21.d.plan.shapes,.lst .lev z21.d.stack,.lst .ev z21.out])∧((!(Cj d))=false→((decide (d.mode=9))=true→z42= .tup [.agg z24,vO 2]∧z30=[.tree z21.d.plan.shapes,.lst .lev z21.d.stack,.lst .ev z21.out])∧((decide (d.mode=9))=false→(Fun Tryz.prog 59 [vI b,vI 0,vI 255] [] (.v (vB z58)) [])∧((!z58)=true→z42= .tup [.agg z24,vO 2]∧z30=[.tree z21.d.plan.shapes,.lst .lev z21.d.stack,.lst .ev z21.out])∧((!z58)=false→((decide (d.at_=1000000000))=true→z42= .tup [.agg z24,vO 2]∧z30=[.tree z21.d.plan.shapes,.lst .lev z21.d.stack,.lst .ev z21.out])∧((decide (d.at_=1000000000))=false→((.v (vI (IntKind.i64.wrap z57)):S)= .v (vI z57))∧((decide (0<z20))=true→(∃(x1:Lev),d.stack[Int.toNat (z20-1)]? =some x1)∧∀(x1:Lev),(d.stack[Int.toNat (z20-1)]? =some x1)→(let z9:=d.stack[Int.toNat (z20-1)]? =some x1;let z10:=(⟨x1.msg,x1.left-1⟩:Lev);let z5:=(⟨d.plan,d.mode,List.set d.stack z41 z10,d.scan,d.start,d.at_+1,d.field,d.wire,d.want-1,d.utf,d.end_⟩:Dcd);let z6:=(⟨d.plan,d.mode,List.set d.stack z41 z10,d.scan,d.start,d.at_+1,d.field,d.wire,d.want,d.utf,d.end_⟩:Dcd);let z7:=Ac ⟨(⟨d.plan,d.mode,List.set d.stack z41 z10,d.scan,d.start,d.at_+1,d.field,d.wire,d.want-1,z26,d.end_⟩:Dcd),[]⟩;let z8:=List.set d.stack z41 z10;let z11:=(.v (vI (IntKind.i64.wrap (x1.left-1))):S)= .v (vI (x1.left-1));z33∧z33∧z33∧z33∧z59∧z55∧z59∧z55∧z9∧z9∧z11∧z11∧z59∧z55∧z59∧z55∧z9∧(z37=true→z25∧(Fun Tryz.prog 60 [.agg (Bt d)] [] (.v z34) [])∧(z27=true→(Fun Tryz.prog 61 [.agg z12] [.tree d.plan.shapes,.lst .lev z8] (.tup [.agg (Ad 2 3 (Ac ⟨z5,[]⟩).d),vO 4]) [.dead,.dead,.tree (Ac ⟨z5,[]⟩).d.plan.shapes,.lst .lev (Ac ⟨z5,[]⟩).d.stack,.lst .ev (Ac ⟨z5,[]⟩).out])∧(.tup [.agg (Ad 0 1 (Ac ⟨z5,[]⟩).d),vO 2]:S)= .tup [.agg z24,vO 2]∧([.tree (Ac ⟨z5,[]⟩).d.plan.shapes,.lst .lev (Ac ⟨z5,[]⟩).d.stack,.lst .ev (Ac ⟨z5,[]⟩).out]:List Blk)=[.tree z21.d.plan.shapes,.lst .lev z21.d.stack,.lst .ev z21.out])∧(z27=false→(z37=true)∧(z50=true→(Fun Tryz.prog 62 [.agg (Hg d.utf),vI b] [] (.tup [.agg (Hg z26),vB z40.isSome]) [])∧(z60=true→(Fun Tryz.prog 63 [.agg z12,vI 5,vI d.at_] [.tree d.plan.shapes,.lst .lev z8] (.tup [.agg (Ad 2 3 (A1 z5 5 d.at_)),vO 4]) [.dead,.dead,.tree (A1 z5 5 d.at_).plan.shapes,.lst .lev (A1 z5 5 d.at_).stack,.lst .ev [A3 5 d.at_]])∧(.tup [.agg (Ad 0 1 (A1 z5 5 d.at_)),vO 2]:S)= .tup [.agg z24,vO 2]∧([.tree (A1 z5 5 d.at_).plan.shapes,.lst .lev (A1 z5 5 d.at_).stack,.lst .ev [A3 5 d.at_]]:List Blk)=[.tree z21.d.plan.shapes,.lst .lev z21.d.stack,.lst .ev z21.out])∧(z60=false→z32∧(Fun Tryz.prog 64 [.agg z14,.agg z15] [.tree d.plan.shapes,.lst .lev z8] (.tup [.agg (Ad 2 3 z7.d),vO 4]) [.dead,.dead,.tree z7.d.plan.shapes,.lst .lev z7.d.stack,.lst .ev (z23::z7.out)])∧(.tup [.agg (Ad 0 1 z7.d),vO 2]:S)= .tup [.agg z24,vO 2]∧([.tree z7.d.plan.shapes,.lst .lev z7.d.stack,.lst .ev (z23::z7.out)]:List Blk)=[.tree z21.d.plan.shapes,.lst .lev z21.d.stack,.lst .ev z21.out]))∧(z50=false→z32∧(Fun Tryz.prog 64 [.agg z12,.agg z15] [.tree d.plan.shapes,.lst .lev z8] (.tup [.agg (Ad 2 3 (Ac ⟨z5,[]⟩).d),vO 4]) [.dead,.dead,.tree (Ac ⟨z5,[]⟩).d.plan.shapes,.lst .lev (Ac ⟨z5,[]⟩).d.stack,.lst .ev (z23::(Ac ⟨z5,[]⟩).out)])∧(.tup [.agg (Ad 0 1 (Ac ⟨z5,[]⟩).d),vO 2]:S)= .tup [.agg z24,vO 2]∧([.tree (Ac ⟨z5,[]⟩).d.plan.shapes,.lst .lev (Ac ⟨z5,[]⟩).d.stack,.lst .ev (z23::(Ac ⟨z5,[]⟩).out)]:List Blk)=[.tree z21.d.plan.shapes,.lst .lev z21.d.stack,.lst .ev z21.out])))∧(z37=false→(z27=true→z25∧(Fun Tryz.prog 60 [.agg (Bt d)] [] (.v z34) [])∧(z27=true)∧(Fun Tryz.prog 61 [.agg z12] [.tree d.plan.shapes,.lst .lev z8] (.tup [.agg (Ad 2 3 (Ac ⟨z5,[]⟩).d),vO 4]) [.dead,.dead,.tree (Ac ⟨z5,[]⟩).d.plan.shapes,.lst .lev (Ac ⟨z5,[]⟩).d.stack,.lst .ev (Ac ⟨z5,[]⟩).out])∧(.tup [.agg (Ad 0 1 (Ac ⟨z5,[]⟩).d),vO 2]:S)= .tup [.agg z24,vO 2]∧([.tree (Ac ⟨z5,[]⟩).d.plan.shapes,.lst .lev (Ac ⟨z5,[]⟩).d.stack,.lst .ev (Ac ⟨z5,[]⟩).out]:List Blk)=[.tree z21.d.plan.shapes,.lst .lev z21.d.stack,.lst .ev z21.out])∧(z27=false→(z56=true→z25∧(Fun Tryz.prog 60 [.agg (Bt d)] [] (.v z34) [])∧z61∧z62∧(z38=true→(Fun Tryz.prog 65 [.agg z12,vI b,vI (Bp d)] [.tree d.plan.shapes,.lst .lev z8] (.tup [.agg (Ad 2 3 (C9 ⟨z5,[]⟩ b).d),vO 4]) [.dead,.dead,.tree (C9 ⟨z5,[]⟩ b).d.plan.shapes,.lst .lev (C9 ⟨z5,[]⟩ b).d.stack,.lst .ev (C9 ⟨z5,[]⟩ b).out])∧(.tup [.agg (Ad 0 1 (C9 ⟨z5,[]⟩ b).d),vO 2]:S)= .tup [.agg z24,vO 2]∧([.tree (C9 ⟨z5,[]⟩ b).d.plan.shapes,.lst .lev (C9 ⟨z5,[]⟩ b).d.stack,.lst .ev (C9 ⟨z5,[]⟩ b).out]:List Blk)=[.tree z21.d.plan.shapes,.lst .lev z21.d.stack,.lst .ev z21.out])∧(z38=false→(Fun Tryz.prog 66 [.agg z12,vI b,vI d.at_] [.tree d.plan.shapes,.lst .lev z8] (.tup [.agg (Ad 2 3 (Bo ⟨z5,[]⟩ b d.at_).d),vO 4]) [.dead,.dead,.tree (Bo ⟨z5,[]⟩ b d.at_).d.plan.shapes,.lst .lev (Bo ⟨z5,[]⟩ b d.at_).d.stack,.lst .ev (Bo ⟨z5,[]⟩ b d.at_).out])∧(.tup [.agg (Ad 0 1 (Bo ⟨z5,[]⟩ b d.at_).d),vO 2]:S)= .tup [.agg z24,vO 2]∧([.tree (Bo ⟨z5,[]⟩ b d.at_).d.plan.shapes,.lst .lev (Bo ⟨z5,[]⟩ b d.at_).d.stack,.lst .ev (Bo ⟨z5,[]⟩ b d.at_).out]:List Blk)=[.tree z21.d.plan.shapes,.lst .lev z21.d.stack,.lst .ev z21.out]))∧(z56=false→(Fun Tryz.prog 60 [.agg (Bt d)] [] (.v z34) [])∧z61∧z62∧(z38=true→(Fun Tryz.prog 65 [.agg z13,vI b,vI (Bp d)] [.tree d.plan.shapes,.lst .lev z8] (.tup [.agg (Ad 2 3 (C9 ⟨z6,[]⟩ b).d),vO 4]) [.dead,.dead,.tree (C9 ⟨z6,[]⟩ b).d.plan.shapes,.lst .lev (C9 ⟨z6,[]⟩ b).d.stack,.lst .ev (C9 ⟨z6,[]⟩ b).out])∧(.tup [.agg (Ad 0 1 (C9 ⟨z6,[]⟩ b).d),vO 2]:S)= .tup [.agg z24,vO 2]∧([.tree (C9 ⟨z6,[]⟩ b).d.plan.shapes,.lst .lev (C9 ⟨z6,[]⟩ b).d.stack,.lst .ev (C9 ⟨z6,[]⟩ b).out]:List Blk)=[.tree z21.d.plan.shapes,.lst .lev z21.d.stack,.lst .ev z21.out])∧(z38=false→(Fun Tryz.prog 66 [.agg z13,vI b,vI d.at_] [.tree d.plan.shapes,.lst .lev z8] (.tup [.agg (Ad 2 3 (Bo ⟨z6,[]⟩ b d.at_).d),vO 4]) [.dead,.dead,.tree (Bo ⟨z6,[]⟩ b d.at_).d.plan.shapes,.lst .lev (Bo ⟨z6,[]⟩ b d.at_).d.stack,.lst .ev (Bo ⟨z6,[]⟩ b d.at_).out])∧(.tup [.agg (Ad 0 1 (Bo ⟨z6,[]⟩ b d.at_).d),vO 2]:S)= .tup [.agg z24,vO 2]∧([.tree (Bo ⟨z6,[]⟩ b d.at_).d.plan.shapes,.lst .lev (Bo ⟨z6,[]⟩ b d.at_).d.stack,.lst .ev (Bo ⟨z6,[]⟩ b d.at_).out]:List Blk)=[.tree z21.d.plan.shapes,.lst .lev z21.d.stack,.lst .ev z21.out]))))))∧((decide (0<z20))=false→(z37=true→z25∧(Fun Tryz.prog 60 [.agg (Bt d)] [] (.v z34) [])∧(z27=true→(Fun Tryz.prog 61 [.agg z12] [.tree d.plan.shapes,.lst .lev d.stack] (.tup [.agg z44,vO 4]) z31)∧z45= .tup [.agg z24,vO 2]∧z48=[.tree z21.d.plan.shapes,.lst .lev z21.d.stack,.lst .ev z21.out])∧(z27=false→(z37=true)∧(z50=true→(Fun Tryz.prog 62 [.agg (Hg d.utf),vI b] [] (.tup [.agg (Hg z26),vB z40.isSome]) [])∧(z60=true→(Fun Tryz.prog 63 [.agg z12,vI 5,vI d.at_] [.tree d.plan.shapes,.lst .lev d.stack] (.tup [.agg (Ad 2 3 z39),vO 4]) z49)∧(.tup [.agg (Ad 0 1 z39),vO 2]:S)= .tup [.agg z24,vO 2]∧([.tree z39.plan.shapes,.lst .lev z39.stack,.lst .ev [A3 5 d.at_]]:List Blk)=[.tree z21.d.plan.shapes,.lst .lev z21.d.stack,.lst .ev z21.out])∧(z60=false→z32∧(Fun Tryz.prog 64 [.agg z14,.agg z15] [.tree d.plan.shapes,.lst .lev d.stack] (.tup [.agg (Ad 2 3 z19.d),vO 4]) z46)∧(.tup [.agg (Ad 0 1 z19.d),vO 2]:S)= .tup [.agg z24,vO 2]∧([.tree z19.d.plan.shapes,.lst .lev z19.d.stack,.lst .ev (z23::z19.out)]:List Blk)=[.tree z21.d.plan.shapes,.lst .lev z21.d.stack,.lst .ev z21.out]))∧(z50=false→z32∧(Fun Tryz.prog 64 [.agg z12,.agg z15] [.tree d.plan.shapes,.lst .lev d.stack] (.tup [.agg z44,vO 4]) z47)∧z45= .tup [.agg z24,vO 2]∧([.tree z22.d.plan.shapes,.lst .lev z22.d.stack,.lst .ev (z23::z22.out)]:List Blk)=[.tree z21.d.plan.shapes,.lst .lev z21.d.stack,.lst .ev z21.out])))∧(z37=false→(z27=true→z25∧(Fun Tryz.prog 60 [.agg (Bt d)] [] (.v z34) [])∧(z27=true)∧(Fun Tryz.prog 61 [.agg z12] [.tree d.plan.shapes,.lst .lev d.stack] (.tup [.agg z44,vO 4]) z31)∧z45= .tup [.agg z24,vO 2]∧z48=[.tree z21.d.plan.shapes,.lst .lev z21.d.stack,.lst .ev z21.out])∧(z27=false→(z56=true→z25∧(Fun Tryz.prog 60 [.agg (Bt d)] [] (.v z34) [])∧z61∧z62∧(z38=true→(Fun Tryz.prog 65 [.agg z12,vI b,vI (Bp d)] [.tree d.plan.shapes,.lst .lev d.stack] (.tup [.agg (Ad 2 3 z35.d),vO 4]) z51)∧(.tup [.agg (Ad 0 1 z35.d),vO 2]:S)= .tup [.agg z24,vO 2]∧([.tree z35.d.plan.shapes,.lst .lev z35.d.stack,.lst .ev z35.out]:List Blk)=[.tree z21.d.plan.shapes,.lst .lev z21.d.stack,.lst .ev z21.out])∧(z38=false→(Fun Tryz.prog 66 [.agg z12,vI b,vI d.at_] [.tree d.plan.shapes,.lst .lev d.stack] (.tup [.agg (Ad 2 3 z28.d),vO 4]) z52)∧(.tup [.agg (Ad 0 1 z28.d),vO 2]:S)= .tup [.agg z24,vO 2]∧([.tree z28.d.plan.shapes,.lst .lev z28.d.stack,.lst .ev z28.out]:List Blk)=[.tree z21.d.plan.shapes,.lst .lev z21.d.stack,.lst .ev z21.out]))∧(z56=false→(Fun Tryz.prog 60 [.agg (Bt d)] [] (.v z34) [])∧z61∧z62∧(z38=true→(Fun Tryz.prog 65 [.agg z13,vI b,vI (Bp d)] [.tree d.plan.shapes,.lst .lev d.stack] (.tup [.agg (Ad 2 3 z36.d),vO 4]) z53)∧(.tup [.agg (Ad 0 1 z36.d),vO 2]:S)= .tup [.agg z24,vO 2]∧([.tree z36.d.plan.shapes,.lst .lev z36.d.stack,.lst .ev z36.out]:List Blk)=[.tree z21.d.plan.shapes,.lst .lev z21.d.stack,.lst .ev z21.out])∧(z38=false→(Fun Tryz.prog 66 [.agg z13,vI b,vI d.at_] [.tree d.plan.shapes,.lst .lev d.stack] (.tup [.agg (Ad 2 3 z29.d),vO 4]) z54)∧(.tup [.agg (Ad 0 1 z29.d),vO 2]:S)= .tup [.agg z24,vO 2]∧([.tree z29.d.plan.shapes,.lst .lev z29.d.stack,.lst .ev z29.out]:List Blk)=[.tree z21.d.plan.shapes,.lst .lev z21.d.stack,.lst .ev z21.out]))))))))))) Q4 ?_
 refine⟨(Nn d Q2 (hp2) Q2),(Aik d Q2 Q2),fun h1=>have q1:=Ap h1;?_,fun h1=>have q1:=Ao h1;?_⟩
 refine have hm1:(B3 d b).d=d:=?_;?_
 rotate_left
 refine have hm2:(B3 d b).out=([]:List Ev):=?_;?_
 rotate_left
 exact⟨Q5,Q9⟩
 have hok:Cj d=true:=q1
 have hmw:=W3 hok hp4
 have hlv:=B0 hmw.lv
 have hpt:=B6 hlv.1
 have htb:=Gk hmw.lv
 have hbb:=hmw.b0
 have hat:=hmw.at_
 have hwt:=hmw.want
 have hwd:=Hw d
 refine dsp (fun h2 p2=>?_) fun h2 p2=>?_
 refine have hm1:(B3 d b).d=d:=?_;?_
 rotate_left
 refine have hm2:(B3 d b).out=([]:List Ev):=?_;?_
 rotate_left
 exact⟨Q5,Q9⟩
 have hst:=W4 hok (by simpa using h2)
 refine⟨(Ba _ _ _),fun h3=>have q3:=Ap h3;have p3:=Az q3;?_,fun h3=>have q3:=Ao h3;have p3:=As q3;?_⟩
 refine have hm1:(B3 d b).d=d:=?_;?_
 rotate_left
 refine have hm2:(B3 d b).out=([]:List Ev):=?_;?_
 rotate_left
 exact⟨Q5,Q9⟩
 have hwi:=As q3
 refine dsp (fun h4 p4=>?_) fun h4 p4=>?_
 refine have hm1:(B3 d b).d=d:=?_;?_
 rotate_left
 refine have hm2:(B3 d b).out=([]:List Ev):=?_;?_
 rotate_left
 exact⟨Q5,Q9⟩
 have hms:=hmw.step hst.1 hst.2.1 hst.2.2.1
 have htk:Eb d=true:=by simp only[Eb,Bool.and_eq_true,Bool.not_eq_true',decide_eq_false_iff_not,decide_eq_true_eq];omega
 have hsb:B3 d b=D9 ⟨d,[]⟩ b:=by unfold B3;rw[if_pos ⟨hok,htk,by assumption⟩]
 refine⟨(Ae Q2 Q2),dsp (fun h5 p5=>?_) fun h5 p5=>?_⟩
 have hne:d.stack≠[]:=fun e=>by have:=congrArg List.length e;simp only[List.length_nil] at this;omega
 refine⟨(Bm (l:=d.stack) (i:=Int.toNat (((List.length d.stack:Nat):Int)-1)) Q2),fun x1 hx1=>?_⟩
 have hll:=Hs (d:=d) (by rw[←hx1];congr 1;omega)
 have hix:Int.toNat ((d.stack.length:Int)-1)=d.stack.length-1:=by omega
 refine⟨(Ae Q2 Q2),(Ae Q2 Q2),(Ae Q2 Q2),(Ae Q2 Q2),Q2,Q2,Q2,Q2,hx1,hx1,(Ae Q2 Q2),(Ae Q2 Q2),Q2,Q2,Q2,Q2,hx1,dsp (fun h6 p6=>?_) fun h6 p6=>?_⟩
 refine⟨(Ae Q2 Q2),(Hv d),dsp (fun h7 p7=>?_) fun h7 p7=>?_⟩
 refine⟨(Gz (⟨d.plan,d.mode,List.set d.stack (Int.toNat (((List.length d.stack:Nat):Int)-1)) (⟨x1.msg,x1.left-1⟩:Lev),d.scan,d.start,d.at_+1,d.field,d.wire,d.want-1,d.utf,d.end_⟩:Dcd) Q15),?_⟩
 refine have hm1:(B3 d b).d=(Ac ⟨(⟨d.plan,d.mode,List.set d.stack (Int.toNat (((List.length d.stack:Nat):Int)-1)) (⟨x1.msg,x1.left-1⟩:Lev),d.scan,d.start,d.at_+1,d.field,d.wire,d.want-1,d.utf,d.end_⟩:Dcd),[]⟩).d:=?_;?_
 rotate_left
 refine have hm2:(B3 d b).out=(Ac ⟨(⟨d.plan,d.mode,List.set d.stack (Int.toNat (((List.length d.stack:Nat):Int)-1)) (⟨x1.msg,x1.left-1⟩:Lev),d.scan,d.start,d.at_+1,d.field,d.wire,d.want-1,d.utf,d.end_⟩:Dcd),[]⟩).out:=?_;?_
 rotate_left
 exact⟨Q5,Q9⟩
 refine⟨h6,dsp (fun h8 p8=>?_) fun h8 p8=>?_⟩
 refine⟨(Rc d.utf _),fun h9=>have q9:=Ap h9;?_,fun h9=>have q9:=Ao h9;?_⟩
 have hu:Bj d.utf b=none:=by simpa using q9
 refine⟨(C1 (⟨d.plan,d.mode,List.set d.stack (Int.toNat (((List.length d.stack:Nat):Int)-1)) (⟨x1.msg,x1.left-1⟩:Lev),d.scan,d.start,d.at_+1,d.field,d.wire,d.want-1,d.utf,d.end_⟩:Dcd) _ _),?_⟩
 refine have hm1:(B3 d b).d=(A1 (⟨d.plan,d.mode,List.set d.stack (Int.toNat (((List.length d.stack:Nat):Int)-1)) (⟨x1.msg,x1.left-1⟩:Lev),d.scan,d.start,d.at_+1,d.field,d.wire,d.want-1,d.utf,d.end_⟩:Dcd) 5 d.at_):=?_;?_
 rotate_left
 refine have hm2:(B3 d b).out=[A3 5 d.at_]:=?_;?_
 rotate_left
 exact⟨Q5,Q9⟩
 obtain ⟨u,hu⟩:=Option.isSome_iff_exists.1 q9
 have hug:(Bj d.utf b).getD d.utf=u:=by rw[hu];rfl
 refine⟨(Kx Q2 Q2),(G0 (⟨d.plan,d.mode,List.set d.stack (Int.toNat (((List.length d.stack:Nat):Int)-1)) (⟨x1.msg,x1.left-1⟩:Lev),d.scan,d.start,d.at_+1,d.field,d.wire,d.want-1,((Bj d.utf b).getD d.utf),d.end_⟩:Dcd) (⟨4,0,0,0,List.map Bc [b],0,0⟩:Ev) Q15),?_⟩
 refine have hm1:(B3 d b).d=(Ac ⟨(⟨d.plan,d.mode,List.set d.stack (Int.toNat (((List.length d.stack:Nat):Int)-1)) (⟨x1.msg,x1.left-1⟩:Lev),d.scan,d.start,d.at_+1,d.field,d.wire,d.want-1,((Bj d.utf b).getD d.utf),d.end_⟩:Dcd),[]⟩).d:=?_;?_
 rotate_left
 refine have hm2:(B3 d b).out=(⟨4,0,0,0,List.map Bc [b],0,0⟩:Ev)::(Ac ⟨(⟨d.plan,d.mode,List.set d.stack (Int.toNat (((List.length d.stack:Nat):Int)-1)) (⟨x1.msg,x1.left-1⟩:Lev),d.scan,d.start,d.at_+1,d.field,d.wire,d.want-1,((Bj d.utf b).getD d.utf),d.end_⟩:Dcd),[]⟩).out:=?_;?_
 rotate_left
 exact⟨Q5,Q9⟩
 refine⟨(Kx Q2 Q2),(G0 (⟨d.plan,d.mode,List.set d.stack (Int.toNat (((List.length d.stack:Nat):Int)-1)) (⟨x1.msg,x1.left-1⟩:Lev),d.scan,d.start,d.at_+1,d.field,d.wire,d.want-1,d.utf,d.end_⟩:Dcd) (⟨4,0,0,0,List.map Bc [b],0,0⟩:Ev) Q15),?_⟩
 refine have hm1:(B3 d b).d=(Ac ⟨(⟨d.plan,d.mode,List.set d.stack (Int.toNat (((List.length d.stack:Nat):Int)-1)) (⟨x1.msg,x1.left-1⟩:Lev),d.scan,d.start,d.at_+1,d.field,d.wire,d.want-1,d.utf,d.end_⟩:Dcd),[]⟩).d:=?_;?_
 rotate_left
 refine have hm2:(B3 d b).out=(⟨4,0,0,0,List.map Bc [b],0,0⟩:Ev)::(Ac ⟨(⟨d.plan,d.mode,List.set d.stack (Int.toNat (((List.length d.stack:Nat):Int)-1)) (⟨x1.msg,x1.left-1⟩:Lev),d.scan,d.start,d.at_+1,d.field,d.wire,d.want-1,d.utf,d.end_⟩:Dcd),[]⟩).out:=?_;?_
 rotate_left
 exact⟨Q5,Q9⟩
 refine dsp (fun h7 p7=>?_) fun h7 p7=>?_
 refine⟨(Ae Q2 Q2),(Hv d),h7,(Gz (⟨d.plan,d.mode,List.set d.stack (Int.toNat (((List.length d.stack:Nat):Int)-1)) (⟨x1.msg,x1.left-1⟩:Lev),d.scan,d.start,d.at_+1,d.field,d.wire,d.want-1,d.utf,d.end_⟩:Dcd) Q15),?_⟩
 refine have hm1:(B3 d b).d=(Ac ⟨(⟨d.plan,d.mode,List.set d.stack (Int.toNat (((List.length d.stack:Nat):Int)-1)) (⟨x1.msg,x1.left-1⟩:Lev),d.scan,d.start,d.at_+1,d.field,d.wire,d.want-1,d.utf,d.end_⟩:Dcd),[]⟩).d:=?_;?_
 rotate_left
 refine have hm2:(B3 d b).out=(Ac ⟨(⟨d.plan,d.mode,List.set d.stack (Int.toNat (((List.length d.stack:Nat):Int)-1)) (⟨x1.msg,x1.left-1⟩:Lev),d.scan,d.start,d.at_+1,d.field,d.wire,d.want-1,d.utf,d.end_⟩:Dcd),[]⟩).out:=?_;?_
 rotate_left
 exact⟨Q5,Q9⟩
 refine dsp (fun h8 p8=>?_) fun h8 p8=>?_
 refine⟨(Ae Q2 Q2),(Hv d),h7,h6,dsp (fun h9 p9=>?_) fun h9 p9=>?_⟩
 refine⟨(Xa (⟨d.plan,d.mode,List.set d.stack (Int.toNat (((List.length d.stack:Nat):Int)-1)) (⟨x1.msg,x1.left-1⟩:Lev),d.scan,d.start,d.at_+1,d.field,d.wire,d.want-1,d.utf,d.end_⟩:Dcd) _ _ (Q38) Q2 Q7 (hst.2.2.2.1)),?_⟩
 refine have hm1:(B3 d b).d=(C9 ⟨(⟨d.plan,d.mode,List.set d.stack (Int.toNat (((List.length d.stack:Nat):Int)-1)) (⟨x1.msg,x1.left-1⟩:Lev),d.scan,d.start,d.at_+1,d.field,d.wire,d.want-1,d.utf,d.end_⟩:Dcd),[]⟩ b).d:=?_;?_
 rotate_left
 refine have hm2:(B3 d b).out=(C9 ⟨(⟨d.plan,d.mode,List.set d.stack (Int.toNat (((List.length d.stack:Nat):Int)-1)) (⟨x1.msg,x1.left-1⟩:Lev),d.scan,d.start,d.at_+1,d.field,d.wire,d.want-1,d.utf,d.end_⟩:Dcd),[]⟩ b).out:=?_;?_
 rotate_left
 exact⟨Q5,Q9⟩
 refine⟨(Ti (⟨d.plan,d.mode,List.set d.stack (Int.toNat (((List.length d.stack:Nat):Int)-1)) (⟨x1.msg,x1.left-1⟩:Lev),d.scan,d.start,d.at_+1,d.field,d.wire,d.want-1,d.utf,d.end_⟩:Dcd) _ _ (Q38) Q2),?_⟩
 refine have hm1:(B3 d b).d=(Bo ⟨(⟨d.plan,d.mode,List.set d.stack (Int.toNat (((List.length d.stack:Nat):Int)-1)) (⟨x1.msg,x1.left-1⟩:Lev),d.scan,d.start,d.at_+1,d.field,d.wire,d.want-1,d.utf,d.end_⟩:Dcd),[]⟩ b d.at_).d:=?_;?_
 rotate_left
 refine have hm2:(B3 d b).out=(Bo ⟨(⟨d.plan,d.mode,List.set d.stack (Int.toNat (((List.length d.stack:Nat):Int)-1)) (⟨x1.msg,x1.left-1⟩:Lev),d.scan,d.start,d.at_+1,d.field,d.wire,d.want-1,d.utf,d.end_⟩:Dcd),[]⟩ b d.at_).out:=?_;?_
 rotate_left
 exact⟨Q5,Q9⟩
 refine⟨(Hv d),h7,h6,dsp (fun h9 p9=>?_) fun h9 p9=>?_⟩
 refine⟨(Xa (⟨d.plan,d.mode,List.set d.stack (Int.toNat (((List.length d.stack:Nat):Int)-1)) (⟨x1.msg,x1.left-1⟩:Lev),d.scan,d.start,d.at_+1,d.field,d.wire,d.want,d.utf,d.end_⟩:Dcd) _ _ (Q39) Q2 Q7 (hst.2.2.2.1)),?_⟩
 refine have hm1:(B3 d b).d=(C9 ⟨(⟨d.plan,d.mode,List.set d.stack (Int.toNat (((List.length d.stack:Nat):Int)-1)) (⟨x1.msg,x1.left-1⟩:Lev),d.scan,d.start,d.at_+1,d.field,d.wire,d.want,d.utf,d.end_⟩:Dcd),[]⟩ b).d:=?_;?_
 rotate_left
 refine have hm2:(B3 d b).out=(C9 ⟨(⟨d.plan,d.mode,List.set d.stack (Int.toNat (((List.length d.stack:Nat):Int)-1)) (⟨x1.msg,x1.left-1⟩:Lev),d.scan,d.start,d.at_+1,d.field,d.wire,d.want,d.utf,d.end_⟩:Dcd),[]⟩ b).out:=?_;?_
 rotate_left
 exact⟨Q5,Q9⟩
 refine⟨(Ti (⟨d.plan,d.mode,List.set d.stack (Int.toNat (((List.length d.stack:Nat):Int)-1)) (⟨x1.msg,x1.left-1⟩:Lev),d.scan,d.start,d.at_+1,d.field,d.wire,d.want,d.utf,d.end_⟩:Dcd) _ _ (Q39) Q2),?_⟩
 refine have hm1:(B3 d b).d=(Bo ⟨(⟨d.plan,d.mode,List.set d.stack (Int.toNat (((List.length d.stack:Nat):Int)-1)) (⟨x1.msg,x1.left-1⟩:Lev),d.scan,d.start,d.at_+1,d.field,d.wire,d.want,d.utf,d.end_⟩:Dcd),[]⟩ b d.at_).d:=?_;?_
 rotate_left
 refine have hm2:(B3 d b).out=(Bo ⟨(⟨d.plan,d.mode,List.set d.stack (Int.toNat (((List.length d.stack:Nat):Int)-1)) (⟨x1.msg,x1.left-1⟩:Lev),d.scan,d.start,d.at_+1,d.field,d.wire,d.want,d.utf,d.end_⟩:Dcd),[]⟩ b d.at_).out:=?_;?_
 rotate_left
 exact⟨Q5,Q9⟩
 have hne:d.stack=[]:=List.eq_nil_of_length_eq_zero (by omega)
 refine dsp (fun h6 p6=>?_) fun h6 p6=>?_
 refine⟨(Ae Q2 Q2),(Hv d),dsp (fun h7 p7=>?_) fun h7 p7=>?_⟩
 refine⟨(Gz (⟨d.plan,d.mode,d.stack,d.scan,d.start,d.at_+1,d.field,d.wire,d.want-1,d.utf,d.end_⟩:Dcd) Q7),?_⟩
 refine have hm1:(B3 d b).d=(Ac ⟨(⟨d.plan,d.mode,d.stack,d.scan,d.start,d.at_+1,d.field,d.wire,d.want-1,d.utf,d.end_⟩:Dcd),[]⟩).d:=?_;?_
 rotate_left
 refine have hm2:(B3 d b).out=(Ac ⟨(⟨d.plan,d.mode,d.stack,d.scan,d.start,d.at_+1,d.field,d.wire,d.want-1,d.utf,d.end_⟩:Dcd),[]⟩).out:=?_;?_
 rotate_left
 exact⟨Q5,Q9⟩
 refine⟨h6,dsp (fun h8 p8=>?_) fun h8 p8=>?_⟩
 refine⟨(Rc d.utf _),fun h9=>have q9:=Ap h9;?_,fun h9=>have q9:=Ao h9;?_⟩
 have hu:Bj d.utf b=none:=by simpa using q9
 refine⟨(C1 (⟨d.plan,d.mode,d.stack,d.scan,d.start,d.at_+1,d.field,d.wire,d.want-1,d.utf,d.end_⟩:Dcd) _ _),?_⟩
 refine have hm1:(B3 d b).d=(A1 (⟨d.plan,d.mode,d.stack,d.scan,d.start,d.at_+1,d.field,d.wire,d.want-1,d.utf,d.end_⟩:Dcd) 5 d.at_):=?_;?_
 rotate_left
 refine have hm2:(B3 d b).out=[A3 5 d.at_]:=?_;?_
 rotate_left
 exact⟨Q5,Q9⟩
 obtain ⟨u,hu⟩:=Option.isSome_iff_exists.1 q9
 have hug:(Bj d.utf b).getD d.utf=u:=by rw[hu];rfl
 refine⟨(Kx Q2 Q2),(G0 (⟨d.plan,d.mode,d.stack,d.scan,d.start,d.at_+1,d.field,d.wire,d.want-1,((Bj d.utf b).getD d.utf),d.end_⟩:Dcd) (⟨4,0,0,0,List.map Bc [b],0,0⟩:Ev) Q7),?_⟩
 refine have hm1:(B3 d b).d=(Ac ⟨(⟨d.plan,d.mode,d.stack,d.scan,d.start,d.at_+1,d.field,d.wire,d.want-1,((Bj d.utf b).getD d.utf),d.end_⟩:Dcd),[]⟩).d:=?_;?_
 rotate_left
 refine have hm2:(B3 d b).out=(⟨4,0,0,0,List.map Bc [b],0,0⟩:Ev)::(Ac ⟨(⟨d.plan,d.mode,d.stack,d.scan,d.start,d.at_+1,d.field,d.wire,d.want-1,((Bj d.utf b).getD d.utf),d.end_⟩:Dcd),[]⟩).out:=?_;?_
 rotate_left
 exact⟨Q5,Q9⟩
 refine⟨(Kx Q2 Q2),(G0 (⟨d.plan,d.mode,d.stack,d.scan,d.start,d.at_+1,d.field,d.wire,d.want-1,d.utf,d.end_⟩:Dcd) (⟨4,0,0,0,List.map Bc [b],0,0⟩:Ev) Q7),?_⟩
 refine have hm1:(B3 d b).d=(Ac ⟨(⟨d.plan,d.mode,d.stack,d.scan,d.start,d.at_+1,d.field,d.wire,d.want-1,d.utf,d.end_⟩:Dcd),[]⟩).d:=?_;?_
 rotate_left
 refine have hm2:(B3 d b).out=(⟨4,0,0,0,List.map Bc [b],0,0⟩:Ev)::(Ac ⟨(⟨d.plan,d.mode,d.stack,d.scan,d.start,d.at_+1,d.field,d.wire,d.want-1,d.utf,d.end_⟩:Dcd),[]⟩).out:=?_;?_
 rotate_left
 exact⟨Q5,Q9⟩
 refine dsp (fun h7 p7=>?_) fun h7 p7=>?_
 refine⟨(Ae Q2 Q2),(Hv d),h7,(Gz (⟨d.plan,d.mode,d.stack,d.scan,d.start,d.at_+1,d.field,d.wire,d.want-1,d.utf,d.end_⟩:Dcd) Q7),?_⟩
 refine have hm1:(B3 d b).d=(Ac ⟨(⟨d.plan,d.mode,d.stack,d.scan,d.start,d.at_+1,d.field,d.wire,d.want-1,d.utf,d.end_⟩:Dcd),[]⟩).d:=?_;?_
 rotate_left
 refine have hm2:(B3 d b).out=(Ac ⟨(⟨d.plan,d.mode,d.stack,d.scan,d.start,d.at_+1,d.field,d.wire,d.want-1,d.utf,d.end_⟩:Dcd),[]⟩).out:=?_;?_
 rotate_left
 exact⟨Q5,Q9⟩
 refine dsp (fun h8 p8=>?_) fun h8 p8=>?_
 refine⟨(Ae Q2 Q2),(Hv d),h7,h6,dsp (fun h9 p9=>?_) fun h9 p9=>?_⟩
 refine⟨(Xa (⟨d.plan,d.mode,d.stack,d.scan,d.start,d.at_+1,d.field,d.wire,d.want-1,d.utf,d.end_⟩:Dcd) _ _ (Q53) Q2 Q7 (hst.2.2.2.1)),?_⟩
 refine have hm1:(B3 d b).d=(C9 ⟨(⟨d.plan,d.mode,d.stack,d.scan,d.start,d.at_+1,d.field,d.wire,d.want-1,d.utf,d.end_⟩:Dcd),[]⟩ b).d:=?_;?_
 rotate_left
 refine have hm2:(B3 d b).out=(C9 ⟨(⟨d.plan,d.mode,d.stack,d.scan,d.start,d.at_+1,d.field,d.wire,d.want-1,d.utf,d.end_⟩:Dcd),[]⟩ b).out:=?_;?_
 rotate_left
 exact⟨Q5,Q9⟩
 refine⟨(Ti (⟨d.plan,d.mode,d.stack,d.scan,d.start,d.at_+1,d.field,d.wire,d.want-1,d.utf,d.end_⟩:Dcd) _ _ (Q53) Q2),?_⟩
 refine have hm1:(B3 d b).d=(Bo ⟨(⟨d.plan,d.mode,d.stack,d.scan,d.start,d.at_+1,d.field,d.wire,d.want-1,d.utf,d.end_⟩:Dcd),[]⟩ b d.at_).d:=?_;?_
 rotate_left
 refine have hm2:(B3 d b).out=(Bo ⟨(⟨d.plan,d.mode,d.stack,d.scan,d.start,d.at_+1,d.field,d.wire,d.want-1,d.utf,d.end_⟩:Dcd),[]⟩ b d.at_).out:=?_;?_
 rotate_left
 exact⟨Q5,Q9⟩
 refine⟨(Hv d),h7,h6,dsp (fun h9 p9=>?_) fun h9 p9=>?_⟩
 refine⟨(Xa (⟨d.plan,d.mode,d.stack,d.scan,d.start,d.at_+1,d.field,d.wire,d.want,d.utf,d.end_⟩:Dcd) _ _ (Q54) Q2 Q7 (hst.2.2.2.1)),?_⟩
 refine have hm1:(B3 d b).d=(C9 ⟨(⟨d.plan,d.mode,d.stack,d.scan,d.start,d.at_+1,d.field,d.wire,d.want,d.utf,d.end_⟩:Dcd),[]⟩ b).d:=?_;?_
 rotate_left
 refine have hm2:(B3 d b).out=(C9 ⟨(⟨d.plan,d.mode,d.stack,d.scan,d.start,d.at_+1,d.field,d.wire,d.want,d.utf,d.end_⟩:Dcd),[]⟩ b).out:=?_;?_
 rotate_left
 exact⟨Q5,Q9⟩
 refine⟨(Ti (⟨d.plan,d.mode,d.stack,d.scan,d.start,d.at_+1,d.field,d.wire,d.want,d.utf,d.end_⟩:Dcd) _ _ (Q54) Q2),?_⟩
 refine have hm1:(B3 d b).d=(Bo ⟨(⟨d.plan,d.mode,d.stack,d.scan,d.start,d.at_+1,d.field,d.wire,d.want,d.utf,d.end_⟩:Dcd),[]⟩ b d.at_).d:=?_;?_
 rotate_left
 refine have hm2:(B3 d b).out=(Bo ⟨(⟨d.plan,d.mode,d.stack,d.scan,d.start,d.at_+1,d.field,d.wire,d.want,d.utf,d.end_⟩:Dcd),[]⟩ b d.at_).out:=?_;?_
 rotate_left
 exact⟨Q5,Q9⟩
 all_goals first|((rw[hsb];simp_all[D9,Di,Ef,Ai8,A0,A1,Zo,Cb];done))|((rw[hsb];have hw0:Bp d=0:=(by omega);simp_all[D9,Di,Ef,Ai8,A0,A1,Zo,Cb];done))|((rw[hsb];grind[D9,Di,Ef,Ai8,A0,A1,Zo,Cb]))|(simp_all[B3,Eb];done)|(grind[B3,Eb])
structure Mr where
 plan:Pln
 s:List UInt8
 at_:Int
 out:List Ev
 fail:Ev
 deriving Inhabited
def Fh (r:Mr) (c a:Int):Mr:=⟨r.plan,r.s,r.at_,r.out,A3 c a⟩
def Aa0 (r:Mr) (a:Int):Mr:=⟨r.plan,r.s,a,r.out,r.fail⟩
def D1 (r:Mr) (e:Ev):Mr:=⟨r.plan,r.s,r.at_,r.out++[e],r.fail⟩
def Fe (r:Mr) (end_:Int):Bool:=decide ((C6 r.s r.at_ end_).2.2=0)
def Ec (r:Mr) (end_:Int):Int:=if Fe r end_ then (C6 r.s r.at_ end_).1 else 0
def Dr (r:Mr) (end_:Int):Mr:=if Fe r end_ then Aa0 r (C6 r.s r.at_ end_).2.1 else Fh r (C6 r.s r.at_ end_).2.2 (C6 r.s r.at_ end_).2.1
def Zs (r:Mr) (w end_:Int):Bool:=decide (w≤end_-r.at_)&&Qu r.s r.at_ w
def Ajy (r:Mr) (w end_:Int):Int:=if Zs r w end_ then Ajq r.s r.at_ w else 0
def Aeq (r:Mr) (w end_:Int):Mr:=if end_-r.at_<w then Fh r 9 r.at_ else if Qu r.s r.at_ w then Aa0 r (r.at_+w) else Fh r 10 (r.s.length:Int)
def P9 (r:Mr) (wire end_:Int):Bool:=if 0<Ay wire then Zs r (Ay wire) end_ else Fe r end_
def Aa1 (r:Mr) (wire end_:Int):Int:=if 0<Ay wire then Ajy r (Ay wire) end_ else Ec r end_
def R4 (r:Mr) (wire end_:Int):Mr:=if 0<Ay wire then Aeq r (Ay wire) end_ else Dr r end_
def Kt (r:Mr) (f:Fld) (wire end_:Int):Mr:=if P9 r wire end_=true∧0<f.number then D1 (R4 r wire end_) (Eu f (Aa1 r wire end_)) else R4 r wire end_
def Jt {α:Type} (go:α→Bool) (step:α→α):Nat→α→α
 |0,a=>a
 |k+1,a=>if go a then Jt go step k (step a) else a
theorem Fy {α:Type} {go:α→Bool} {step:α→α} {k:Nat} {a:α} (h:go a=false):Jt go step k a=a:=by
 cases k with
 |zero=>rfl
 |succ k=>simp[Jt,h]
theorem Ab8 {α:Type} {go:α→Bool} {step:α→α} (inv:α→Prop) (μ:α→Nat) (dec: ∀a,inv a→go a=true→inv (step a)∧μ (step a)<μ a): ∀(n:Nat) (a:α) (k l:Nat),μ a≤n→inv a→μ a≤k→μ a≤l→Jt go step k a=Jt go step l a:=by
 intro n
 induction n with
 |zero=>
  intro a k l h hi _ _
  cases hg:go a with
  |false=>rw[Fy hg,Fy hg]
  |true=>have:=(dec a hi hg).2;omega
 |succ n ih=>
  intro a k l h hi hk hl
  cases hg:go a with
  |false=>rw[Fy hg,Fy hg]
  |true=>
   obtain ⟨h1,h2⟩:=dec a hi hg
   obtain ⟨k,rfl⟩: ∃j,k=j+1:=⟨k-1,by omega⟩
   obtain ⟨l,rfl⟩: ∃j,l=j+1:=⟨l-1,by omega⟩
   simp only[Jt,hg,if_true]
   exact ih _ _ _ Q2 h1 Q2 Q2
theorem Xc {α:Type} {go:α→Bool} {step:α→α} (inv:α→Prop) (μ:α→Nat) (dec: ∀a,inv a→go a=true→inv (step a)∧μ (step a)<μ a) {a:α} (hi:inv a) (hg:go a=true):Jt go step (μ a) a=Jt go step (μ (step a)) (step a):=by
 obtain ⟨h1,h2⟩:=dec a hi hg
 obtain ⟨k,hk⟩: ∃j,μ a=j+1:=⟨μ a-1,by omega⟩
 rw[hk]
 simp only[Jt,hg,if_true]
 exact Ab8 inv μ dec _ _ _ _ (Nat.le_refl _) h1 Q2 (Nat.le_refl _)
def Rj (end_:Int) (r:Mr):Bool:=decide (r.at_<end_)&&decide (r.fail.kind=0)
def Up (r:Mr):Nat:=if r.fail.kind=0 then (1+(r.s.length:Int)-r.at_).toNat else 0
def Vf (r:Mr) (f:Fld) (end_:Int):Mr:=Jt (Rj end_) (fun r=>Kt r f (Bs f.kind) end_) (Up r) r
def Ahr (f:Fld) (n:Int):Ev:=⟨3,f.number,0,n,[],0,0⟩
def Ajz (t:List UInt8):Ev:=⟨4,0,0,0,t,0,0⟩
def Aj0:Ev:=⟨5,0,0,0,[],0,0⟩
def Sv (f:Fld) (n:Int):Ev:=⟨6,f.number,0,n,[],0,0⟩
def Ak5:Ev:=⟨7,0,0,0,[],0,0⟩
def G1 (r:Mr) (n:Int):List UInt8:=(r.s.drop r.at_.toNat).take n.toNat
def Aa2 (r:Mr) (f:Fld) (n:Int):Int:=if f.kind=6 then Sq utf0 (G1 r n) else-1
def Akv (r:Mr) (f:Fld) (n:Int):Utf:=if f.kind=6 then P7 utf0 (G1 r n) else utf0
def Aer (r:Mr) (f:Fld) (n:Int):List UInt8:=if 0≤Aa2 r f n then (G1 r n).take (Aa2 r f n).toNat else G1 r n
def No (r:Mr) (f:Fld) (n:Int):Mr:=if Aer r f n=[] then D1 r (Ahr f n) else D1 (D1 r (Ahr f n)) (Ajz (Aer r f n))
def Zt (r:Mr) (f:Fld) (n:Int):Mr:=
 if 0≤Aa2 r f n then Fh (No r f n) 5 (r.at_+Aa2 r f n)
 else if ((G1 r n).length:Int)<n then Fh (No r f n) 10 (r.s.length:Int)
 else if (Akv r f n).want≠0 then Fh (No r f n) 5 (r.at_+n)
 else D1 (Aa0 (No r f n) (r.at_+n)) Aj0
def Xd (sub:Mr→Fld→Int→Int→Mr) (r:Mr) (f:Fld) (known:Bool) (end_:Int):Mr:=
 if Fe r end_=false then Dr r end_
 else if end_-(Dr r end_).at_<Ec r end_ then Fh (Dr r end_) 8 r.at_
 else if known=false then (if (r.s.length:Int)-(Dr r end_).at_<Ec r end_ then Fh (Dr r end_) 10 (r.s.length:Int) else Aa0 (Dr r end_) ((Dr r end_).at_+Ec r end_))
 else if f.kind=8 then sub (Dr r end_) f (Ec r end_) r.at_
 else if C3 f.kind=true then Vf (Dr r end_) f ((Dr r end_).at_+Ec r end_)
 else Zt (Dr r end_) f (Ec r end_)
def Uq (sub:Mr→Fld→Int→Int→Mr) (shape end_:Int) (r:Mr):Mr:=
 if Fe r end_=false then Dr r end_
 else if Hr (Ec r end_)=false then Fh (Dr r end_) 2 r.at_
 else if Dx (Aj (Ec r end_))=false then Fh (Dr r end_) 3 r.at_
 else if (fieldAt r.plan.shapes shape (Bu (Ec r end_))).isSome=true∧Cy ((fieldAt r.plan.shapes shape (Bu (Ec r end_))).getD fld0) (Aj (Ec r end_))=false then Fh (Dr r end_) 4 r.at_
 else if Aj (Ec r end_)=2 then Xd sub (Dr r end_) ((fieldAt r.plan.shapes shape (Bu (Ec r end_))).getD fld0) (fieldAt r.plan.shapes shape (Bu (Ec r end_))).isSome end_
 else Kt (Dr r end_) ((fieldAt r.plan.shapes shape (Bu (Ec r end_))).getD fld0) (Aj (Ec r end_)) end_
def Afo:Nat→Int→Int→Mr→Mr
 |0,shape,end_,r=>Jt (Rj end_) (Uq (fun r _ _ start=>Fh r 6 start) shape end_) (Up r) r
 |D+1,shape,end_,r=>Jt (Rj end_) (Uq (fun r f n _=>if (Afo D f.msg (r.at_+n) (D1 r (Sv f n))).fail.kind=0 then D1 (Afo D f.msg (r.at_+n) (D1 r (Sv f n))) Ak5 else Afo D f.msg (r.at_+n) (D1 r (Sv f n))) shape end_) (Up r) r
def Akn:Nat→Mr→Fld→Int→Int→Mr
 |0=>fun r _ _ start=>Fh r 6 start
 |D+1=>fun r f n _=>if (Afo D f.msg (r.at_+n) (D1 r (Sv f n))).fail.kind=0 then D1 (Afo D f.msg (r.at_+n) (D1 r (Sv f n))) Ak5 else Afo D f.msg (r.at_+n) (D1 r (Sv f n))
theorem Aio (D:Nat) (shape end_:Int) (r:Mr):Afo D shape end_ r=Jt (Rj end_) (Uq (Akn D) shape end_) (Up r) r:=by
 cases D<;>rfl
/-! ### What steps keep -/
theorem Ahs {s:List UInt8} {a e:Int} : ∀(f k:Nat) (u:Int),(vwA s a e f k u).2.2=0→a+k<(vwA s a e f k u).2.1∧(vwA s a e f k u).2.1≤e∧(vwA s a e f k u).2.1≤(s.length:Int)
 |0,k,u=>by simp[vwA]
 |f+1,k,u=>by
  rw[vwA]
  split
  ·simp
  split
  ·simp
  split
  ·simp
  split
  ·simp;omega
  ·intro h
   have:=Ahs f (k+1) _ h
   rw[show ((k+1:Nat):Int)=(k:Int)+1 by simp] at this
   omega
theorem Yf {s:List UInt8} {a e:Int} (h:(C6 s a e).2.2=0):0≤a∧a<(C6 s a e).2.1∧(C6 s a e).2.1≤e∧(C6 s a e).2.1≤(s.length:Int):=by
 unfold C6 at h ⊢
 split
 ·rename_i hw
  rw[if_pos hw] at h
  have:=As hw
  have:=Ahs 10 0 0 h
  rw[show ((0:Nat):Int)=0 from rfl] at this
  omega
 ·rename_i hw
  rw[if_neg hw] at h
  simp at h
structure Adv (r r':Mr):Prop where
 plan:r'.plan=r.plan
 s:r'.s=r.s
 at_:r'.fail.kind=0→r.at_≤r'.at_∧r'.at_≤(r.s.length:Int)
 fail:r'.fail.kind=0→r'.fail=r.fail
 room:r'.fail.kind=0→(r'.out.length:Int)+4*((r.s.length:Int)-r'.at_)≤(r.out.length:Int)+4*((r.s.length:Int)-r.at_)
 most:(r'.out.length:Int)≤(r.out.length:Int)+4*((r.s.length:Int)-r.at_)
def Adv1 (r r':Mr):Prop:=Adv r r'∧(r'.fail.kind=0→r.at_<r'.at_)
theorem Adv.trans {a b c:Mr} (h:Adv a b) (hb:b.fail.kind=0) (g:Adv b c):Adv a c:=by
 obtain ⟨h1,h2⟩:=h.at_ hb
 have hr:=h.room hb
 have gm:=g.most
 rw[h.s] at gm
 refine⟨g.plan.trans h.plan,g.s.trans h.s,fun hc=>?_,fun hc=>(g.fail hc).trans (h.fail hb),fun hc=>?_,by omega⟩
 ·have:=g.at_ hc
  rw[h.s] at this
  omega
 ·have:=g.room hc
  rw[h.s] at this
  omega
theorem Adv.refl (r:Mr) (h:r.at_≤(r.s.length:Int)):Adv r r:=⟨rfl,rfl,fun _=>⟨Int.le_refl _,h⟩,fun _=>rfl,fun _=>Int.le_refl _,by omega⟩
theorem Adv1.trans {a b c:Mr} (h:Adv1 a b) (hb:b.fail.kind=0) (g:Adv b c):Adv1 a c:=
 ⟨h.1.trans hb g,fun hc=>by
  have h1:=h.2 hb
  have:=g.at_ hc
  omega⟩
theorem Adv.failed {r r':Mr} (hp:r'.plan=r.plan) (hs:r'.s=r.s) (hk:r'.fail.kind≠0) (ho:(r'.out.length:Int)≤(r.out.length:Int)+4*((r.s.length:Int)-r.at_)):Adv r r':=
 ⟨hp,hs,fun h=>(hk h).elim,fun h=>(hk h).elim,fun h=>(hk h).elim,ho⟩
theorem Adv1.failed {r r':Mr} (hp:r'.plan=r.plan) (hs:r'.s=r.s) (hk:r'.fail.kind≠0) (ho:(r'.out.length:Int)≤(r.out.length:Int)+4*((r.s.length:Int)-r.at_)):Adv1 r r':=
 ⟨Adv.failed hp hs hk ho,fun h=>(hk h).elim⟩
theorem L8 (r:Mr) (c a:Int):(Fh r c a).fail.kind≠0:=by simp[Fh,A3]
theorem R5 {r:Mr} {c a:Int} (h:r.at_≤(r.s.length:Int)):Adv1 r (Fh r c a):=Adv1.failed rfl rfl (L8 r c a) (by simp only[Fh];omega)
theorem Aa3 {r:Mr} {e:Int} (h:Fe r e=true):Dr r e=Aa0 r (C6 r.s r.at_ e).2.1:=by unfold Dr;rw[if_pos h]
theorem Yg {r:Mr} {e:Int} (h:Fe r e=false):Dr r e=Fh r (C6 r.s r.at_ e).2.2 (C6 r.s r.at_ e).2.1:=by unfold Dr;rw[if_neg (by simp[h])]
theorem Aa4 {r:Mr} {a:Int} (h1:r.at_<a) (h2:a≤(r.s.length:Int)):Adv1 r (Aa0 r a):=
 ⟨⟨rfl,rfl,fun _=>⟨by simp only[Aa0];omega,h2⟩,fun _=>rfl,fun _=>by simp only[Aa0];omega,by simp only[Aa0];omega⟩,fun _=>h1⟩
theorem Np {r:Mr} {e:Int} (h1:r.at_≤(r.s.length:Int)):Adv1 r (Dr r e)∧(Fe r e=true→0≤r.at_∧(Dr r e).at_≤e)∧(Dr r e).out=r.out:=by
 cases hok:Fe r e with
 |true=>
  rw[Aa3 hok]
  have hc:(C6 r.s r.at_ e).2.2=0:=by simpa [Fe] using hok
  have hv:=Yf hc
  exact⟨Aa4 hv.2.1 hv.2.2.2,fun _=>⟨hv.1,hv.2.2.1⟩,rfl⟩
 |false=>
  rw[Yg hok]
  exact⟨R5 h1,fun h=>by simp at h,rfl⟩
theorem Ki {r:Mr} {e:Int} (h0:r.fail.kind=0):Fe r e=decide ((Dr r e).fail.kind=0):=by
 cases hok:Fe r e with
 |true=>rw[Aa3 hok];simp[Aa0,h0]
 |false=>rw[Yg hok];rfl
theorem Ab9 {s:List UInt8} {a w:Int} (h:Qu s a w=true):(w=4∨w=8)∧0≤a∧a+w≤(s.length:Int):=by
 simp only[Qu,Bool.and_eq_true] at h
 have:=As h.2
 exact⟨Ad1 h.1,by omega,by omega⟩
theorem Aes {r:Mr} {w e:Int} (h1:r.at_≤(r.s.length:Int)):Adv1 r (Aeq r w e)∧(Aeq r w e).out=r.out:=by
 unfold Aeq
 split
 ·exact⟨R5 h1,rfl⟩
 ·split
  ·rename_i h2 h3
   have:=Ab9 h3
   exact⟨Aa4 Q2 Q2,rfl⟩
  ·exact⟨R5 h1,rfl⟩
theorem Aet {r:Mr} {w e:Int} (h1:r.at_≤(r.s.length:Int)):Adv1 r (R4 r w e)∧(R4 r w e).out=r.out:=by
 unfold R4;split
 ·exact Aes h1
 ·exact⟨(Np h1).1,(Np h1).2.2⟩
theorem Nq {r:Mr} {w e:Int} (h0:r.fail.kind=0):P9 r w e=decide ((R4 r w e).fail.kind=0):=by
 unfold P9 R4;split
 ·unfold Aeq Zs
  split
  ·rename_i h;rw[decide_eq_false (by omega)];rfl
  ·rename_i h;rw[decide_eq_true (by omega)]
   split<;>rename_i h2
   ·simp[h2,Aa0,h0]
   ·simp[h2,Fh,A3]
 ·exact Ki h0
theorem Agi {r r':Mr} {e:Ev} (h:Adv1 r r') (ho:r'.out=r.out) (hk:r'.fail.kind=0):Adv1 r (D1 r' e):=by
 have ha:=h.1.at_ hk
 have hb:=h.2 hk
 refine⟨⟨h.1.plan,h.1.s,h.1.at_,h.1.fail,fun _=>?_,?_⟩,h.2⟩
 ·simp only[D1,List.length_append,List.length_cons,List.length_nil,ho];omega
 ·simp only[D1,List.length_append,List.length_cons,List.length_nil,ho];omega
theorem L9 {r:Mr} {f:Fld} {w e:Int} (h1:r.at_≤(r.s.length:Int)) (h0:r.fail.kind=0):Adv1 r (Kt r f w e):=by
 have hv:=Aet (w:=w) (e:=e) h1
 unfold Kt
 split
 ·rename_i hh
  have:=hh.1
  rw[Nq h0] at this
  exact Agi hv.1 hv.2 (by simpa using this)
 ·exact hv.1
theorem Ur {go:Mr→Bool} {step:Mr→Mr} (hgo: ∀r,go r=true→r.fail.kind=0) (hstep: ∀r,r.at_≤(r.s.length:Int)→r.fail.kind=0→Adv1 r (step r)): ∀(k:Nat) (r:Mr),r.at_≤(r.s.length:Int)→Adv r (Jt go step k r)
 |0,r,h=>Adv.refl r h
 |k+1,r,h=>by
  unfold Jt
  cases hg:go r with
  |false=>exact Adv.refl r h
  |true=>
   have hk:=hgo r hg
   have hs:=hstep r h hk
   simp only[if_true]
   by_cases hk':(step r).fail.kind=0
   ·have:=hs.1.at_ hk'
    exact hs.1.trans hk' (Ur hgo hstep k (step r) (by rw[hs.1.s];exact this.2))
   ·have:Jt go step k (step r)=step r:=Fy (by cases hg':go (step r) with
     |false=>rfl
     |true=>exact(hk' (hgo _ hg')).elim)
    rw[this];exact hs.1
theorem Nr {e:Int} {r:Mr} (h:Rj e r=true):r.fail.kind=0:=by simp[Rj] at h;exact h.2
theorem Rk {r r':Mr} (h1:r.at_≤(r.s.length:Int)) (h0:r.fail.kind=0) (h:Adv1 r r'):Up r'<Up r:=by
 unfold Up
 rw[if_pos h0]
 split
 ·rename_i hk
  have:=h.2 hk
  have:=h.1.at_ hk
  rw[h.1.s];omega
 ·omega
theorem Aeu {r:Mr} {f:Fld} {e:Int} (h1:r.at_≤(r.s.length:Int)):Adv r (Vf r f e):=
 Ur (fun r h=>Nr h) (fun r h h0=>L9 h h0) _ r h1
theorem Aa5 {r:Mr} {f:Fld} {e:Int} (h1:r.at_≤(r.s.length:Int)) (hg:Rj e r=true):Vf r f e=Vf (Kt r f (Bs f.kind) e) f e:=by
 unfold Vf
 refine Xc (fun r=>r.at_≤(r.s.length:Int)∨r.fail.kind≠0) Up (fun a hi hg=>?_) (.inl h1) hg
 have hk:=Nr hg
 have ha:=hi.resolve_right (fun h=>h hk)
 have:=L9 (f:=f) (w:=Bs f.kind) (e:=e) ha hk
 refine⟨?_,Rk ha hk this⟩
 by_cases hk':(Kt a f (Bs f.kind) e).fail.kind=0
 ·left;rw[this.1.s];exact(this.1.at_ hk').2
 ·exact .inr hk'
theorem V8 {r:Mr} {f:Fld} {e:Int} (hg:Rj e r=false):Vf r f e=r:=Fy hg
theorem Aca {r:Mr} {f:Fld} {w e:Int} (h:P9 r w e=true) (hf:0<f.number):Kt r f w e=D1 (R4 r w e) (Eu f (Aa1 r w e)):=by unfold Kt;rw[if_pos ⟨h,hf⟩]
theorem Zu {r:Mr} {f:Fld} {w e:Int} (h:P9 r w e=false):Kt r f w e=R4 r w e:=by unfold Kt;rw[if_neg (by simp[h])]
structure RunInv (r0:Mr) (f:Fld) (e:Int) (q:Mr):Prop where
 at_:q.at_≤(q.s.length:Int)
 fail:q.fail.kind=0
 adv:Adv r0 q
 run:Vf q f e=Vf r0 f e
theorem RunInv.refl {r:Mr} {f:Fld} {e:Int} (h1:r.at_≤(r.s.length:Int)) (h0:r.fail.kind=0):RunInv r f e r:=⟨h1,h0,Adv.refl r h1,rfl⟩
theorem RunInv.next {r q:Mr} {f:Fld} {e:Int} (h:RunInv r f e q) (hg:q.at_<e) (hok:P9 q (Bs f.kind) e=true) (hf:0<f.number):RunInv r f e (D1 (R4 q (Bs f.kind) e) (Eu f (Aa1 q (Bs f.kind) e))):=by
 have hgo:Rj e q=true:=by simp[Rj,hg,h.fail]
 have hs:=L9 (f:=f) (w:=Bs f.kind) (e:=e) h.at_ h.fail
 have hr:=Aa5 (f:=f) h.at_ hgo
 rw[Aca hok hf] at hs hr
 have hk:(D1 (R4 q (Bs f.kind) e) (Eu f (Aa1 q (Bs f.kind) e))).fail.kind=0:=by
  rw[Nq h.fail] at hok;simpa [D1] using hok
 exact⟨by rw[hs.1.s];exact(hs.1.at_ hk).2,hk,h.adv.trans h.fail hs.1,hr.symm.trans h.run⟩
theorem RunInv.bad {r q:Mr} {f:Fld} {e:Int} (h:RunInv r f e q) (hg:q.at_<e) (hok:P9 q (Bs f.kind) e=false):Vf r f e=R4 q (Bs f.kind) e:=by
 have hgo:Rj e q=true:=by simp[Rj,hg,h.fail]
 have hr:=Aa5 (f:=f) h.at_ hgo
 rw[Zu hok] at hr
 rw[←h.run,hr]
 refine V8 ?_
 rw[Nq h.fail] at hok
 have:(R4 q (Bs f.kind) e).fail.kind≠0:=by simpa using hok
 simp[Rj,this]
theorem RunInv.end_ {r q:Mr} {f:Fld} {e:Int} (h:RunInv r f e q) (hg: ¬q.at_<e):Vf r f e=q:=by
 rw[←h.run];exact V8 (by simp[Rj];omega)
theorem RunInv.room {r q:Mr} {f:Fld} {e:Int} (h:RunInv r f e q):q.s=r.s∧q.plan=r.plan∧r.at_≤q.at_∧(q.out.length:Int)+4*((r.s.length:Int)-q.at_)≤(r.out.length:Int)+4*((r.s.length:Int)-r.at_):=
 ⟨h.adv.s,h.adv.plan,(h.adv.at_ h.fail).1,h.adv.room h.fail⟩
theorem Agj (r:Mr) (e:Int):0≤Ec r e∧Ec r e≤18446744073709551615:=by
 unfold Ec;split
 ·exact Zh _ _ _
 ·omega
theorem Yh {r:Mr} {n:Int} (hn:0≤n) (ha:0≤r.at_) (hl:r.at_≤(r.s.length:Int)):((G1 r n).length:Int)≤n∧((G1 r n).length:Int)≤(r.s.length:Int)-r.at_∧(((G1 r n).length:Int)<n→((G1 r n).length:Int)=(r.s.length:Int)-r.at_):=by
 unfold G1;rw[List.length_take,List.length_drop];omega
/-! ### Texts, messages -/
structure AdvB (b:Int) (r r':Mr):Prop where
 plan:r'.plan=r.plan
 s:r'.s=r.s
 at_:r'.fail.kind=0→r.at_≤r'.at_∧r'.at_≤(r.s.length:Int)
 fail:r'.fail.kind=0→r'.fail=r.fail
 room:r'.fail.kind=0→(r'.out.length:Int)+4*((r.s.length:Int)-r'.at_)≤(r.out.length:Int)+b+4*((r.s.length:Int)-r.at_)
 most:(r'.out.length:Int)≤(r.out.length:Int)+b+4*((r.s.length:Int)-r.at_)
theorem Adv.b {r r':Mr} (h:Adv r r'):AdvB 0 r r':=⟨h.plan,h.s,h.at_,h.fail,fun hk=>by have:=h.room hk;omega,by have:=h.most;omega⟩
theorem AdvB.tell {b:Int} {r r':Mr} (h:AdvB b r r') (e:Ev):AdvB (b+1) r (D1 r' e):=
 ⟨h.plan,h.s,h.at_,h.fail,fun hk=>by have:=h.room hk;simp only[D1,List.length_append,List.length_cons,List.length_nil];omega,by have:=h.most;simp only[D1,List.length_append,List.length_cons,List.length_nil];omega⟩
theorem AdvB.failed {b:Int} {r r':Mr} (h:AdvB b r r') (c a:Int):AdvB b r (Fh r' c a):=
 ⟨h.plan,h.s,fun hk=>(L8 _ _ _ hk).elim,fun hk=>(L8 _ _ _ hk).elim,fun hk=>(L8 _ _ _ hk).elim,h.most⟩
theorem AdvB.moved {b:Int} {r r':Mr} (h:AdvB b r r') {a:Int} (h1:r'.fail.kind=0→r'.at_≤a) (h2:a≤(r.s.length:Int)):AdvB b r (Aa0 r' a):=
 ⟨h.plan,h.s,fun hk=>by have:=h.at_ hk;have:=h1 hk;exact⟨by simp only[Aa0];omega,h2⟩,h.fail,fun hk=>by have:=h.room hk;have:=h1 hk;simp only[Aa0];omega,h.most⟩
theorem AdvB.trans {b c:Int} {x y z:Mr} (h:AdvB b x y) (hb:y.fail.kind=0) (g:AdvB c y z):AdvB (b+c) x z:=by
 obtain ⟨h1,h2⟩:=h.at_ hb
 have hr:=h.room hb
 have gm:=g.most
 rw[h.s] at gm
 refine⟨g.plan.trans h.plan,g.s.trans h.s,fun hc=>?_,fun hc=>(g.fail hc).trans (h.fail hb),fun hc=>?_,by omega⟩
 ·have:=g.at_ hc
  rw[h.s] at this
  omega
 ·have:=g.room hc
  rw[h.s] at this
  omega
theorem AdvB.mono {b c:Int} {r r':Mr} (h:AdvB b r r') (hc:b≤c):AdvB c r r':=⟨h.plan,h.s,h.at_,h.fail,fun hk=>by have:=h.room hk;omega,by have:=h.most;omega⟩
theorem Adv1.after {b:Int} {r v w:Mr} (h:Adv1 r v) (ho:v.out=r.out) (hk:v.fail.kind=0) (g:AdvB b v w) (hb:b≤4):Adv1 r w:=by
 have h1:=h.1.at_ hk
 have h2:=h.2 hk
 have gm:=g.most
 rw[h.1.s,ho] at gm
 refine⟨⟨g.plan.trans h.1.plan,g.s.trans h.1.s,fun hc=>?_,fun hc=>(g.fail hc).trans (h.1.fail hk),fun hc=>?_,by omega⟩,fun hc=>?_⟩
 ·have:=g.at_ hc
  rw[h.1.s] at this
  omega
 ·have:=g.room hc
  rw[h.1.s,ho] at this
  omega
 ·have:=g.at_ hc
  omega
theorem Zv {r:Mr} {f:Fld} {n:Int} (hl:r.at_≤(r.s.length:Int)):AdvB 2 r (No r f n)∧(No r f n).at_=r.at_∧(No r f n).fail=r.fail:=by
 unfold No
 split
 ·exact⟨((Adv.refl r hl).b.tell _).mono (by decide),rfl,rfl⟩
 ·exact⟨(((Adv.refl r hl).b.tell _).tell _).mono (by decide),rfl,rfl⟩
theorem Zw {r:Mr} {f:Fld} {n:Int} (ha:0≤r.at_) (hl:r.at_≤(r.s.length:Int)) (hn:0≤n):AdvB 3 r (Zt r f n):=by
 obtain ⟨h1,h2,h3⟩:=Zv (f:=f) (n:=n) hl
 have ht:=Yh hn ha hl
 unfold Zt
 split
 ·exact(h1.failed _ _).mono (by decide)
 split
 ·exact(h1.failed _ _).mono (by decide)
 split
 ·exact(h1.failed _ _).mono (by decide)
 ·exact((h1.moved (fun _=>by omega) (by omega)).tell _).mono (by decide)
def Aa6 (sub:Mr→Fld→Int→Int→Mr):Prop:= ∀(v:Mr) (f:Fld) (n s:Int),v.at_≤(v.s.length:Int)→v.fail.kind=0→AdvB 2 v (sub v f n s)
theorem Yi {sub:Mr→Fld→Int→Int→Mr} (hsub:Aa6 sub) {r:Mr} {f:Fld} {known:Bool} {e:Int} (hl:r.at_≤(r.s.length:Int)) (h0:r.fail.kind=0):Adv1 r (Xd sub r f known e):=by
 obtain ⟨hv,hv2,hv3⟩:=Np (e:=e) hl
 have hu:=Agj r e
 unfold Xd
 split
 ·exact hv
 ·rename_i hok
  have hok:Fe r e=true:=by simpa using hok
  have hk:(Dr r e).fail.kind=0:=by rw[Ki h0] at hok;simpa using hok
  have ha:=hv.1.at_ hk
  have hs:=congrArg List.length hv.1.s
  have h2:=hv2 hok
  have hl':(Dr r e).at_≤((Dr r e).s.length:Int):=by omega
  have hr:=(Adv.refl (Dr r e) hl').b
  split
  ·exact hv.after hv3 hk (hr.failed _ _) (by decide)
  split
  ·split
   ·exact hv.after hv3 hk (hr.failed _ _) (by decide)
   ·exact hv.after hv3 hk (hr.moved (fun _=>by omega) (by omega)) (by decide)
  split
  ·exact hv.after hv3 hk (hsub _ _ _ _ hl' hk) (by decide)
  split
  ·exact hv.after hv3 hk (Aeu hl').b (by decide)
  ·exact hv.after hv3 hk (Zw (by omega) hl' hu.1) (by decide)
theorem Zx {sub:Mr→Fld→Int→Int→Mr} (hsub:Aa6 sub) {shape e:Int} {r:Mr} (hl:r.at_≤(r.s.length:Int)) (h0:r.fail.kind=0):Adv1 r (Uq sub shape e r):=by
 obtain ⟨hv,hv2,hv3⟩:=Np (e:=e) hl
 unfold Uq
 split
 ·exact hv
 ·rename_i hok
  have hok:Fe r e=true:=by simpa using hok
  have hk:(Dr r e).fail.kind=0:=by rw[Ki h0] at hok;simpa using hok
  have ha:=hv.1.at_ hk
  have hs:=congrArg List.length hv.1.s
  have hl':(Dr r e).at_≤((Dr r e).s.length:Int):=by omega
  have hr:=(Adv.refl (Dr r e) hl').b
  split
  ·exact hv.after hv3 hk (hr.failed _ _) (by decide)
  split
  ·exact hv.after hv3 hk (hr.failed _ _) (by decide)
  split
  ·exact hv.after hv3 hk (hr.failed _ _) (by decide)
  split
  ·exact hv.after hv3 hk (Yi hsub hl' hk).1.b (by decide)
  ·exact hv.after hv3 hk (L9 hl' hk).1.b (by decide)
theorem Yj {D:Nat} (hs:Aa6 (Akn D)) {shape e:Int} {r:Mr} (hl:r.at_≤(r.s.length:Int)):Adv r (Afo D shape e r):=by
 rw[Aio]
 exact Ur (fun r h=>Nr h) (fun r h h0=>Zx hs h h0) _ r hl
theorem Aa7: ∀D,Aa6 (Akn D)
 |0=>fun v f n s hl h0=>((Adv.refl v hl).b.failed _ _).mono (by decide)
 |D+1=>fun v f n s hl h0=>by
  have ht:AdvB 1 v (D1 v (Sv f n)):=(Adv.refl v hl).b.tell _
  have hm:=(Yj (Aa7 D) (shape:=f.msg) (e:=v.at_+n) (r:=D1 v (Sv f n)) hl).b
  have hb:=ht.trans h0 hm
  simp only[Akn]
  split
  ·exact(hb.tell _).mono (by decide)
  ·exact hb.mono (by decide)
theorem Agk {D:Nat} {shape e:Int} {r:Mr} (hl:r.at_≤(r.s.length:Int)):Adv r (Afo D shape e r):=Yj (Aa7 D) hl
structure LInv (step:Mr→Mr) (e:Int) (r0 q:Mr):Prop where
 adv:Adv r0 q
 run:Jt (Rj e) step (Up q) q=Jt (Rj e) step (Up r0) r0
def Zy (step:Mr→Mr):Prop:= ∀r:Mr,r.at_≤(r.s.length:Int)→r.fail.kind=0→Adv1 r (step r)
theorem LInv.refl {step:Mr→Mr} {e:Int} {r:Mr} (h1:r.at_≤(r.s.length:Int)):LInv step e r r:=⟨Adv.refl r h1,rfl⟩
theorem LInv.at_ {step:Mr→Mr} {e:Int} {r q:Mr} (h:LInv step e r q) (hk:q.fail.kind=0):r.at_≤q.at_∧q.at_≤(q.s.length:Int):=by
 have:=h.adv.at_ hk
 rw[h.adv.s];exact this
theorem LInv.room {step:Mr→Mr} {e:Int} {r q:Mr} (h:LInv step e r q) (hk:q.fail.kind=0):q.s.length=r.s.length∧q.plan=r.plan∧r.at_≤q.at_∧q.at_≤(r.s.length:Int)∧(q.out.length:Int)+4*((r.s.length:Int)-q.at_)≤(r.out.length:Int)+4*((r.s.length:Int)-r.at_):=
 ⟨by rw[h.adv.s],h.adv.plan,(h.adv.at_ hk).1,(h.adv.at_ hk).2,h.adv.room hk⟩
theorem LInv.go {step:Mr→Mr} (hs:Zy step) {e:Int} {r q:Mr} (h:LInv step e r q) (hg:q.at_<e) (hk:q.fail.kind=0):LInv step e r (step q)∧Up (step q)<Up q:=by
 have hgo:Rj e q=true:=by simp[Rj,hg,hk]
 have ha:=h.at_ hk
 have hq:=hs q ha.2 hk
 refine⟨⟨h.adv.trans hk hq.1,?_⟩,Rk ha.2 hk hq⟩
 rw[←h.run]
 refine(Xc (fun r=>r.at_≤(r.s.length:Int)∨r.fail.kind≠0) Up (fun a hi hg=>?_) (.inl ha.2) hgo).symm
 have hk':=Nr hg
 have hl:a.at_≤(a.s.length:Int):=hi.resolve_right (fun h=>h hk')
 refine⟨?_,Rk hl hk' (hs a hl hk')⟩
 by_cases hk2:(step a).fail.kind=0
 ·left;rw[(hs a hl hk').1.s];exact((hs a hl hk').1.at_ hk2).2
 ·exact .inr hk2
theorem LInv.stop {step:Mr→Mr} {e:Int} {r q:Mr} (h:LInv step e r q) (hg:Rj e q=false):Jt (Rj e) step (Up r) r=q:=by rw[←h.run];exact Fy hg
theorem LInv.end_ {step:Mr→Mr} {e:Int} {r q:Mr} (h:LInv step e r q) (hg: ¬q.at_<e):Jt (Rj e) step (Up r) r=q:=h.stop (by simp[Rj];omega)
theorem LInv.bad {step:Mr→Mr} {e:Int} {r q:Mr} (h:LInv step e r q) (hk:q.fail.kind≠0):Jt (Rj e) step (Up r) r=q:=h.stop (by simp[Rj,hk])
theorem LInv.leave {step:Mr→Mr} (hs:Zy step) {e:Int} {r q x:Mr} (h:LInv step e r q) (hg:q.at_<e) (hk:q.fail.kind=0) (hx:step q=x) (hx2:x.fail.kind≠0):Jt (Rj e) step (Up r) r=x:=by
 subst hx;exact(h.go hs hg hk).1.bad hx2
theorem LInv.next {step:Mr→Mr} (hs:Zy step) {e:Int} {r q x:Mr} (h:LInv step e r q) (hg:q.at_<e) (hk:q.fail.kind=0) (hx:step q=x):LInv step e r x∧Up x<Up q:=by
 subst hx;exact h.go hs hg hk
structure Ako where
 r:Mr
structure Aj1 where
 r:Mr
structure Aj2 where
 r:Mr
structure Aj3 where
 r:Mr
/-! ### More told Aj4 -/
def Aj4 (o:List Ev) (r:Mr):Mr:=⟨r.plan,r.s,r.at_,o++r.out,r.fail⟩
def mr0 (p:Pln) (s:List UInt8) (a:Int):Mr:=⟨p,s,a,[],ev0⟩
def Xe (n:Int):Ev:=⟨1,0,0,n,[],0,0⟩
def Acb:Ev:=⟨8,0,0,0,[],0,0⟩
def V9:Int:=9223372036854775807
def Yk (r:Mr):Mr:=Afo (Int.toNat (r.plan.deep-1)) r.plan.root ((Dr r V9).at_+Ec r V9) (D1 (Dr r V9) (Xe (Ec r V9)))
def Ma (r:Mr):Mr:=
 if Fe r V9=false then Dr r V9
 else if r.plan.most<Ec r V9 then Fh (Dr r V9) 7 r.at_
 else if (Yk r).fail.kind=0 then D1 (Yk r) Acb else Yk r
theorem Us {r:Mr} (hl:r.at_≤(r.s.length:Int)) (h0:r.fail.kind=0):Adv1 r (Ma r):=by
 obtain ⟨hv,hv2,hv3⟩:=Np (e:=V9) hl
 unfold Ma
 split
 ·exact hv
 ·rename_i hok
  have hok:Fe r V9=true:=by simpa using hok
  have hk:(Dr r V9).fail.kind=0:=by rw[Ki h0] at hok;simpa using hok
  have ha:=hv.1.at_ hk
  have hs:=congrArg List.length hv.1.s
  have hl':(Dr r V9).at_≤((Dr r V9).s.length:Int):=by omega
  have hr:=(Adv.refl (Dr r V9) hl').b
  have hm0:AdvB 0 (D1 (Dr r V9) (Xe (Ec r V9))) (Yk r):=(Agk (r:=D1 (Dr r V9) (Xe (Ec r V9))) hl').b
  have hm:AdvB (0+1+0) (Dr r V9) (Yk r):=(hr.tell (Xe (Ec r V9))).trans hk hm0
  split
  ·exact hv.after hv3 hk (hr.failed _ _) (by decide)
  split
  ·exact hv.after hv3 hk (hm.tell _) (by decide)
  ·exact hv.after hv3 hk hm (by decide)
structure Wh where
 r:Mr
 ends:List Int
def Ai9 (w:Wh):Bool:=Rj (w.r.s.length:Int) w.r
def Aa8 (w:Wh):Wh:=⟨Ma w.r,if (Ma w.r).fail.kind=0 then w.ends++[(Ma w.r).at_] else w.ends⟩
def Agm (w:Wh):Wh:=Jt Ai9 Aa8 (Up w.r) w
def wh0 (p:Pln) (s:List UInt8):Wh:=⟨mr0 p s 0,[0]⟩
def Aev (p:Pln) (s:List UInt8):Wh:=Agm (wh0 p s)
structure WInv (w0 q:Wh):Prop where
 adv:Adv w0.r q.r
 ends:q.r.fail.kind=0→(q.ends.length:Int)≤1+q.r.at_
 run:Agm q=Agm w0
theorem WInv.refl {p:Pln} {s:List UInt8} :WInv (wh0 p s) (wh0 p s):=⟨Adv.refl _ (by simp[wh0,mr0]),fun _=>by simp[wh0,mr0],rfl⟩
theorem WInv.room {p:Pln} {s:List UInt8} {q:Wh} (h:WInv (wh0 p s) q) (hk:q.r.fail.kind=0):q.r.s=s∧q.r.plan=p∧0≤q.r.at_∧q.r.at_≤(s.length:Int)∧(q.r.out.length:Int)+4*((s.length:Int)-q.r.at_)≤4*(s.length:Int)∧q.r.fail=ev0:=by
 have:=h.adv.at_ hk
 have hr:=h.adv.room hk
 refine⟨h.adv.s,h.adv.plan,this.1,this.2,?_,h.adv.fail hk⟩
 simpa [wh0,mr0] using hr
theorem WInv.next {p:Pln} {s:List UInt8} {q x:Wh} (h:WInv (wh0 p s) q) (hg:q.r.at_<(s.length:Int)) (hk:q.r.fail.kind=0) (hx:Aa8 q=x):WInv (wh0 p s) x∧Up x.r<Up q.r:=by
 subst hx
 obtain ⟨h1,h2,h3,h4,h5,_⟩:=h.room hk
 have hl:q.r.at_≤(q.r.s.length:Int):=by rw[h1];exact h4
 have hf:=Us hl hk
 have hgo:Ai9 q=true:=by simp[Ai9,Rj,h1,hg,hk]
 refine⟨⟨h.adv.trans hk hf.1,fun hk2=>?_,?_⟩,Rk hl hk hf⟩
 ·have:=h.ends hk
  have:=hf.2 hk2
  have hk3:(Ma q.r).fail.kind=0:=hk2
  simp only[Aa8,if_pos hk3,List.length_append,List.length_cons,List.length_nil];omega
 ·rw[←h.run]
  refine(Xc (fun w:Wh=>w.r.at_≤(w.r.s.length:Int)∨w.r.fail.kind≠0) (fun w=>Up w.r) (fun a hi hg=>?_) (.inl hl) hgo).symm
  have hk':a.r.fail.kind=0:=Nr hg
  have hl:a.r.at_≤(a.r.s.length:Int):=hi.resolve_right (fun h=>h hk')
  have hf:=Us hl hk'
  refine⟨?_,Rk hl hk' hf⟩
  by_cases hk2:(Ma a.r).fail.kind=0
  ·left
   show (Ma a.r).at_≤((Ma a.r).s.length:Int)
   rw[hf.1.s];exact(hf.1.at_ hk2).2
  ·exact .inr hk2
theorem WInv.stop {w0 q:Wh} (h:WInv w0 q) (hg:Ai9 q=false):Agm w0=q:=by rw[←h.run];exact Fy hg
theorem WInv.end_ {p:Pln} {s:List UInt8} {q:Wh} (h:WInv (wh0 p s) q) (hg: ¬q.r.at_<(s.length:Int)):Aev p s=q:=h.stop (by
 have:q.r.s=s:=h.adv.s
 simp[Ai9,Rj,this];omega)
theorem WInv.leave {p:Pln} {s:List UInt8} {q x:Wh} (h:WInv (wh0 p s) q) (hg:q.r.at_<(s.length:Int)) (hk:q.r.fail.kind=0) (hx:Aa8 q=x) (hx2:x.r.fail.kind≠0):Aev p s=x:=
 (h.next hg hk hx).1.stop (by simp[Ai9,Rj,hx2])
structure Akp where
 out:List Ev
 places:List Int
 at_:Int
theorem Aj5 (l:List Int) (hp1:((List.length l:Nat):Int)≤9223372036854775807):Fun Tryz.prog 9 [.c (.seq .u8 l)] [] (.v (vB (decide (1048576<((List.length l:Nat):Int))))) []:=by
 have hN:Bg=274877906944:=rfl
 refine Ar Tryz.func9 Q4 Q4 (w:=let z1:=vB (decide (1048576<((List.length l:Nat):Int)));(.leaf () [],(.v z1:S)= .v z1∧([]:List Blk)=[])) Q4 ?_
 exact⟨rfl,rfl⟩
theorem Aj6 {x y:Ev} (h:x.kind=y.kind∧x.field=y.field∧x.bits=y.bits∧x.len=y.len∧x.text=y.text∧x.code=y.code∧x.at_=y.at_):x=y:=by
 cases x;cases y;simp at h ⊢;exact h
theorem Aew {a b:List Ev} {i:Nat} {x y:Ev} (h:a.take i=b.take i) (hx:a[i]? =some x) (hy:b[i]? =some y) (e:x=y):a.take (i+1)=b.take (i+1):=by
 rw[List.take_add_one,List.take_add_one,h,hx,hy,e]
theorem Agn {a b:List Ev} {i:Nat} (h:a.take i=b.take i) (hl:a.length=b.length) (hi:a.length≤i):a=b:=by
 rwa [List.take_of_length_le hi,List.take_of_length_le (by omega)] at h
structure Kj where
 i:Nat
def Kk (a:List Ev) (b:List Ev):Fam:=⟨Kj,fun q1=>[(0,.v (.c (.seq .ev a))),(1,.v (.c (.seq .ev b))),(5,.v (vI ((q1.i:Nat):Int)))],fun _=>[],fun q1=>q1.i≤List.length a∧List.length a=List.length b∧List.take q1.i a=List.take q1.i b,fun q1=>List.length a-q1.i⟩
theorem Aex (a:List Ev) (b:List Ev) (hp1:List.length a≤Bg) (hp2:List.length b≤Bg):Fun Tryz.prog 15 [.c (.seq .ev a),.c (.seq .ev b)] [] (.v (vB (decide (a=b)))) []:=by
 have hN:Bg=274877906944:=rfl
 refine Ar Tryz.func15 Q4 Q4 (w:=let z3:=((List.length a:Nat):Int);let z4:=Kk a b;let z5:= !decide (z3=((List.length b:Nat):Int));let z6:=vB (decide (a=b));(.br (.leaf () []) (.seg [.at 0,.keep [0,1,5],.sel []] (.loop z4 fun q1=> .br (.intro (fun (x1:Ev)=>a[q1.i]? =some x1) fun x1=> .intro (fun (x2:Ev)=>b[q1.i]? =some x2) fun x2=> .seg [.ord (os 9 []) [],.el .ev x1,.el .ev x2] (.br (.leaf () []) (.seg [.as 16 (.v (vI (((q1.i:Nat):Int)+1))),.at 0,.keep [0,1,5],.sel []] (.next)))) (.leaf () []))),(z5=true→(.v (vB false):S)= .v z6∧([]:List Blk)=[])∧(z5=false→z4.Has [(0,.v (.c (.seq .ev a))),(1,.v (.c (.seq .ev b))),(5,.v (vI 0))] []∧∀q1,z4.inv q1→(let z2:=((q1.i:Nat):Int);((decide (z2<z3))=true→(∃(x1:Ev),a[q1.i]? =some x1)∧∀(x1:Ev),(a[q1.i]? =some x1)→((∃(x2:Ev),b[q1.i]? =some x2)∧∀(x2:Ev),(b[q1.i]? =some x2)→(let z1:= !(decide (x1.kind=x2.kind)&&(decide (x1.field=x2.field)&&(decide (x1.bits=x2.bits)&&(decide (x1.len=x2.len)&&(decide (x1.text=x2.text)&&(decide (x1.code=x2.code)&&decide (x1.at_=x2.at_)))))));(a[q1.i]? =some x1)∧((0:Int)≤z2)∧(a[q1.i]? =some x1)∧((0:Int)≤z2)∧(b[q1.i]? =some x2)∧((0:Int)≤z2)∧(b[q1.i]? =some x2)∧((0:Int)≤z2)∧(z1=true→(.v (vB false):S)= .v z6∧([]:List Blk)=[])∧(z1=false→((.v (vI (IntKind.i64.wrap (z2+1))):S)= .v (vI (z2+1)))∧z4.Nxt q1 [(0,.v (.c (.seq .ev a))),(1,.v (.c (.seq .ev b))),(5,.v (vI (z2+1)))] []))))∧((decide (z2<z3))=false→(.v (vB true):S)= .v z6∧([]:List Blk)=[]))))) Q4 ?_
 refine⟨fun h1=>have q1:=Ap h1;have p1:=of_decide_eq_false q1;?_,fun h1=>have q1:=Ao h1;have p1:=of_decide_eq_true q1;?_⟩
 refine⟨(sB ?_),rfl⟩
 rotate_left
 refine⟨Bk (j:=(⟨0⟩:Kj)) Q10 rfl (by dsimp only[Kk];exact⟨by omega,by omega,by simp⟩),fun (q1:Kj) hq_q1=>?_⟩
 have hi_q1:q1.i≤List.length a∧List.length a=List.length b∧List.take q1.i a=List.take q1.i b:=hq_q1
 obtain ⟨v1,v2,v3⟩:=hi_q1
 refine dsp (fun h2 p2=>?_) fun h2 p2=>?_
 refine⟨(Bm (l:=a) (i:=q1.i) Q2),fun x1 hx1=>?_⟩
 refine⟨(Bm (l:=b) (i:=q1.i) Q2),fun x2 hx2=>?_⟩
 refine⟨hx1,Q2,hx1,Q2,hx2,Q2,hx2,Q2,fun h3=>have q3:=Ap h3;have p3:=(Cd dT (Cd dT (Cd dT (Cd dT (Cd dT (Cd dT dF)))))).1 q3;?_,fun h3=>have q3:=Ao h3;have p3:=(Cc dT (Cc dT (Cc dT (Cc dT (Cc dT (Cc dT dT)))))).1 q3;?_⟩
 refine⟨(sB ?_),rfl⟩
 rotate_left
 exact⟨(Ae Q2 Q2),Bd (j:=(⟨q1.i+1⟩:Kj)) Q10 rfl (by dsimp only[Kk];exact⟨by omega,v2,Aew v3 hx1 hx2 (Aj6 p3)⟩) (by dsimp only[Kk];omega)⟩
 refine⟨(sB ?_),rfl⟩
 rotate_left
 all_goals first|(exact(decide_eq_true (Agn v3 v2 (by omega))).symm)|(exact(decide_eq_false (fun h=>by subst h;omega)).symm)|(exact(decide_eq_false (fun h=>by subst h;rw[hx1] at hx2;cases hx2;simp at p3)).symm)
structure Ga where
 i:Nat
def Hz (l:List Shp):Fam:=⟨Ga,fun q1=>[(2,.v (vP 0)),(3,.v (vP 1)),(5,.v (vI ((q1.i:Nat):Int)))],fun _=>[.cells [.seq .shp l],.cells [.seq .shp l]],fun q1=>q1.i≤List.length l,fun q1=>List.length l-q1.i⟩
structure H3 where
 k:Nat
def Gb (l:List Shp) (q1:Ga) (x1:Shp):Fam:=⟨H3,fun q2=>[(2,.v (vP 0)),(3,.v (vP 1)),(5,.v (vI ((q1.i:Nat):Int))),(6,.v (vP 2)),(7,.v (vP 3)),(8,.v (vI ((q2.k:Nat):Int)))],fun _=>[.cells [.seq .shp l],.cells [.seq .shp l],.cells (Ahj x1),.cells (Ahj x1)],fun q2=>q2.k≤List.length x1.fields,fun q2=>List.length x1.fields-q2.k⟩
theorem Acc (l:List Shp) (hp1:List.length l≤Bg) (hp2: ∀e∈l,List.length e.fields≤Bg):Fun Tryz.prog 67 [.agg [.seq .shp l],.agg [.seq .shp l]] [] (.v (vB true)) []:=by
 have hN:Bg=274877906944:=rfl
 refine Ar Tryz.func67 Q4 Q4 (w:=let z8:=((List.length l:Nat):Int);let z9:=Hz l;let z10:List Blk:=[.cells [.seq .shp l],.cells [.seq .shp l]];(.seg [.br false,.at 0,.keep [2,3,5],.sel [0,1]] (.loop z9 fun q1=> .br (.intro (fun (x1:Shp)=>l[q1.i]? =some x1) fun x1=> .seg [.el .shp x1,.el .shp x1,.br false,.br false,.at 0,.keep [2,3,5,6,7,8],.sel [0,1,2,3]] (.loop (Gb l q1 x1) fun q2=> .br (.intro (fun (x2:Fld)=>x1.fields[q2.k]? =some x2) fun x2=> .seg [.ord (os 11 []) [],.el .fld x2,.el .fld x2] (.br (.leaf () []) (.seg [.as 53 (.v (vI (((q2.k:Nat):Int)+1))),.at 0,.keep [2,3,5,6,7,8],.sel [0,1,2,3]] (.next)))) (.seg [.as 22 (.v (vI (((q1.i:Nat):Int)+1))),.at 0,.keep [2,3,5],.sel [0,1]] (.next)))) (.leaf () [])),((!decide (z8=z8))=false)∧z9.Has [(2,.v (vP 0)),(3,.v (vP 1)),(5,.v (vI 0))] z10∧∀q1,z9.inv q1→(let z7:=((q1.i:Nat):Int);((decide (z7<z8))=true→(∃(x1:Shp),l[q1.i]? =some x1)∧∀(x1:Shp),(l[q1.i]? =some x1)→(let z4:=((List.length x1.fields:Nat):Int);let z5:List Blk:=[.cells [.seq .shp l],.cells [.seq .shp l],.cells (Ahj x1),.cells (Ahj x1)];let z6:=Gb l q1 x1;(l[q1.i]? =some x1)∧((0:Int)≤z7)∧(l[q1.i]? =some x1)∧((0:Int)≤z7)∧((!decide (x1.id=x1.id))=false)∧((!decide (z4=z4))=false)∧z6.Has [(2,.v (vP 0)),(3,.v (vP 1)),(5,.v (vI z7)),(6,.v (vP 2)),(7,.v (vP 3)),(8,.v (vI 0))] z5∧∀q2,z6.inv q2→(let z3:=((q2.k:Nat):Int);((decide (z3<z4))=true→(∃(x2:Fld),x1.fields[q2.k]? =some x2)∧∀(x2:Fld),(x1.fields[q2.k]? =some x2)→(let z1:= !(decide (x2.number=x2.number)&&(decide (x2.kind=x2.kind)&&(decide (x2.rep=x2.rep)&&(decide (x2.packed=x2.packed)&&decide (x2.msg=x2.msg)))));let z2:=x1.fields[q2.k]? =some x2;z2∧((0:Int)≤z3)∧z2∧((0:Int)≤z3)∧z2∧((0:Int)≤z3)∧z2∧((0:Int)≤z3)∧(z1=true→(.v (vB false):S)= .v (vB true)∧([]:List Blk)=[])∧(z1=false→((.v (vI (IntKind.i64.wrap (z3+1))):S)= .v (vI (z3+1)))∧z6.Nxt q2 [(2,.v (vP 0)),(3,.v (vP 1)),(5,.v (vI z7)),(6,.v (vP 2)),(7,.v (vP 3)),(8,.v (vI (z3+1)))] z5)))∧((decide (z3<z4))=false→((.v (vI (IntKind.i64.wrap (z7+1))):S)= .v (vI (z7+1)))∧z9.Nxt q1 [(2,.v (vP 0)),(3,.v (vP 1)),(5,.v (vI (z7+1)))] z10))))∧((decide (z7<z8))=false→(.v (vB true):S)= .v (vB true)∧([]:List Blk)=[])))) Q4 ?_
 refine⟨Q75,Bk (j:=(⟨0⟩:Ga)) Q10 rfl (by dsimp only[Hz];omega),fun (q1:Ga) hq_q1=>?_⟩
 have hi_q1:q1.i≤List.length l:=hq_q1
 refine dsp (fun h1 p1=>?_) fun h1 p1=>?_
 refine⟨(Bm (l:=l) (i:=q1.i) Q2),fun x1 hx1=>?_⟩
 have hfx:=hp2 x1 (List.mem_of_getElem? hx1)
 refine⟨hx1,Q2,hx1,Q2,Q75,Q75,Bk (j:=(⟨0⟩:H3)) Q10 rfl (by dsimp only[Gb];omega),fun (q2:H3) hq_q2=>?_⟩
 have hi_q2:q2.k≤List.length x1.fields:=hq_q2
 refine dsp (fun h2 p2=>?_) fun h2 p2=>?_
 refine⟨(Bm (l:=x1.fields) (i:=q2.k) Q2),fun x2 hx2=>?_⟩
 refine⟨hx2,Q2,hx2,Q2,hx2,Q2,hx2,Q2,fun h3=>have q3:=Ap h3;have p3:=(Cd dT (Cd dT (Cd dT (Cd dT dF)))).1 q3;?_,fun h3=>have q3:=Ao h3;have p3:=(Cc dT (Cc dT (Cc dT (Cc dT dT)))).1 q3;?_⟩
 refine⟨(sB ?_),rfl⟩
 rotate_left
 exact⟨(Ae Q2 Q2),Bd (j:=(⟨q2.k+1⟩:H3)) Q10 rfl (by dsimp only[Gb];omega) (by dsimp only[Gb];omega)⟩
 exact⟨(Ae Q2 Q2),Bd (j:=(⟨q1.i+1⟩:Ga)) Q10 rfl (by dsimp only[Hz];omega) (by dsimp only[Hz];omega)⟩
 exact⟨rfl,rfl⟩
 all_goals first|(rfl)|((simp;done))|((exfalso;simp_all;done))
structure H4 where
 i:Nat
def H5 (d:Dcd):Fam:=⟨H4,fun q1=>[(2,.v (vP 0)),(3,.v (vP 1)),(5,.v (vI ((q1.i:Nat):Int)))],fun _=>[.cells (Bt d),.cells (Bt d)],fun q1=>q1.i≤List.length d.stack,fun q1=>List.length d.stack-q1.i⟩
theorem Acd (d:Dcd) (hp1:List.length (d).plan.shapes≤Bg) (hp2: ∀e∈(d).plan.shapes,List.length e.fields≤Bg) (hp3:List.length (d).stack≤Bg):Fun Tryz.prog 19 [.agg (Bt d),.agg (Bt d)] [] (.v (vB true)) []:=by
 have hN:Bg=274877906944:=rfl
 refine Ar Tryz.func19 Q4 Q4 (w:=let z4:=decide (d.field.number=d.field.number)&&(decide (d.field.kind=d.field.kind)&&(decide (d.field.rep=d.field.rep)&&(decide (d.field.packed=d.field.packed)&&decide (d.field.msg=d.field.msg))));let z5:=decide (d.utf.want=d.utf.want)&&(decide (d.utf.low=d.utf.low)&&decide (d.utf.high=d.utf.high));let z6:=((List.length d.stack:Nat):Int);let z7:=decide (d.scan.bits=d.scan.bits)&&decide (d.scan.have_=d.scan.have_);let z8:=(.v (vB false):S);let z9:=([]:List Blk);let z10:=H5 d;(.seg [.call [] (.v (vB true)) [],.br false,.br false,.br false,.br false,.br false,.at 0,.keep [2,3,5],.sel [0,1]] (.loop z10 fun q1=> .br (.intro (fun (x1:Lev)=>d.stack[q1.i]? =some x1) fun x1=> .seg [.ord (os 11 []) [],.el .lev x1,.el .lev x1] (.br (.leaf () []) (.seg [.as 56 (.v (vI (((q1.i:Nat):Int)+1))),.at 0,.keep [2,3,5],.sel [0,1]] (.next)))) (.seg [.br true] (.br (.seg [.br true,.br true] (.br (.seg [.br true,.br true] (.br (.leaf () []) (.leaf () []))) (.leaf () []))) (.leaf () [])))),(Fun Tryz.prog 67 [.agg [.seq .shp d.plan.shapes],.agg [.seq .shp d.plan.shapes]] [] (.v (vB true)) [])∧((!true)=false)∧((!decide (d.plan.root=d.plan.root))=false)∧((!decide (d.plan.deep=d.plan.deep))=false)∧((!decide (d.plan.most=d.plan.most))=false)∧((!decide (z6=z6))=false)∧z10.Has [(2,.v (vP 0)),(3,.v (vP 1)),(5,.v (vI 0))] [.cells (Bt d),.cells (Bt d)]∧∀q1,z10.inv q1→(let z3:=((q1.i:Nat):Int);((decide (z3<z6))=true→(∃(x1:Lev),d.stack[q1.i]? =some x1)∧∀(x1:Lev),(d.stack[q1.i]? =some x1)→(let z1:=d.stack[q1.i]? =some x1;let z2:= !(decide (x1.msg=x1.msg)&&decide (x1.left=x1.left));z1∧((0:Int)≤z3)∧z1∧((0:Int)≤z3)∧z1∧((0:Int)≤z3)∧z1∧((0:Int)≤z3)∧(z2=true→z8= .v (vB true)∧z9=[])∧(z2=false→((.v (vI (IntKind.i64.wrap (z3+1))):S)= .v (vI (z3+1)))∧z10.Nxt q1 [(2,.v (vP 0)),(3,.v (vP 1)),(5,.v (vI (z3+1)))] [.cells (Bt d),.cells (Bt d)])))∧((decide (z3<z6))=false→((decide (d.mode=d.mode))=true)∧(z7=true→((decide (d.start=d.start))=true)∧((decide (d.at_=d.at_))=true)∧(z4=true→((decide (d.wire=d.wire))=true)∧((decide (d.want=d.want))=true)∧(z5=true→(.v (vB (decide (d.end_.kind=d.end_.kind)&&(decide (d.end_.field=d.end_.field)&&(decide (d.end_.bits=d.end_.bits)&&(decide (d.end_.len=d.end_.len)&&(decide (d.end_.text=d.end_.text)&&(decide (d.end_.code=d.end_.code)&&decide (d.end_.at_=d.end_.at_)))))))):S)= .v (vB true)∧z9=[])∧(z5=false→z8= .v (vB true)∧z9=[]))∧(z4=false→z8= .v (vB true)∧z9=[]))∧(z7=false→z8= .v (vB true)∧z9=[]))))) Q4 ?_
 refine⟨(Acc d.plan.shapes Q2 (hp2)),Q24,Q75,Q75,Q75,Q75,Bk (j:=(⟨0⟩:H4)) Q10 rfl (by dsimp only[H5];omega),fun (q1:H4) hq_q1=>?_⟩
 have hi_q1:q1.i≤List.length d.stack:=hq_q1
 refine dsp (fun h1 p1=>?_) fun h1 p1=>?_
 refine⟨(Bm (l:=d.stack) (i:=q1.i) Q2),fun x1 hx1=>?_⟩
 refine⟨hx1,Q2,hx1,Q2,hx1,Q2,hx1,Q2,fun h2=>have q2:=Ap h2;have p2:=(Cd dT dF).1 q2;?_,fun h2=>have q2:=Ao h2;have p2:=(Cc dT dT).1 q2;?_⟩
 refine⟨(sB ?_),rfl⟩
 rotate_left
 exact⟨(Ae Q2 Q2),Bd (j:=(⟨q1.i+1⟩:H4)) Q10 rfl (by dsimp only[H5];omega) (by dsimp only[H5];omega)⟩
 refine⟨Q75,fun h2=>have p2:=(Cc dT dT).1 h2;?_,fun h2=>have p2:=(Cd dT dF).1 h2;?_⟩
 refine⟨Q75,Q75,fun h3=>have p3:=(Cc dT (Cc dT (Cc dT (Cc dT dT)))).1 h3;?_,fun h3=>have p3:=(Cd dT (Cd dT (Cd dT (Cd dT dF)))).1 h3;?_⟩
 refine⟨Q75,Q75,fun h4=>have p4:=(Cc dT (Cc dT dT)).1 h4;?_,fun h4=>have p4:=(Cd dT (Cd dT dF)).1 h4;?_⟩
 refine⟨(sB ?_),rfl⟩
 rotate_left
 refine⟨(sB ?_),rfl⟩
 rotate_left
 refine⟨(sB ?_),rfl⟩
 rotate_left
 refine⟨(sB ?_),rfl⟩
 rotate_left
 all_goals first|(rfl)|((simp;done))|((exfalso;simp_all;done))
theorem Rm (a:Dcd) (b:Dcd) (hp1:a=b) (hp2:List.length (a).plan.shapes≤Bg) (hp3: ∀e∈(a).plan.shapes,List.length e.fields≤Bg) (hp4:List.length (a).stack≤Bg):Fun Tryz.prog 19 [.agg (Bt a),.agg (Bt b)] [] (.v (vB true)) []:=by subst hp1;exact Acd a hp2 hp3 hp4
structure Cur where
 b:List Int
 i:Int
 h:Int
def Aw (c:Cur):Prop:=0≤c.i∧c.b.length≤1048576
def Ak (x:Cur):List C:=[.seq .u8 x.b,.int .i64 x.i,.int .i64 x.h]
structure K4 where
 x:Int
 c1:Cur
def Fz (c:Cur) (o:K4):Prop:=Fun Tryz.prog 104 [vP 0] [.cells (Ak c)] (.v (vI o.x)) [.cells (Ak o.c1)]
def Dt (c:Cur) (o:K4):Prop:=(((0:Int)≤o.x∧o.x≤255)∧(Aw o.c1))∧Fz c o
theorem Mb (c:Cur) (hp1:Aw c): ∃o:K4,Dt c o:=by
 have hN:Bg=274877906944:=rfl
 have hcb:=hp1.1
 have hcl:=hp1.2
 refine Bw Tryz.func104 Q4 Q4 (w:=let z5:=(IntKind.i64.wrap (c.h*6364136223846793005))+1442695040888963407;let z3:=IntKind.i64.wrap z5;let z8:=(.v (vI (Int.fdiv z3 (2 ^ 33))):S)= .v (vI (z3 / 8589934592));let z10:List Blk:=[.cells [.seq .u8 c.b,.int .i64 (c.i+1),.int .i64 z3]];let z11:=decide (c.i<((List.length c.b:Nat):Int));let z12:List Blk:=[.cells [.seq .u8 c.b,.int .i64 c.i,.int .i64 z3]];let z13:=z3 / 35184372088832;let z4:=IntKind.i64.wrap (((BitVec.ofInt 64 (z3 / 8589934592) ^^^ BitVec.ofInt 64 z13).toNat:Nat));let z7:=(.v (vI (Int.fdiv z3 (2 ^ 45))):S)= .v (vI z13);let z9:=z4 % 256;let z6:=(.v (vI (IntKind.i64.wrap (((BitVec.ofInt 64 z4&&&BitVec.ofInt 64 255).toNat:Nat)))):S)= .v (vI z9);(.seg [.ord (os 13 []) [],.as 17 (.v (vI (z3 / 8589934592))),.as 22 (.v (vI z13)),.as 24 (.v (vI z9)),.ord (os 10 []) []] (.br (.intro (fun (x1:Int)=>c.b[Int.toNat c.i]? =some x1) fun x1=>let z1:=IntKind.i64.wrap (z9+(IntKind.i64.wrap (x1)));.seg [.ord (os 15 []) [],.el .u8 x1,.as 48 (.v (vI (z1 % 256))),.as 54 (.v (vI (c.i+1)))] (.leaf (⟨z1 % 256,(⟨c.b,c.i+1,IntKind.i64.wrap z5⟩:Cur)⟩:K4) [0])) (.leaf (⟨z4 % 256,(⟨c.b,c.i,IntKind.i64.wrap z5⟩:Cur)⟩:K4) [0])),((0:Int)≤33)∧((0:Int)≤33)∧z8∧z8∧((0:Int)≤45)∧((0:Int)≤45)∧z7∧z7∧z6∧z6∧(z11=true→(∃(x1:Int),c.b[Int.toNat c.i]? =some x1)∧∀(x1:Int),(c.b[Int.toNat c.i]? =some x1)→(let z2:=IntKind.i64.wrap (z9+(IntKind.i64.wrap (x1)));(c.b[Int.toNat c.i]? =some x1)∧((0:Int)≤c.i)∧(c.b[Int.toNat c.i]? =some x1)∧((0:Int)≤c.i)∧((.v (vI (IntKind.i64.wrap (((BitVec.ofInt 64 z2&&&BitVec.ofInt 64 255).toNat:Nat)))):S)= .v (vI (z2 % 256)))∧((.v (vI (IntKind.i64.wrap (((BitVec.ofInt 64 z2&&&BitVec.ofInt 64 255).toNat:Nat)))):S)= .v (vI (z2 % 256)))∧((.v (vI (IntKind.i64.wrap (c.i+1))):S)= .v (vI (c.i+1)))∧(((0:Int)≤(z2 % 256)∧(z2 % 256)≤255)∧(Aw (⟨c.b,c.i+1,IntKind.i64.wrap z5⟩:Cur)))∧(.v (vI (z2 % 256)):S)= .v (vI (z2 % 256))∧(z10:List Blk)=z10))∧(z11=false→(((0:Int)≤z9∧z9≤255)∧(Aw (⟨c.b,c.i,IntKind.i64.wrap z5⟩:Cur)))∧(.v (vI z9):S)= .v (vI z9)∧(z12:List Blk)=z12))) Q4 ?_
 refine⟨Q24,Q24,(Vu (k:=33) Q24 Q24),(Vu (k:=33) Q24 Q24),Q24,Q24,(Vu (k:=45) Q24 Q24),(Vu (k:=45) Q24 Q24),(Fo (k:=8) Q24 Q24),(Fo (k:=8) Q24 Q24),dsp (fun h1 p1=>?_) fun h1 p1=>?_⟩
 refine⟨(Bm (l:=c.b) (i:=Int.toNat c.i) Q2),fun x1 hx1=>?_⟩
 exact⟨hx1,Q2,hx1,Q2,(Fo (k:=8) Q24 Q24),(Fo (k:=8) Q24 Q24),(Ae Q2 Q2),⟨Q2,Q0⟩,rfl,rfl⟩
 exact⟨⟨Q2,Q0⟩,rfl,rfl⟩
structure Cp where
 x:Int
 c1:Cur
def Ai (c:Cur) (n:Int) (o:Cp):Prop:=Fun Tryz.prog 46 [vP 0,vI n] [.cells (Ak c)] (.v (vI o.x)) [.cells (Ak o.c1)]
def Aa (c:Cur) (n:Int) (o:Cp):Prop:=(((0:Int)≤o.x)∧((1:Int)≤n→o.x<n)∧(n≤(0:Int)→o.x=(0:Int))∧(Aw o.c1))∧Ai c n o
theorem An (c:Cur) (n:Int) (hp1:Aw c): ∃o:Cp,Aa c n o:=by
 have hN:Bg=274877906944:=rfl
 refine Bw Tryz.func46 Q4 Q4 (w:=let z8:=Dt c;(.br (.leaf (⟨0,c⟩:Cp) [0]) (.br (.intro z8 fun o1=> .seg [.call [0] (.v (vI o1.x)) [.cells (Ak o1.c1)]] (.leaf (⟨Int.tmod o1.x n,o1.c1⟩:Cp) [0])) (.intro z8 fun o1=> .seg [.call [0] (.v (vI o1.x)) [.cells (Ak o1.c1)]] (.intro (Dt o1.c1) fun o2=>let z6:=(o1.x*16777216)+(o2.x*65536);.seg [.call [0] (.v (vI o2.x)) [.cells (Ak o2.c1)]] (.intro (Dt o2.c1) fun o3=>let z4:=z6+(o3.x*256);.seg [.call [0] (.v (vI o3.x)) [.cells (Ak o3.c1)]] (.intro (Dt o3.c1) fun o4=>let z2:=z4+o4.x;.seg [.call [0] (.v (vI o4.x)) [.cells (Ak o4.c1)],.as 26 (.v (vI (o1.x*16777216))),.as 28 (.v (vI (o2.x*65536))),.as 29 (.v (vI z6)),.as 31 (.v (vI (o3.x*256))),.as 32 (.v (vI z4)),.as 34 (.v (vI z2))] (.leaf (⟨Int.tmod z2 n,o4.c1⟩:Cp) [0])))))),((decide (n≤0))=true→(((0:Int)≤0)∧((1:Int)≤n→0<n)∧(n≤(0:Int)→0=(0:Int))∧(Aw c))∧(.v (vI 0):S)= .v (vI 0)∧([.cells (Ak c)]:List Blk)=[.cells (Ak c)])∧((decide (n≤0))=false→((decide (n≤256))=true→In z8 fun o1=>(let z1:=Int.tmod o1.x n;(Fz c o1)∧(n≠0)∧(((0:Int)≤z1)∧((1:Int)≤n→z1<n)∧(n≤(0:Int)→z1=(0:Int))∧(Aw o1.c1))∧(.v (vI z1):S)= .v (vI z1)∧([.cells (Ak o1.c1)]:List Blk)=[.cells (Ak o1.c1)]))∧((decide (n≤256))=false→In z8 fun o1=>((Fz c o1)∧In (Dt o1.c1) fun o2=>(let z7:=(o1.x*16777216)+(o2.x*65536);(Fz o1.c1 o2)∧In (Dt o2.c1) fun o3=>(let z5:=z7+(o3.x*256);(Fz o2.c1 o3)∧In (Dt o3.c1) fun o4=>(let z3:=z5+o4.x;(Fz o3.c1 o4)∧((.v (vI (IntKind.i64.wrap (o1.x*16777216))):S)= .v (vI (o1.x*16777216)))∧((.v (vI (IntKind.i64.wrap (o2.x*65536))):S)= .v (vI (o2.x*65536)))∧((.v (vI (IntKind.i64.wrap z7)):S)= .v (vI z7))∧((.v (vI (IntKind.i64.wrap (o3.x*256))):S)= .v (vI (o3.x*256)))∧((.v (vI (IntKind.i64.wrap z5)):S)= .v (vI z5))∧((.v (vI (IntKind.i64.wrap z3)):S)= .v (vI z3))∧(n≠0)∧(((0:Int)≤(Int.tmod z3 n))∧((1:Int)≤n→(Int.tmod z3 n)<n)∧(n≤(0:Int)→(Int.tmod z3 n)=(0:Int))∧(Aw o4.c1))∧(.v (vI (Int.tmod z3 n)):S)= .v (vI (Int.tmod z3 n))∧([.cells (Ak o4.c1)]:List Blk)=[.cells (Ak o4.c1)])))))))) Q4 ?_
 refine dsp (fun h1 p1=>?_) fun h1 p1=>?_
 exact⟨⟨Q2,Q2,Q2,Q0⟩,rfl,rfl⟩
 refine dsp (fun h2 p2=>?_) fun h2 p2=>?_
 refine⟨(Mb c Q0),fun o1 ho_o1=>?_⟩
 obtain ⟨⟨hp_o1_0,hp_o1_1⟩,hf_o1⟩:=ho_o1
 exact⟨hf_o1,Q2,⟨(by have:=T7 o1.x n;omega),(by have:=T7 o1.x n;omega),(by have:=T7 o1.x n;omega),Q0⟩,rfl,rfl⟩
 refine⟨(Mb c Q0),fun o1 ho_o1=>?_⟩
 obtain ⟨⟨hp_o1_0,hp_o1_1⟩,hf_o1⟩:=ho_o1
 refine⟨hf_o1,(Mb o1.c1 Q0),fun o2 ho_o2=>?_⟩
 obtain ⟨⟨hp_o2_0,hp_o2_1⟩,hf_o2⟩:=ho_o2
 refine⟨hf_o2,(Mb o2.c1 Q0),fun o3 ho_o3=>?_⟩
 obtain ⟨⟨hp_o3_0,hp_o3_1⟩,hf_o3⟩:=ho_o3
 refine⟨hf_o3,(Mb o3.c1 Q0),fun o4 ho_o4=>?_⟩
 obtain ⟨⟨hp_o4_0,hp_o4_1⟩,hf_o4⟩:=ho_o4
 exact⟨hf_o4,(Ae Q2 Q2),(Ae Q2 Q2),(Ae Q2 Q2),(Ae Q2 Q2),(Ae Q2 Q2),(Ae Q2 Q2),Q2,⟨Q62,Q62,Q62,Q0⟩,rfl,rfl⟩
structure Pc where
 p:Bool
 c1:Cur
def Bf (c:Cur) (n:Int) (o:Pc):Prop:=Fun Tryz.prog 44 [vP 0,vI n] [.cells (Ak c)] (.v (vB o.p)) [.cells (Ak o.c1)]
def Aq (c:Cur) (n:Int) (o:Pc):Prop:=((Aw o.c1))∧Bf c n o
theorem Bx (c:Cur) (n:Int) (hp1:Aw c): ∃o:Pc,Aq c n o:=by
 have hN:Bg=274877906944:=rfl
 refine Bw Tryz.func44 Q4 Q4 (w:=(.intro (Aa c n) fun o1=> .seg [.call [0] (.v (vI o1.x)) [.cells (Ak o1.c1)]] (.leaf (⟨decide (o1.x=0),o1.c1⟩:Pc) [0]),In (Aa c n) fun o1=>((Ai c n o1)∧((Aw o1.c1))∧(.v (vB (decide (o1.x=0))):S)= .v (vB (decide (o1.x=0)))∧([.cells (Ak o1.c1)]:List Blk)=[.cells (Ak o1.c1)]))) Q4 ?_
 refine⟨(An c n Q0),fun o1 ho_o1=>?_⟩
 obtain ⟨⟨hp_o1_0,hp_o1_1,hp_o1_2,hp_o1_3⟩,hf_o1⟩:=ho_o1
 exact⟨hf_o1,Q0,rfl,rfl⟩
structure H6 where
 x:Int
 c1:Cur
def B9 (c:Cur) (l:List Int) (o:H6):Prop:=Fun Tryz.prog 113 [vP 0,.c (.seq .int l)] [.cells (Ak c)] (.v (vI o.x)) [.cells (Ak o.c1)]
def Bb (c:Cur) (l:List Int) (o:H6):Prop:=((o.x∈l)∧(Aw o.c1))∧B9 c l o
theorem C4 (c:Cur) (l:List Int) (hp1:Aw c) (hp2:1≤List.length l) (hp3:List.length l≤1000): ∃o:H6,Bb c l o:=by
 have hN:Bg=274877906944:=rfl
 refine Bw Tryz.func113 Q4 Q4 (w:=let z1:=((List.length l:Nat):Int);(.intro (Aa c z1) fun o1=> .seg [.call [0] (.v (vI o1.x)) [.cells (Ak o1.c1)]] (.intro (fun (x1:Int)=>l[Int.toNat o1.x]? =some x1) fun x1=> .seg [.el .int x1] (.leaf (⟨x1,o1.c1⟩:H6) [0])),In (Aa c z1) fun o1=>((Ai c z1 o1)∧(∃(x1:Int),l[Int.toNat o1.x]? =some x1)∧∀(x1:Int),(l[Int.toNat o1.x]? =some x1)→((l[Int.toNat o1.x]? =some x1)∧((0:Int)≤o1.x)∧((x1∈l)∧(Aw o1.c1))∧(.v (vI x1):S)= .v (vI x1)∧([.cells (Ak o1.c1)]:List Blk)=[.cells (Ak o1.c1)])))) Q4 ?_
 refine⟨(An c ((List.length l:Nat):Int) Q0),fun o1 ho_o1=>?_⟩
 obtain ⟨⟨hp_o1_0,hp_o1_1,hp_o1_2,hp_o1_3⟩,hf_o1⟩:=ho_o1
 refine⟨hf_o1,(Bm (l:=l) (i:=Int.toNat o1.x) Q2),fun x1 hx1=>?_⟩
 exact⟨hx1,Q2,⟨(List.mem_of_getElem? hx1),Q0⟩,rfl,rfl⟩
structure Gt where
 x:Int
 c1:Cur
def Qa (c:Cur) (o:Gt):Prop:=Fun Tryz.prog 169 [vP 0] [.cells (Ak c)] (.v (vI o.x)) [.cells (Ak o.c1)]
def Ju (c:Cur) (o:Gt):Prop:=((Aw o.c1))∧Qa c o
theorem Ym (c:Cur) (hp1:Aw c): ∃o:Gt,Ju c o:=by
 have hN:Bg=274877906944:=rfl
 refine Bw Tryz.func169 Q4 Q4 (w:=let z2:= -9223372036854775808;(.intro (Aa c 3) fun o1=> .seg [.call [0] (.v (vI o1.x)) [.cells (Ak o1.c1)]] (.br (.seg [.ty .int,.pubS 8] (.intro (Bb o1.c1 [0,1,(-1),9,10,127,128,999999999,1000000000,9223372036854775807,z2]) fun o2=> .seg [.call [0] (.v (vI o2.x)) [.cells (Ak o2.c1)]] (.leaf (⟨o2.x,o2.c1⟩:Gt) [0]))) (.br (.intro (Aa o1.c1 1000000) fun o2=> .seg [.call [0] (.v (vI o2.x)) [.cells (Ak o2.c1)],.as 14 (.v (vI (o2.x-500000)))] (.leaf (⟨o2.x-500000,o2.c1⟩:Gt) [0])) (.intro (Aa o1.c1 20) fun o2=> .seg [.call [0] (.v (vI o2.x)) [.cells (Ak o2.c1)]] (.leaf (⟨o2.x,o2.c1⟩:Gt) [0])))),In (Aa c 3) fun o1=>((Ai c 3 o1)∧((decide (o1.x=0))=true→In (Bb o1.c1 [0,1,(-1),9,10,127,128,999999999,1000000000,9223372036854775807,z2]) fun o2=>((B9 o1.c1 [0,1,(-1),9,10,127,128,999999999,1000000000,9223372036854775807,z2] o2)∧((Aw o2.c1))∧(.v (vI o2.x):S)= .v (vI o2.x)∧([.cells (Ak o2.c1)]:List Blk)=[.cells (Ak o2.c1)]))∧((decide (o1.x=0))=false→((decide (o1.x=1))=true→In (Aa o1.c1 1000000) fun o2=>(let z1:=o2.x-500000;(Ai o1.c1 1000000 o2)∧((.v (vI (IntKind.i64.wrap z1)):S)= .v (vI z1))∧((Aw o2.c1))∧(.v (vI z1):S)= .v (vI z1)∧([.cells (Ak o2.c1)]:List Blk)=[.cells (Ak o2.c1)]))∧((decide (o1.x=1))=false→In (Aa o1.c1 20) fun o2=>((Ai o1.c1 20 o2)∧((Aw o2.c1))∧(.v (vI o2.x):S)= .v (vI o2.x)∧([.cells (Ak o2.c1)]:List Blk)=[.cells (Ak o2.c1)])))))) Q4 ?_
 refine⟨(An c 3 Q0),fun o1 ho_o1=>?_⟩
 obtain ⟨⟨hp_o1_0,hp_o1_1,hp_o1_2,hp_o1_3⟩,hf_o1⟩:=ho_o1
 refine⟨hf_o1,dsp (fun h1 p1=>?_) fun h1 p1=>?_⟩
 refine⟨(C4 o1.c1 [0,1,(-1),9,10,127,128,999999999,1000000000,9223372036854775807,(-9223372036854775808)] Q0 Q6 Q6),fun o2 ho_o2=>?_⟩
 obtain ⟨⟨hp_o2_0,hp_o2_1⟩,hf_o2⟩:=ho_o2
 exact⟨hf_o2,Q0,rfl,rfl⟩
 refine dsp (fun h2 p2=>?_) fun h2 p2=>?_
 refine⟨(An o1.c1 1000000 Q0),fun o2 ho_o2=>?_⟩
 obtain ⟨⟨hp_o2_0,hp_o2_1,hp_o2_2,hp_o2_3⟩,hf_o2⟩:=ho_o2
 exact⟨hf_o2,(Ae Q2 Q2),Q0,rfl,rfl⟩
 refine⟨(An o1.c1 20 Q0),fun o2 ho_o2=>?_⟩
 obtain ⟨⟨hp_o2_0,hp_o2_1,hp_o2_2,hp_o2_3⟩,hf_o2⟩:=ho_o2
 exact⟨hf_o2,Q0,rfl,rfl⟩
structure Ns where
 c1:Cur
def Yn (b:List Int) (o:Ns):Prop:=Fun Tryz.prog 51 [.c (.seq .u8 b)] [] (.v (vP 0)) [.cells (Ak o.c1)]
def Ut (b:List Int) (o:Ns):Prop:=((Aw o.c1))∧Yn b o
structure Pd where
 h:Int
 i:Nat
def Pe (b:List Int):Fam:=⟨Pd,fun q1=>[(0,.v (.c (.seq .u8 b))),(3,.v (vI q1.h)),(4,.v (vI ((q1.i:Nat):Int)))],fun _=>[],fun q1=>q1.i≤List.length b∧(0:Int)≤q1.h∧q1.h≤1073741823,fun q1=>List.length b-q1.i⟩
theorem Aip (b:List Int) (hp1:List.length b≤1048576): ∃o:Ns,Ut b o:=by
 have hN:Bg=274877906944:=rfl
 refine Bw Tryz.func51 Q4 Q4 (w:=let z4:=((List.length b:Nat):Int);let z5:=Pe b;(.seg [.as 7 (.v (vI (28433+z4))),.at 0,.keep [0,3,4],.sel []] (.loop z5 fun q1=> .br (.br (.seg [.as 19 (.v (vI (q1.h*131)))] (.intro (fun (x1:Int)=>b[q1.i]? =some x1) fun x1=> .seg [.el .u8 x1,.as 27 (.v (vI ((IntKind.i64.wrap ((IntKind.i64.wrap ((q1.h*131)+(IntKind.i64.wrap (x1))))+7)) % 1073741824))),.as 17 (.v (vI (((q1.i:Nat):Int)+1))),.at 0,.keep [0,3,4],.sel []] (.next))) (.leaf (⟨(⟨b,0,q1.h⟩:Cur)⟩:Ns) [0])) (.leaf (⟨(⟨b,0,q1.h⟩:Cur)⟩:Ns) [0])),((.v (vI (IntKind.i64.wrap (28433+z4))):S)= .v (vI (28433+z4)))∧z5.Has [(0,.v (.c (.seq .u8 b))),(3,.v (vI (28433+z4))),(4,.v (vI 0))] []∧∀q1,z5.inv q1→(let z2:List Blk:=[.cells [.seq .u8 b,.int .i64 0,.int .i64 q1.h]];let z3:=((q1.i:Nat):Int);((decide (z3<z4))=true→((decide (z3<4000))=true→((.v (vI (IntKind.i64.wrap (q1.h*131))):S)= .v (vI (q1.h*131)))∧(∃(x1:Int),b[q1.i]? =some x1)∧∀(x1:Int),(b[q1.i]? =some x1)→(let z1:=IntKind.i64.wrap ((IntKind.i64.wrap ((q1.h*131)+(IntKind.i64.wrap (x1))))+7);(b[q1.i]? =some x1)∧((0:Int)≤z3)∧((.v (vI (IntKind.i64.wrap (((BitVec.ofInt 64 z1&&&BitVec.ofInt 64 1073741823).toNat:Nat)))):S)= .v (vI (z1 % 1073741824)))∧((.v (vI (IntKind.i64.wrap (z3+1))):S)= .v (vI (z3+1)))∧z5.Nxt q1 [(0,.v (.c (.seq .u8 b))),(3,.v (vI (z1 % 1073741824))),(4,.v (vI (z3+1)))] []))∧((decide (z3<4000))=false→((Aw (⟨b,0,q1.h⟩:Cur)))∧(.v (vP 0):S)= .v (vP 0)∧(z2:List Blk)=z2))∧((decide (z3<z4))=false→((Aw (⟨b,0,q1.h⟩:Cur)))∧(.v (vP 0):S)= .v (vP 0)∧(z2:List Blk)=z2)))) Q4 ?_
 refine⟨(Ae Q2 Q2),Bk (j:=(⟨28433+((List.length b:Nat):Int),0⟩:Pd)) Q10 rfl (by dsimp only[Pe];exact⟨by omega,by omega,by omega⟩),fun (q1:Pd) hq_q1=>?_⟩
 have hi_q1:q1.i≤List.length b∧(0:Int)≤q1.h∧q1.h≤1073741823:=hq_q1
 obtain ⟨v1,v2,v3⟩:=hi_q1
 refine dsp (fun h1 p1=>?_) fun h1 p1=>?_
 refine dsp (fun h2 p2=>?_) fun h2 p2=>?_
 refine⟨(Ae Q2 Q2),(Bm (l:=b) (i:=q1.i) Q2),fun x1 hx1=>?_⟩
 exact⟨hx1,Q2,(Fo (k:=30) Q24 Q24),(Ae Q2 Q2),Bd (j:=(⟨(IntKind.i64.wrap ((IntKind.i64.wrap ((q1.h*131)+(IntKind.i64.wrap (x1))))+7)) % 1073741824,q1.i+1⟩:Pd)) Q10 rfl (by dsimp only[Pe];exact⟨by omega,by omega,by omega⟩) (by dsimp only[Pe];omega)⟩
 exact⟨(⟨by dsimp only;omega,hp1⟩),rfl,rfl⟩
 exact⟨(⟨by dsimp only;omega,hp1⟩),rfl,rfl⟩
structure Mc where
 l:List Int
 c1:Cur
def Ch (c:Cur) (n:Int) (o:Mc):Prop:=Fun Tryz.prog 89 [vP 0,vI n] [.cells (Ak c)] (.v (vO 1)) [.cells (Ak o.c1),.lst .u8 o.l]
def Bh (c:Cur) (n:Int) (o:Mc):Prop:=((List.length o.l≤Int.toNat n)∧(Aw o.c1))∧Ch c n o
structure Km where
 c:Cur
 b:List Int
 i:Nat
def Kn (n:Int):Fam:=⟨Km,fun q1=>[(0,.v (vP 0)),(1,.v (vI n)),(5,.v (vO 1)),(6,.v (vI ((q1.i:Nat):Int)))],fun q1=>[.cells (Ak q1.c),.lst .u8 q1.b],fun q1=>Aw q1.c∧List.length q1.b=q1.i∧(q1.i=0∨((q1.i:Nat):Int)≤n),fun q1=>Int.toNat n-q1.i⟩
theorem Dm (c:Cur) (n:Int) (hp1:Aw c) (hp2:n≤100000): ∃o:Mc,Bh c n o:=by
 have hN:Bg=274877906944:=rfl
 refine Bw Tryz.func89 Q4 Q4 (w:=let z2:=Kn n;(.seg [.ty .u8,.at 0,.keep [0,1,5,6],.sel [0,1]] (.loop z2 fun q1=> .br (.intro (Dt q1.c) fun o1=> .seg [.call [0] (.v (vI o1.x)) [.cells (Ak o1.c1)],.as 16 (.v (.c (.int .u8 o1.x))),.ty .u8,.ty .u8,.as 12 (.v (vI (((q1.i:Nat):Int)+1))),.at 0,.keep [0,1,5,6],.sel [0,3]] (.next)) (.leaf (⟨q1.b,q1.c⟩:Mc) [0,1])),z2.Has [(0,.v (vP 0)),(1,.v (vI n)),(5,.v (vO 1)),(6,.v (vI 0))] [.cells (Ak c),.lst .u8 ([]:List Int)]∧∀q1,z2.inv q1→(let z1:=((q1.i:Nat):Int);((decide (z1<n))=true→In (Dt q1.c) fun o1=>((Fz q1.c o1)∧((.v (.c (.int .u8 (IntKind.u8.wrap (o1.x)))):S)= .v (.c (.int .u8 o1.x)))∧(List.length q1.b+List.length [o1.x]≤Bg)∧((.v (vI (IntKind.i64.wrap (z1+1))):S)= .v (vI (z1+1)))∧z2.Nxt q1 [(0,.v (vP 0)),(1,.v (vI n)),(5,.v (vO 1)),(6,.v (vI (z1+1)))] [.cells (Ak o1.c1),.lst .u8 (q1.b++[o1.x])]))∧((decide (z1<n))=false→((List.length q1.b≤Int.toNat n)∧(Aw q1.c))∧(.v (vO 1):S)= .v (vO 1)∧([.cells (Ak q1.c),.lst .u8 q1.b]:List Blk)=[.cells (Ak q1.c),.lst .u8 q1.b])))) Q4 ?_
 refine⟨Bk (j:=(⟨c,([]:List Int),0⟩:Km)) Q10 rfl (by dsimp only[Kn];exact⟨hp1,rfl,.inl rfl⟩),fun (q1:Km) hq_q1=>?_⟩
 have hi_q1:Aw q1.c∧List.length q1.b=q1.i∧(q1.i=0∨((q1.i:Nat):Int)≤n):=hq_q1
 obtain ⟨v1,v2,v3⟩:=hi_q1
 refine dsp (fun h1 p1=>?_) fun h1 p1=>?_
 refine⟨(Mb q1.c Q0),fun o1 ho_o1=>?_⟩
 obtain ⟨⟨hp_o1_0,hp_o1_1⟩,hf_o1⟩:=ho_o1
 exact⟨hf_o1,(Kx Q2 Q2),Q6,(Ae Q2 Q2),Bd (j:=(⟨o1.c1,q1.b++[o1.x],q1.i+1⟩:Km)) Q10 rfl (by dsimp only[Kn];exact⟨by assumption,by simp;omega,by omega⟩) (by dsimp only[Kn];omega)⟩
 exact⟨⟨Q2,Q0⟩,rfl,rfl⟩
structure Raw where
 msgs:List Shp
structure Vio where
 code:Int
 msg:Int
 field:Int
structure Ak6 (ids:List Int) (f:Fld):Prop where
 num:Dc f.number=true
 kd:1≤f.kind∧f.kind≤8
 pk:f.packed=true→f.rep=true∧f.kind≤5
 ref:f.kind=8→f.msg∈ids
 no:f.kind≠8→f.msg=0
def Afp (fs:List Fld):List Int:=fs.map fun f=>f.number
def Gc (l:List Shp):List Int:=l.map fun m=>m.id
def Nt (l:List Shp) (id:Int):Bool:=l.any fun m=>decide (m.id=id)
def Cu (l:List Fld) (n:Int):Bool:=l.any fun f=>decide (f.number=n)
structure FldsG (ids:List Int) (fs:List Fld):Prop where
 len:fs.length≤5
 num:(Afp fs).Nodup
 all: ∀f∈fs,Ak6 ids f
structure RawK (n:Nat) (l:List Shp):Prop where
 len:l.length=n
 pos:1≤n∧n≤3
 ids:Gc l=[5,1,99].take n
 flds: ∀m∈l,FldsG (Gc l) m.fields
theorem Aa9 {l:List Fld} {n:Int} :Cu l n=false↔∀f∈l,f.number≠n:=by
 simp[Cu]
theorem Zz {l:List Shp} {x:Int} :Nt l x=true↔x∈Gc l:=by
 simp[Nt,Gc]
theorem Wa {l:List Int} (h:l.Nodup) {i:Nat} {x:Int} (hx:l[i]? =some x):x ∉ l.take i:=by
 intro hm
 obtain ⟨j,hj,he⟩:=List.mem_take_iff_getElem.1 hm
 have hi:=(List.getElem?_eq_some_iff.1 hx)
 obtain ⟨hi1,hi2⟩:=hi
 exact List.pairwise_iff_getElem.1 h j i Q2 hi1 Q2 (by rw[hi2,he])
theorem RawK.nodup {n:Nat} {l:List Shp} (h:RawK n l):(Gc l).Nodup:=by
 rw[h.ids]
 have h2:=h.pos
 have:n=1∨n=2∨n=3:=by omega
 rcases this with rfl|rfl|rfl<;>decide
theorem RawK.noId {n:Nat} {l:List Shp} (h:RawK n l) {i:Nat} {m:Shp} (hm:l[i]? =some m):Nt (l.take i) m.id=false:=by
 cases hc:Nt (l.take i) m.id with
 |false=>rfl
 |true=>
  have:=Zz.1 hc
  unfold Gc at this
  rw[List.map_take] at this
  exact absurd this (Wa (l:=Gc l) h.nodup (by unfold Gc;rw[List.getElem?_map,hm];rfl))
theorem FldsG.noNum {ids:List Int} {fs:List Fld} (h:FldsG ids fs) {i:Nat} {f:Fld} (hf:fs[i]? =some f):Cu (fs.take i) f.number=false:=by
 rw[Aa9]
 intro g hg he
 have:f.number∈(Afp fs).take i:=by
  unfold Afp
  rw[←List.map_take]
  exact List.mem_map.2 ⟨g,hg,he⟩
 exact absurd this (Wa (l:=Afp fs) h.num (by unfold Afp;rw[List.getElem?_map,hf];rfl))
theorem RawK.id_ok {n:Nat} {l:List Shp} (h:RawK n l) {m:Shp} (hm:m∈l):1≤m.id∧m.id≤99:=by
 have hx:m.id∈Gc l:=List.mem_map.2 ⟨m,hm,rfl⟩
 rw[h.ids] at hx
 have:=List.mem_of_mem_take hx
 simp at this
 omega
theorem Aey {l:List Shp} {i:Nat} {m:Shp} {fs:List Fld} (h:l[i]? =some m):Gc (l.set i ⟨m.id,fs⟩)=Gc l:=by
 unfold Gc
 apply List.ext_getElem?
 intro j
 rw[List.getElem?_map,List.getElem?_map,List.getElem?_set]
 split
 ·rename_i hij
  subst hij
  have hl:=(List.getElem?_eq_some_iff.1 h).1
  rw[if_pos hl,h]
  rfl
 ·rfl
theorem Ago (fs:List Fld) (f:Fld):Afp (fs++[f])=Afp fs++[f.number]:=by simp[Afp]
theorem RawK.add {n:Nat} {l:List Shp} (h:RawK n l) {i:Nat} {m:Shp} {f:Fld} (hm:l[i]? =some m) (hf:Ak6 (Gc l) f) (hn:Cu m.fields f.number=false) (hk:m.fields.length≤4):RawK n (l.set i ⟨m.id,m.fields++[f]⟩):=by
 have hM:=h.flds m (List.mem_of_getElem? hm)
 refine⟨by rw[List.length_set];exact h.len,h.pos,by rw[Aey hm];exact h.ids,fun x hx=>?_⟩
 rw[Aey hm]
 rcases List.mem_or_eq_of_mem_set hx with hx|rfl
 ·exact h.flds x hx
 ·refine⟨by rw[List.length_append];simp;omega,?_,fun g hg=>?_⟩
  ·show (Afp (m.fields++[f])).Nodup
   rw[Ago,List.nodup_append]
   refine⟨hM.num,by simp,fun a ha b hb=>?_⟩
   simp at hb
   subst hb
   intro e
   subst e
   obtain ⟨g,hg,he⟩:=List.mem_map.1 ha
   exact Aa9.1 hn g hg he
  ·rcases List.mem_append.1 hg with hg|hg
   ·exact hM.all g hg
   ·simp at hg;subst hg;exact hf
def Tj (l:List Shp) (id:Int):Nat:=(l.filter fun m=>decide (m.id<id)).length
theorem Yo {l:List Shp} {i:Nat} {m:Shp} {id:Int} (h:l[i]? =some m):Tj (l.take (i+1)) id=Tj (l.take i) id+(if m.id<id then 1 else 0):=by
 have ht:l.take (i+1)=l.take i++[m]:=by rw[List.take_add_one,h];rfl
 unfold Tj
 rw[ht,List.filter_append,List.length_append]
 split<;>simp[*]
theorem Aiq (l:List Shp) (id:Int):Tj l id≤l.length:=List.length_filter_le _ _
theorem Aez {l:List Shp} {id:Int} (h:id∈Gc l):Tj l id<l.length:=by
 obtain ⟨m,hm,rfl⟩:=List.mem_map.1 h
 unfold Tj
 rcases Nat.lt_or_ge (l.filter fun x=>decide (x.id<m.id)).length l.length with h|h
 ·exact h
 ·have:=List.length_filter_eq_length_iff.1 (Nat.le_antisymm (List.length_filter_le _ _) h) m hm
  simp at this
def Aht (n:Nat) (fs:List Fld):Prop:=fs.length≤5∧∀f∈fs,1≤f.kind∧f.kind≤8∧(f.kind=8→0≤f.msg∧f.msg<(n:Int))
def SchG (l:List Shp):Prop:=(1≤l.length∧l.length≤3)∧∀e∈l,Aht l.length e.fields
structure PlnG (p:Pln):Prop where
 sch:SchG p.shapes
 root:0≤p.root∧p.root<(p.shapes.length:Int)
 deep:1≤p.deep∧p.deep≤4
 most:0≤p.most∧p.most≤2000
def Amc (p:Pln):Prop:=p.shapes.length≤7∧∀e∈p.shapes,e.fields.length≤6
theorem PlnG.b {p:Pln} (h:PlnG p):Amc p:=⟨by have:=h.sch.1;omega,fun e he=>by have:=(h.sch.2 e he).1;omega⟩
theorem Yp {α:Type} {l:List α} {i:Nat} {x:α} (h:l[i]? =some x):l.take (i+1)=l.take i++[x]:=by rw[List.take_add_one,h];rfl
theorem Ace {l:List Shp} {i:Nat} {m:Shp} {id:Int} (h:l[i]? =some m):Nt (l.take (i+1)) id=(Nt (l.take i) id||decide (m.id=id)):=by
 rw[Yp h];simp[Nt]
theorem Z0 {l:List Fld} {i:Nat} {f:Fld} {n:Int} (h:l[i]? =some f):Cu (l.take (i+1)) n=(Cu (l.take i) n||decide (f.number=n)):=by
 rw[Yp h];simp[Cu]
theorem Acf {l:List Shp} {i:Nat} {m:Shp} {id:Int} {k:Nat} (h:l[i]? =some m) (hi:i<k) (he:m.id=id):Nt (l.take k) id=true:=by
 rw[Nt,List.any_eq_true]
 exact⟨m,List.mem_of_getElem? (by rw[List.getElem?_take,if_pos hi];exact h),by simpa using he⟩
theorem Z1 {l:List Fld} {i:Nat} {f:Fld} {n:Int} (h:l[i]? =some f) (he:f.number=n):Cu l n=true:=by
 rw[Cu,List.any_eq_true]
 exact⟨f,List.mem_of_getElem? h,by simpa using he⟩
structure Pf where
 i:Nat
def Pg (r:Raw) (id:Int) (n:Int):Fam:=⟨Pf,fun q1=>[(1,.v (vI id)),(2,.v (vI n)),(3,.v (vP 0)),(7,.v (vI ((q1.i:Nat):Int)))],fun _=>[.cells [.seq .shp r.msgs]],fun q1=>((q1.i:Nat):Int)≤n∧Nt (List.take q1.i r.msgs) id=false,fun q1=>Int.toNat n-q1.i⟩
theorem Z2 (r:Raw) (id:Int) (n:Int) (hp1:(0:Int)≤n∧n≤((List.length (r).msgs:Nat):Int)) (hp2:List.length (r).msgs≤1000):Fun Tryz.prog 224 [.agg [.seq .shp r.msgs],vI id,vI n] [] (.v (vB (Nt (List.take (Int.toNat n) (r).msgs) id))) []:=by
 have hN:Bg=274877906944:=rfl
 refine Ar Tryz.func224 Q4 Q4 (w:=let z2:=Pg r id n;let z3:=vB (Nt (List.take (Int.toNat n) (r).msgs) id);(.seg [.at 0,.keep [1,2,3,7],.sel [0]] (.loop z2 fun q1=> .br (.intro (fun (x1:Shp)=>r.msgs[q1.i]? =some x1) fun x1=> .seg [.el .shp x1] (.br (.leaf () []) (.seg [.as 12 (.v (vI (((q1.i:Nat):Int)+1))),.at 0,.keep [1,2,3,7],.sel [0]] (.next)))) (.leaf () [])),z2.Has [(1,.v (vI id)),(2,.v (vI n)),(3,.v (vP 0)),(7,.v (vI 0))] [.cells [.seq .shp r.msgs]]∧∀q1,z2.inv q1→(let z1:=((q1.i:Nat):Int);((decide (z1<n))=true→(∃(x1:Shp),r.msgs[q1.i]? =some x1)∧∀(x1:Shp),(r.msgs[q1.i]? =some x1)→((r.msgs[q1.i]? =some x1)∧((0:Int)≤z1)∧((decide (x1.id=id))=true→(.v (vB true):S)= .v z3∧([]:List Blk)=[])∧((decide (x1.id=id))=false→((.v (vI (IntKind.i64.wrap (z1+1))):S)= .v (vI (z1+1)))∧z2.Nxt q1 [(1,.v (vI id)),(2,.v (vI n)),(3,.v (vP 0)),(7,.v (vI (z1+1)))] [.cells [.seq .shp r.msgs]])))∧((decide (z1<n))=false→(.v (vB false):S)= .v z3∧([]:List Blk)=[])))) Q4 ?_
 refine⟨Bk (j:=(⟨0⟩:Pf)) Q10 rfl (by dsimp only[Pg];exact⟨by omega,rfl⟩),fun (q1:Pf) hq_q1=>?_⟩
 have hi_q1:((q1.i:Nat):Int)≤n∧Nt (List.take q1.i r.msgs) id=false:=hq_q1
 obtain ⟨v1,v2⟩:=hi_q1
 refine dsp (fun h1 p1=>?_) fun h1 p1=>?_
 refine⟨(Bm (l:=r.msgs) (i:=q1.i) Q2),fun x1 hx1=>?_⟩
 refine⟨hx1,Q2,dsp (fun h2 p2=>?_) fun h2 p2=>?_⟩
 refine⟨(sB ?_),rfl⟩
 rotate_left
 exact⟨(Ae Q2 Q2),Bd (j:=(⟨q1.i+1⟩:Pf)) Q10 rfl (by dsimp only[Pg];exact⟨by omega,by rw[Ace hx1,v2];simpa using by assumption⟩) (by dsimp only[Pg];omega)⟩
 have hin:Int.toNat n=q1.i:=by omega
 refine⟨(sB ?_),rfl⟩
 rotate_left
 all_goals first|((rw[hin,v2];done))|((rw[Acf hx1 (by omega) (by assumption)];done))|(grind)
structure Md where
 i:Nat
def Me (l:List Fld) (n:Int):Fam:=⟨Md,fun q1=>[(0,.v (.c (.seq .fld l))),(1,.v (vI n)),(5,.v (vI ((q1.i:Nat):Int)))],fun _=>[],fun q1=>q1.i≤List.length l∧Cu (List.take q1.i l) n=false,fun q1=>List.length l-q1.i⟩
theorem Fb (l:List Fld) (n:Int) (hp1:List.length l≤1000):Fun Tryz.prog 212 [.c (.seq .fld l),vI n] [] (.v (vB (Cu l n))) []:=by
 have hN:Bg=274877906944:=rfl
 refine Ar Tryz.func212 Q4 Q4 (w:=let z2:=Me l n;(.seg [.at 0,.keep [0,1,5],.sel []] (.loop z2 fun q1=> .br (.intro (fun (x1:Fld)=>l[q1.i]? =some x1) fun x1=> .seg [.el .fld x1] (.br (.leaf () []) (.seg [.as 11 (.v (vI (((q1.i:Nat):Int)+1))),.at 0,.keep [0,1,5],.sel []] (.next)))) (.leaf () [])),z2.Has [(0,.v (.c (.seq .fld l))),(1,.v (vI n)),(5,.v (vI 0))] []∧∀q1,z2.inv q1→(let z1:=((q1.i:Nat):Int);((decide (z1<((List.length l:Nat):Int)))=true→(∃(x1:Fld),l[q1.i]? =some x1)∧∀(x1:Fld),(l[q1.i]? =some x1)→((l[q1.i]? =some x1)∧((0:Int)≤z1)∧((decide (x1.number=n))=true→(.v (vB true):S)= .v (vB (Cu l n))∧([]:List Blk)=[])∧((decide (x1.number=n))=false→((.v (vI (IntKind.i64.wrap (z1+1))):S)= .v (vI (z1+1)))∧z2.Nxt q1 [(0,.v (.c (.seq .fld l))),(1,.v (vI n)),(5,.v (vI (z1+1)))] [])))∧((decide (z1<((List.length l:Nat):Int)))=false→(.v (vB false):S)= .v (vB (Cu l n))∧([]:List Blk)=[])))) Q4 ?_
 refine⟨Bk (j:=(⟨0⟩:Md)) Q10 rfl (by dsimp only[Me];exact⟨by omega,rfl⟩),fun (q1:Md) hq_q1=>?_⟩
 have hi_q1:q1.i≤List.length l∧Cu (List.take q1.i l) n=false:=hq_q1
 obtain ⟨v1,v2⟩:=hi_q1
 refine dsp (fun h1 p1=>?_) fun h1 p1=>?_
 refine⟨(Bm (l:=l) (i:=q1.i) Q2),fun x1 hx1=>?_⟩
 refine⟨hx1,Q2,dsp (fun h2 p2=>?_) fun h2 p2=>?_⟩
 refine⟨(sB ?_),rfl⟩
 rotate_left
 exact⟨(Ae Q2 Q2),Bd (j:=(⟨q1.i+1⟩:Md)) Q10 rfl (by dsimp only[Me];exact⟨by omega,by rw[Z0 hx1,v2];simpa using by assumption⟩) (by dsimp only[Me];omega)⟩
 have hin:List.take q1.i l=l:=List.take_of_length_le (by omega)
 rw[hin] at v2
 refine⟨(sB ?_),rfl⟩
 rotate_left
 all_goals first|((rw[v2];done))|((rw[Z1 hx1 (by assumption)];done))|(grind)
theorem Ae0 (r:Raw) (msg:Int) (hp1:RawK (List.length (r).msgs) (r).msgs) (hp2:(0:Int)≤msg∧msg<((List.length (r).msgs:Nat):Int)):Fun Tryz.prog 220 [.agg [.seq .shp r.msgs],vI msg] [] (.v (vI 0)) []:=by
 have hN:Bg=274877906944:=rfl
 have hpos:=hp1.pos
 refine Ar Tryz.func220 Q4 Q4 (w:=let z3:=((List.length r.msgs:Nat):Int)-1;let z4:=Am msg 0 z3;let z5:=List.take (Int.toNat msg) (r).msgs;(.seg [.as 10 (.v (vI z3)),.call [] (.v (vB z4)) []] (.br (.leaf () []) (.intro (fun (x1:Shp)=>r.msgs[Int.toNat msg]? =some x1) fun x1=> .seg [.el .shp x1,.call [] (.v (vB (Am x1.id 1 99))) []] (.br (.leaf () []) (.seg [.call [] (.v (vB (Nt z5 x1.id))) [],.br false,.br false] (.leaf () []))))),((.v (vI (IntKind.i64.wrap z3)):S)= .v (vI z3))∧(Fun Tryz.prog 59 [vI msg,vI 0,vI z3] [] (.v (vB z4)) [])∧((!z4)=true→(.v (vI 0):S)= .v (vI 0)∧([]:List Blk)=[])∧((!z4)=false→(∃(x1:Shp),r.msgs[Int.toNat msg]? =some x1)∧∀(x1:Shp),(r.msgs[Int.toNat msg]? =some x1)→(let z1:=Nt z5 x1.id;let z2:=Am x1.id 1 99;(r.msgs[Int.toNat msg]? =some x1)∧((0:Int)≤msg)∧(Fun Tryz.prog 59 [vI x1.id,vI 1,vI 99] [] (.v (vB z2)) [])∧((!z2)=true→(.v (vI 2):S)= .v (vI 0)∧([]:List Blk)=[])∧((!z2)=false→(Fun Tryz.prog 224 [.agg [.seq .shp r.msgs],vI x1.id,vI msg] [] (.v (vB z1)) [])∧(z1=false)∧((decide (8<((List.length x1.fields:Nat):Int)))=false)∧(.v (vI 0):S)= .v (vI 0)∧([]:List Blk)=[]))))) Q4 ?_
 refine⟨(Ae Q2 Q2),(Ba _ _ _),fun h1=>have q1:=Ap h1;have p1:=Az q1;?_,fun h1=>have q1:=Ao h1;have p1:=As q1;?_⟩
 exact⟨rfl,rfl⟩
 refine⟨(Bm (l:=r.msgs) (i:=Int.toNat msg) Q2),fun x1 hx1=>?_⟩
 have hid:=hp1.id_ok (List.mem_of_getElem? hx1)
 have hfl:=(hp1.flds _ (List.mem_of_getElem? hx1)).len
 have hno:=hp1.noId hx1
 refine⟨hx1,Q2,(Ba _ _ _),fun h2=>have q2:=Ap h2;have p2:=Az q2;?_,fun h2=>have q2:=Ao h2;have p2:=As q2;?_⟩
 refine⟨(sI ?_),rfl⟩
 rotate_left
 exact⟨(Z2 r _ _ Q2 Q2),hno,(decide_eq_false Q2),rfl,rfl⟩
 all_goals first|(rfl)|((exfalso;omega))|((exfalso;simp_all;done))|(grind)
theorem Z3 (r:Raw) (msg:Int) (field:Int) (hp1:RawK (List.length (r).msgs) (r).msgs) (hp2:(0:Int)≤msg∧msg<((List.length (r).msgs:Nat):Int)) (hp3: ∀m,(r).msgs[Int.toNat msg]? =some m→(0:Int)≤field∧field<((List.length m.fields:Nat):Int)):Fun Tryz.prog 221 [.agg [.seq .shp r.msgs],vI msg,vI field] [] (.v (vI 0)) []:=by
 have hN:Bg=274877906944:=rfl
 have hpos:=hp1.pos
 refine Ar Tryz.func221 Q4 Q4 (w:=let z12:=((List.length r.msgs:Nat):Int);let z13:=([]:List Blk);let z14:=Am msg 0 (z12-1);let z15:=(.v (vI 0):S);let z16:=List.take (Int.toNat z12) (r).msgs;let z17:=(0:Int)≤field;(.seg [.as 13 (.v (vI (z12-1))),.call [] (.v (vB z14)) []] (.br (.leaf () []) (.intro (fun (x1:Shp)=>r.msgs[Int.toNat msg]? =some x1) fun x1=>let z8:=((List.length x1.fields:Nat):Int)-1;.seg [.el .shp x1,.as 25 (.v (vI z8)),.call [] (.v (vB (Am field 0 z8))) []] (.br (.leaf () []) (.seg [.el .shp x1] (.intro (fun (x2:Fld)=>x1.fields[Int.toNat field]? =some x2) fun x2=>let z1:=vB (Nt z16 x2.msg);.seg [.el .fld x2,.call [] (.v (vB (Dc x2.number))) []] (.br (.leaf () []) (.seg [.ord (os 7 [5]) [],.call [] (.v (vB (Cu (List.take (Int.toNat field) x1.fields) x2.number))) [],.br false,.call [] (.v (vB (Em x2.kind))) []] (.br (.leaf () []) (.br (.br (.leaf () []) (.seg [.call [] (.v (vB (C3 x2.kind))) []] (.br (.leaf () []) (.br (.seg [.call [] (.v z1) []] (.br (.leaf () []) (.br (.br (.leaf () []) (.leaf () [])) (.leaf () [])))) (.br (.br (.leaf () []) (.leaf () [])) (.leaf () [])))))) (.br (.seg [.call [] (.v z1) []] (.br (.leaf () []) (.br (.br (.leaf () []) (.leaf () [])) (.leaf () [])))) (.br (.br (.leaf () []) (.leaf () [])) (.leaf () [])))))))))))),((.v (vI (IntKind.i64.wrap (z12-1))):S)= .v (vI (z12-1)))∧(Fun Tryz.prog 59 [vI msg,vI 0,vI (z12-1)] [] (.v (vB z14)) [])∧((!z14)=true→z15= .v (vI 0)∧z13=[])∧((!z14)=false→(∃(x1:Shp),r.msgs[Int.toNat msg]? =some x1)∧∀(x1:Shp),(r.msgs[Int.toNat msg]? =some x1)→(let z9:=((List.length x1.fields:Nat):Int);let z10:=List.take (Int.toNat field) x1.fields;let z11:=r.msgs[Int.toNat msg]? =some x1;z11∧((0:Int)≤msg)∧((.v (vI (IntKind.i64.wrap (z9-1))):S)= .v (vI (z9-1)))∧(Fun Tryz.prog 59 [vI field,vI 0,vI (z9-1)] [] (.v (vB (Am field 0 (z9-1)))) [])∧((!(Am field 0 (z9-1)))=true→z15= .v (vI 0)∧z13=[])∧((!(Am field 0 (z9-1)))=false→z11∧((0:Int)≤msg)∧(∃(x2:Fld),x1.fields[Int.toNat field]? =some x2)∧∀(x2:Fld),(x1.fields[Int.toNat field]? =some x2)→(let z2:=(!decide (x2.kind=8))=true→((!decide (x2.msg=0))=true→(.v (vI 9):S)= .v (vI 0)∧z13=[])∧((!decide (x2.msg=0))=false→z15= .v (vI 0)∧z13=[]);let z3:=Nt z16 x2.msg;let z4:=(!decide (x2.kind=8))=false→z15= .v (vI 0)∧z13=[];let z5:=decide (x2.kind=8);let z6:=Cu z10 x2.number;let z7:=Dc x2.number;(x1.fields[Int.toNat field]? =some x2)∧z17∧(Fun Tryz.prog 191 [vI x2.number] [] (.v (vB z7)) [])∧((!z7)=true→(.v (vI 5):S)= .v (vI 0)∧z13=[])∧((!z7)=false→(field≤z9)∧z17∧(field≤z9)∧z17∧(Fun Tryz.prog 212 [.c (.seq .fld z10),vI x2.number] [] (.v (vB z6)) [])∧(z6=false)∧(Fun Tryz.prog 134 [vI x2.kind] [] (.v (vB (Em x2.kind))) [])∧((!(Em x2.kind))=true→(.v (vI 7):S)= .v (vI 0)∧z13=[])∧((!(Em x2.kind))=false→(x2.packed=true→((!x2.rep)=true→(.v (vI 8):S)= .v (vI 0)∧z13=[])∧((!x2.rep)=false→(Fun Tryz.prog 135 [vI x2.kind] [] (.v (vB (C3 x2.kind))) [])∧((!(C3 x2.kind))=true→(.v (vI 8):S)= .v (vI 0)∧z13=[])∧((!(C3 x2.kind))=false→(z5=true→(Fun Tryz.prog 224 [.agg [.seq .shp r.msgs],vI x2.msg,vI z12] [] (.v (vB z3)) [])∧((!z3)=true→(.v (vI 9):S)= .v (vI 0)∧z13=[])∧((!z3)=false→z2∧z4))∧(z5=false→z2∧z4))))∧(x2.packed=false→(z5=true→(Fun Tryz.prog 224 [.agg [.seq .shp r.msgs],vI x2.msg,vI z12] [] (.v (vB z3)) [])∧((!z3)=true→(.v (vI 9):S)= .v (vI 0)∧z13=[])∧((!z3)=false→z2∧z4))∧(z5=false→z2∧z4)))))))))) Q4 ?_
 refine⟨(Ae Q2 Q2),(Ba _ _ _),fun h1=>have q1:=Ap h1;have p1:=Az q1;?_,fun h1=>have q1:=Ao h1;have p1:=As q1;?_⟩
 exact⟨rfl,rfl⟩
 refine⟨(Bm (l:=r.msgs) (i:=Int.toNat msg) Q2),fun x1 hx1=>?_⟩
 have hfb:=hp3 _ hx1
 have hfg:=hp1.flds _ (List.mem_of_getElem? hx1)
 have hfl:=hfg.len
 refine⟨hx1,Q2,(Ae Q2 Q2),(Ba _ _ _),fun h2=>have q2:=Ap h2;have p2:=Az q2;?_,fun h2=>have q2:=Ao h2;have p2:=As q2;?_⟩
 exact⟨rfl,rfl⟩
 refine⟨hx1,Q2,(Bm (l:=x1.fields) (i:=Int.toNat field) Q2),fun x2 hx2=>?_⟩
 have hg:=hfg.all _ (List.mem_of_getElem? hx2)
 have hnn:=hfg.noNum hx2
 have hgk:=hg.kd
 have hgm:=hg.num
 have hgo:Em x2.kind=true:=by simp only[Em,Am,Bool.and_eq_true,decide_eq_true_eq];omega
 have hgp:=hg.pk
 have hgn:=hg.no
 refine⟨hx2,Q2,(V3 _),fun h3=>have q3:=Ap h3;?_,fun h3=>have q3:=Ao h3;?_⟩
 refine⟨(sI ?_),rfl⟩
 rotate_left
 refine⟨Q2,Q2,Q2,Q2,(Fb _ _ (by simp only[List.length_take];omega)),hnn,(Td _),fun h4=>have q4:=Ap h4;have p4:=Az q4;?_,fun h4=>have q4:=Ao h4;have p4:=As q4;?_⟩
 refine⟨(sI ?_),rfl⟩
 rotate_left
 refine⟨fun h5=>?_,fun h5=>?_⟩
 refine⟨fun h6=>have q6:=Ap h6;?_,fun h6=>have q6:=Ao h6;?_⟩
 refine⟨(sI ?_),rfl⟩
 rotate_left
 refine⟨(K0 _),fun h7=>have q7:=Ap h7;have p7:=Az q7;?_,fun h7=>have q7:=Ao h7;have p7:=As q7;?_⟩
 refine⟨(sI ?_),rfl⟩
 rotate_left
 refine dsp (fun h8 p8=>?_) fun h8 p8=>?_
 have hir:=(Zz (l:=r.msgs)).2 (hg.ref (by omega))
 refine⟨(Z2 r _ _ Q2 Q2),fun h9=>have q9:=Ap h9;?_,fun h9=>have q9:=Ao h9;?_⟩
 refine⟨(sI ?_),rfl⟩
 rotate_left
 refine⟨fun h10=>have q10:=Ap h10;have p10:=of_decide_eq_false q10;?_,fun h10=>have q10:=Ao h10;have p10:=of_decide_eq_true q10;?_⟩
 refine⟨fun h11=>have q11:=Ap h11;have p11:=of_decide_eq_false q11;?_,fun h11=>have q11:=Ao h11;have p11:=of_decide_eq_true q11;?_⟩
 refine⟨(sI ?_),rfl⟩
 rotate_left
 exact⟨rfl,rfl⟩
 exact⟨rfl,rfl⟩
 refine⟨fun h9=>have q9:=Ap h9;have p9:=of_decide_eq_false q9;?_,fun h9=>have q9:=Ao h9;have p9:=of_decide_eq_true q9;?_⟩
 refine⟨fun h10=>have q10:=Ap h10;have p10:=of_decide_eq_false q10;?_,fun h10=>have q10:=Ao h10;have p10:=of_decide_eq_true q10;?_⟩
 refine⟨(sI ?_),rfl⟩
 rotate_left
 exact⟨rfl,rfl⟩
 exact⟨rfl,rfl⟩
 refine dsp (fun h6 p6=>?_) fun h6 p6=>?_
 have hir:=(Zz (l:=r.msgs)).2 (hg.ref (by omega))
 refine⟨(Z2 r _ _ Q2 Q2),fun h7=>have q7:=Ap h7;?_,fun h7=>have q7:=Ao h7;?_⟩
 refine⟨(sI ?_),rfl⟩
 rotate_left
 refine⟨fun h8=>have q8:=Ap h8;have p8:=of_decide_eq_false q8;?_,fun h8=>have q8:=Ao h8;have p8:=of_decide_eq_true q8;?_⟩
 refine⟨fun h9=>have q9:=Ap h9;have p9:=of_decide_eq_false q9;?_,fun h9=>have q9:=Ao h9;have p9:=of_decide_eq_true q9;?_⟩
 refine⟨(sI ?_),rfl⟩
 rotate_left
 exact⟨rfl,rfl⟩
 exact⟨rfl,rfl⟩
 refine⟨fun h7=>have q7:=Ap h7;have p7:=of_decide_eq_false q7;?_,fun h7=>have q7:=Ao h7;have p7:=of_decide_eq_true q7;?_⟩
 refine⟨fun h8=>have q8:=Ap h8;have p8:=of_decide_eq_false q8;?_,fun h8=>have q8:=Ao h8;have p8:=of_decide_eq_true q8;?_⟩
 refine⟨(sI ?_),rfl⟩
 rotate_left
 exact⟨rfl,rfl⟩
 exact⟨rfl,rfl⟩
 all_goals first|(rfl)|((exfalso;simp_all[C3,Am];omega))|((exfalso;simp_all[C3,Am];done))|((exfalso;omega))|(grind)
structure K5 where
 i:Nat
def Ph (r:Raw):Fam:=⟨K5,fun q1=>[(1,.v (vP 0)),(2,.v (vP 1)),(3,.v (vI ((q1.i:Nat):Int)))],fun _=>[.cells [.seq .shp r.msgs],.cells [.int .i64 0,.int .i64 0,.int .i64 0]],fun q1=>q1.i≤List.length r.msgs,fun q1=>List.length r.msgs-q1.i⟩
structure Pi where
 k:Nat
def Gu (r:Raw) (q1:K5):Fam:=⟨Pi,fun q2=>[(1,.v (vP 0)),(2,.v (vP 1)),(3,.v (vI ((q1.i:Nat):Int))),(5,.v (vI ((q2.k:Nat):Int)))],fun _=>[.cells [.seq .shp r.msgs],.cells [.int .i64 0,.int .i64 0,.int .i64 0]],fun q2=>q2.k≤5,fun q2=>5-q2.k⟩
theorem Air (r:Raw) (hp1:RawK (List.length (r).msgs) (r).msgs):Fun Tryz.prog 209 [.agg [.seq .shp r.msgs]] [] (.v (.agg [.int .i64 0,.int .i64 0,.int .i64 0])) []:=by
 have hN:Bg=274877906944:=rfl
 have hpos:=hp1.pos
 refine Ar Tryz.func209 Q4 Q4 (w:=let zi:Int→C:= .int .i64;let z4:List Blk:=[.cells [.seq .shp r.msgs],.cells [zi 0,zi 0,zi 0]];let z5:=((List.length r.msgs:Nat):Int);let z6:=Ph r;(.br (.leaf () []) (.seg [.at 0,.keep [1,2,3],.sel [0,1]] (.loop z6 fun q1=> .br (.seg [.call [] (.v (vI 0)) [],.br false,.at 0,.keep [1,2,3,5],.sel [0,1]] (.loop (Gu r q1) fun q2=> .intro (fun (x1:Shp)=>r.msgs[q1.i]? =some x1) fun x1=> .seg [.el .shp x1] (.br (.seg [.call [] (.v (vI 0)) [],.br false,.as 36 (.v (vI (((q2.k:Nat):Int)+1))),.at 0,.keep [1,2,3,5],.sel [0,1]] (.next)) (.seg [.as 17 (.v (vI (((q1.i:Nat):Int)+1))),.at 0,.keep [1,2,3],.sel [0,1]] (.next))))) (.leaf () []))),((decide (6<z5))=true→(.v (.agg [zi 1,zi 6,zi (-1)]):S)= .v (.agg [zi 0,zi 0,zi 0])∧([]:List Blk)=[])∧((decide (6<z5))=false→z6.Has [(1,.v (vP 0)),(2,.v (vP 1)),(3,.v (vI 0))] z4∧∀q1,z6.inv q1→(let z3:=((q1.i:Nat):Int);((decide (z3<z5))=true→(Fun Tryz.prog 220 [.agg [.seq .shp r.msgs],vI z3] [] (.v (vI 0)) [])∧((!decide (0=0))=false)∧(Gu r q1).Has [(1,.v (vP 0)),(2,.v (vP 1)),(3,.v (vI z3)),(5,.v (vI 0))] z4∧∀q2,(Gu r q1).inv q2→(let z2:=((q2.k:Nat):Int);(∃(x1:Shp),r.msgs[q1.i]? =some x1)∧∀(x1:Shp),(r.msgs[q1.i]? =some x1)→(let z1:=decide (z2<((List.length x1.fields:Nat):Int));(r.msgs[q1.i]? =some x1)∧((0:Int)≤z3)∧(z1=true→(Fun Tryz.prog 221 [.agg [.seq .shp r.msgs],vI z3,vI z2] [] (.v (vI 0)) [])∧((!decide (0=0))=false)∧((.v (vI (IntKind.i64.wrap (z2+1))):S)= .v (vI (z2+1)))∧(Gu r q1).Nxt q2 [(1,.v (vP 0)),(2,.v (vP 1)),(3,.v (vI z3)),(5,.v (vI (z2+1)))] z4)∧(z1=false→((.v (vI (IntKind.i64.wrap (z3+1))):S)= .v (vI (z3+1)))∧z6.Nxt q1 [(1,.v (vP 0)),(2,.v (vP 1)),(3,.v (vI (z3+1)))] z4))))∧((decide (z3<z5))=false→(.v (.agg [zi 0,zi 0,zi 0]):S)= .v (.agg [zi 0,zi 0,zi 0])∧([]:List Blk)=[]))))) Q4 ?_
 refine dsp (fun h1 p1=>?_) fun h1 p1=>?_
 refine⟨(congrArg S.v (congrArg V.agg (Ah (congrArg (C.int .i64) ?_) (Ah (congrArg (C.int .i64) ?_) (Ah (congrArg (C.int .i64) ?_) rfl))))),rfl⟩
 rotate_left 3
 refine⟨Bk (j:=(⟨0⟩:K5)) Q10 rfl (by dsimp only[Ph];omega),fun (q1:K5) hq_q1=>?_⟩
 have hi_q1:q1.i≤List.length r.msgs:=hq_q1
 have v1:=hi_q1
 refine dsp (fun h2 p2=>?_) fun h2 p2=>?_
 refine⟨(Ae0 r _ Q2 Q2),Q24,Bk (j:=(⟨0⟩:Pi)) Q10 rfl (by dsimp only[Gu];omega),fun (q2:Pi) hq_q2=>?_⟩
 have hi_q2:q2.k≤5:=hq_q2
 have w1:=hi_q2
 refine⟨(Bm (l:=r.msgs) (i:=q1.i) Q2),fun x1 hx1=>?_⟩
 have hfl:=(hp1.flds _ (List.mem_of_getElem? hx1)).len
 refine⟨hx1,Q2,dsp (fun h3 p3=>?_) fun h3 p3=>?_⟩
 exact⟨(Z3 r _ _ Q2 Q2 (fun m hm=>by (try simp only[Int.toNat_natCast] at hm);rw[hx1] at hm;cases hm;omega)),Q24,(Ae Q2 Q2),Bd (j:=(⟨q2.k+1⟩:Pi)) Q10 rfl (by dsimp only[Gu];omega) (by dsimp only[Gu];omega)⟩
 exact⟨(Ae Q2 Q2),Bd (j:=(⟨q1.i+1⟩:K5)) Q10 rfl (by dsimp only[Ph];omega) (by dsimp only[Ph];omega)⟩
 exact⟨rfl,rfl⟩
 all_goals first|(rfl)|((exfalso;simp_all[C3,Am];omega))|((exfalso;simp_all[C3,Am];done))|((exfalso;omega))|(grind)
structure Nu where
 n:Int
 i:Nat
def K6 (r:Raw) (id:Int):Fam:=⟨Nu,fun q1=>[(1,.v (vI id)),(2,.v (vP 0)),(5,.v (vI q1.n)),(6,.v (vI ((q1.i:Nat):Int)))],fun _=>[.cells [.seq .shp r.msgs]],fun q1=>q1.i≤List.length r.msgs∧q1.n=((Tj (List.take q1.i r.msgs) id:Nat):Int),fun q1=>List.length r.msgs-q1.i⟩
theorem Ahu (r:Raw) (id:Int) (hp1:List.length (r).msgs≤1000):Fun Tryz.prog 210 [.agg [.seq .shp r.msgs],vI id] [] (.v (vI ((Tj (r).msgs id:Nat):Int))) []:=by
 have hN:Bg=274877906944:=rfl
 refine Ar Tryz.func210 Q4 Q4 (w:=let z2:=K6 r id;let z3:List Blk:=[.cells [.seq .shp r.msgs]];let z4:=((List.length r.msgs:Nat):Int);(.seg [.at 0,.keep [1,2,5,6],.sel [0]] (.loop z2 fun q1=> .br (.intro (fun (x1:Shp)=>r.msgs[q1.i]? =some x1) fun x1=> .seg [.el .shp x1] (.br (.seg [.as 23 (.v (vI (q1.n+1))),.as 13 (.v (vI (((q1.i:Nat):Int)+1))),.at 0,.keep [1,2,5,6],.sel [0]] (.next)) (.seg [.as 13 (.v (vI (((q1.i:Nat):Int)+1))),.at 0,.keep [1,2,5,6],.sel [0]] (.next)))) (.leaf () [])),z2.Has [(1,.v (vI id)),(2,.v (vP 0)),(5,.v (vI 0)),(6,.v (vI 0))] z3∧∀q1,z2.inv q1→(let z1:=((q1.i:Nat):Int);((decide (z1<z4))=true→(∃(x1:Shp),r.msgs[q1.i]? =some x1)∧∀(x1:Shp),(r.msgs[q1.i]? =some x1)→((r.msgs[q1.i]? =some x1)∧((0:Int)≤z1)∧((decide (x1.id<id))=true→((.v (vI (IntKind.i64.wrap (q1.n+1))):S)= .v (vI (q1.n+1)))∧((.v (vI (IntKind.i64.wrap (z1+1))):S)= .v (vI (z1+1)))∧z2.Nxt q1 [(1,.v (vI id)),(2,.v (vP 0)),(5,.v (vI (q1.n+1))),(6,.v (vI (z1+1)))] z3)∧((decide (x1.id<id))=false→((.v (vI (IntKind.i64.wrap (z1+1))):S)= .v (vI (z1+1)))∧z2.Nxt q1 [(1,.v (vI id)),(2,.v (vP 0)),(5,.v (vI q1.n)),(6,.v (vI (z1+1)))] z3)))∧((decide (z1<z4))=false→(.v (vI q1.n):S)= .v (vI ((Tj (r).msgs id:Nat):Int))∧([]:List Blk)=[])))) Q4 ?_
 refine⟨Bk (j:=(⟨0,0⟩:Nu)) Q10 rfl (by dsimp only[K6];exact⟨by omega,by simp[Tj]⟩),fun (q1:Nu) hq_q1=>?_⟩
 have hi_q1:q1.i≤List.length r.msgs∧q1.n=((Tj (List.take q1.i r.msgs) id:Nat):Int):=hq_q1
 obtain ⟨v1,v2⟩:=hi_q1
 refine dsp (fun h1 p1=>?_) fun h1 p1=>?_
 refine⟨(Bm (l:=r.msgs) (i:=q1.i) Q2),fun x1 hx1=>?_⟩
 have hrk:=Aiq (List.take q1.i r.msgs) id
 have hrl:(List.take q1.i r.msgs).length≤q1.i:=by rw[List.length_take];omega
 refine⟨hx1,Q2,dsp (fun h2 p2=>?_) fun h2 p2=>?_⟩
 exact⟨(Ae Q2 Q2),(Ae Q2 Q2),Bd (j:=(⟨q1.n+1,q1.i+1⟩:Nu)) Q10 rfl (by dsimp only[K6];exact⟨by omega,by rw[Yo hx1];split<;>omega⟩) (by dsimp only[K6];omega)⟩
 exact⟨(Ae Q2 Q2),Bd (j:=(⟨q1.n,q1.i+1⟩:Nu)) Q10 rfl (by dsimp only[K6];exact⟨by omega,by rw[Yo hx1];split<;>omega⟩) (by dsimp only[K6];omega)⟩
 have hin:List.take q1.i r.msgs=r.msgs:=List.take_of_length_le (by omega)
 rw[hin] at v2
 refine⟨(sI ?_),rfl⟩
 rotate_left
 all_goals first|((rw[v2];done))|((exact v2))|(omega)
theorem Ae1 {l:List Fld} {f g:Fld} {k:Nat} (h:g∈(([]++List.take k l)++[f])++List.drop k l):g=f∨g∈l:=by
 simp only[List.nil_append,List.mem_append,List.mem_singleton] at h
 rcases h with (h|h)|h
 ·exact .inr (List.mem_of_mem_take h)
 ·exact .inl h
 ·exact .inr (List.mem_of_mem_drop h)
structure Uu where
 o:List Fld
def Z4 (l:List Fld) (f:Fld) (o:Uu):Prop:=Fun Tryz.prog 211 [.c (.seq .fld l),.agg (Fm f)] [] (.v (vO 0)) [.lst .fld o.o]
def Uv (l:List Fld) (f:Fld) (o:Uu):Prop:=((List.length o.o=List.length l+1)∧(∀g∈o.o,g=f∨g∈l))∧Z4 l f o
structure Tk where
 k:Nat
def Tm (l:List Fld) (f:Fld):Fam:=⟨Tk,fun q1=>[(0,.v (.c (.seq .fld l))),(3,.v (vP 0)),(5,.v (vI ((q1.k:Nat):Int)))],fun _=>[.cells (Fm f)],fun q1=>q1.k≤List.length l,fun q1=>List.length l-q1.k⟩
theorem Aj7 (l:List Fld) (f:Fld) (hp1:List.length l≤1000): ∃o:Uu,Uv l f o:=by
 have hN:Bg=274877906944:=rfl
 refine Bw Tryz.func211 Q4 Q4 (w:=let z7:=((List.length l:Nat):Int);let z8:=Tm l f;(.seg [.at 0,.keep [0,3,5],.sel [0]] (.loop z8 fun q1=>let z1:=(([]:List Fld)++(List.take q1.k l))++[f];.case (decide (((q1.k:Nat):Int)<z7)) (.intro (fun (x1:Fld)=>l[q1.k]? =some x1) fun x1=> .seg [.ord (os 14 []) [],.br true,.el .fld x1] (.br (.seg [.as 22 (.v (vI (((q1.k:Nat):Int)+1))),.at 0,.keep [0,3,5],.sel [0]] (.next)) (.seg [.ty .fld,.ty .fld,.ord [(0,true),(1,true),(4,true),(5,true),(6,true),(2,false),(3,false),(7,false),(8,true)] [2],.ty .fld,.ty .fld,.ty .fld] (.leaf (⟨z1++(List.drop q1.k l)⟩:Uu) [5])))) (.seg [.ord (os 14 []) [],.br false,.ty .fld,.ty .fld,.ord [(0,true),(1,true),(4,true),(5,true),(6,true),(2,false),(3,false),(7,false),(8,true)] [2],.ty .fld,.ty .fld,.ty .fld] (.leaf (⟨z1++(List.drop q1.k l)⟩:Uu) [5]))),z8.Has [(0,.v (.c (.seq .fld l))),(3,.v (vP 0)),(5,.v (vI 0))] [.cells (Fm f)]∧∀q1,z8.inv q1→(let z3:=((q1.k:Nat):Int);let z4:=([]:List Fld)++(List.take q1.k l);let z2:=(z4++[f])++(List.drop q1.k l);let z5:=List.length ([]:List Fld)+List.length (List.take q1.k l)≤Bg;let z6:=List.length (z4++[f])+List.length (List.drop q1.k l)≤Bg;((decide (z3<z7))=true→(∃(x1:Fld),l[q1.k]? =some x1)∧∀(x1:Fld),(l[q1.k]? =some x1)→(((decide (z3<z7))=true)∧(l[q1.k]? =some x1)∧((0:Int)≤z3)∧(l[q1.k]? =some x1)∧((0:Int)≤z3)∧((decide (x1.number<f.number))=true→((.v (vI (IntKind.i64.wrap (z3+1))):S)= .v (vI (z3+1)))∧z8.Nxt q1 [(0,.v (.c (.seq .fld l))),(3,.v (vP 0)),(5,.v (vI (z3+1)))] [.cells (Fm f)])∧((decide (x1.number<f.number))=false→(z3≤z7)∧((0:Int)≤z3)∧z5∧(z3≤z7)∧((0:Int)≤z3)∧(z3≤z7)∧((0:Int)≤z3)∧(List.length z4+List.length [f]≤Bg)∧z6∧((List.length z2=List.length l+1)∧(∀g∈z2,g=f∨g∈l))∧(.v (vO 0):S)= .v (vO 0)∧([.lst .fld z2]:List Blk)=[.lst .fld z2])))∧((decide (z3<z7))=false→((decide (z3<z7))=false)∧(z3≤z7)∧((0:Int)≤z3)∧z5∧(z3≤z7)∧((0:Int)≤z3)∧(z3≤z7)∧((0:Int)≤z3)∧(List.length z4+List.length [f]≤Bg)∧z6∧((List.length z2=List.length l+1)∧(∀g∈z2,g=f∨g∈l))∧(.v (vO 0):S)= .v (vO 0)∧([.lst .fld z2]:List Blk)=[.lst .fld z2])))) Q4 ?_
 refine⟨Bk (j:=(⟨0⟩:Tk)) Q10 rfl (by dsimp only[Tm];omega),fun (q1:Tk) hq_q1=>?_⟩
 have hi_q1:q1.k≤List.length l:=hq_q1
 have v1:=hi_q1
 refine dsp (fun h1 p1=>?_) fun h1 p1=>?_
 refine⟨(Bm (l:=l) (i:=q1.k) Q2),fun x1 hx1=>?_⟩
 refine⟨h1,hx1,Q2,hx1,Q2,dsp (fun h2 p2=>?_) fun h2 p2=>?_⟩
 exact⟨(Ae Q2 Q2),Bd (j:=(⟨q1.k+1⟩:Tk)) Q10 rfl (by dsimp only[Tm];omega) (by dsimp only[Tm];omega)⟩
 exact⟨Q2,Q2,(by simp only[List.length_take,List.length_cons,List.length_nil];omega),Q2,Q2,Q2,Q2,(by simp;omega),(by simp;omega),⟨(by simp;omega),(fun g hg=>Ae1 hg)⟩,rfl,rfl⟩
 exact⟨h1,Q2,Q2,(by simp only[List.length_take,List.length_cons,List.length_nil];omega),Q2,Q2,Q2,Q2,(by simp;omega),(by simp;omega),⟨(by simp;omega),(fun g hg=>Ae1 hg)⟩,rfl,rfl⟩
end Go.Proofs.YtcmnedgnppnhoaaGreat.Ax
