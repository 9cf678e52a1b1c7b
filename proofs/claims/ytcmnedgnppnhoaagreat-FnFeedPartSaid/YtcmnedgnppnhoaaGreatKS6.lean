/- A byte: the reference. Models: the grammar. The grammar: numbers, Se, texts. The grammar: texts. The grammar: values with a length. The grammar: messages. Models: Ahq inputs. Whole inputs: what is said of them. What is too long to draw from. Readings of own, comparisons. Decoders that are the same. Draws of numbers, bytes, scripts. Drawn descriptions: checks. -/
import Derived.Test.YtcmnedgnppnhoaaGreatKS5
import Derived.Test.YtcmnedgnppnhoaaGreatKS1
import Derived.Test.YtcmnedgnppnhoaaGreatKS2
import Derived.Test.YtcmnedgnppnhoaaGreatKS4
set_option linter.unusedSimpArgs false
set_option linter.unusedVariables false
namespace Go.Proofs.YtcmnedgnppnhoaaGreat.Ax
open Go.RowKit
set_option maxHeartbeats 3200000 in
theorem Tt (d:Dcd) (b:Int) (hp1:List.length (d).plan.shapes≤1048576) (hp2: ∀e∈(d).plan.shapes,List.length e.fields≤1048576) (hp3:List.length (d).stack≤1048576) (hp4:(0:Int)≤(d).scan.bits∧(d).scan.bits≤18446744073709551615):Fun Tryz.prog 18 [.agg (Bt d),vI b] [] (.tup [.agg (Ac 0 1 (Bc d b).d),vO 2]) [.tree (Bc d b).d.plan.shapes,.lst .lev (Bc d b).d.stack,.lst .ev (Bc d b).out]:=by
 have hN:Bf=274877906944:=rfl
 refine Aq Tryz.func18 Q4 Q4 (w:=let zi:Int→C:= .int .i64;let z15:List C:=[zi 4,zi 0,.int .u64 0,zi 0,.str (List.map Bb [b]),zi 0,zi 0];let z16:List C:=[zi d.end_.kind,zi d.end_.field,.int .u64 d.end_.bits,zi d.end_.len,.str d.end_.text,zi d.end_.code,zi d.end_.at_];let z17:=(⟨d.plan,d.mode,d.stack,d.scan,d.start,d.at_+1,d.field,d.wire,d.want-1,d.utf,d.end_⟩:Dcd);let z18:=(⟨d.plan,d.mode,d.stack,d.scan,d.start,d.at_+1,d.field,d.wire,d.want,d.utf,d.end_⟩:Dcd);let z20:=((List.length d.stack:Nat):Int);let z21:=Bc d b;let z22:=Ad ⟨z17,[]⟩;let z23:=(⟨4,0,0,0,List.map Bb [b],0,0⟩:Ev);let z24:=Ac 0 1 z21.d;let z27:=decide (d.mode=7);let z28:=Bp ⟨z17,[]⟩ b d.at_;let z29:=Bp ⟨z18,[]⟩ b d.at_;let z30:=([.tree d.plan.shapes,.lst .lev d.stack,.lst .ev ([]:List Ev)]:List Blk);let z31:List Blk:=[.dead,.dead,.tree z22.d.plan.shapes,.lst .lev z22.d.stack,.lst .ev z22.out];let z32:=(.v (.c (.int .u8 (IntKind.u8.wrap (b)))):S)= .v (.c (.int .u8 b));let z33:=(.v (vI (IntKind.i64.wrap (z20-1))):S)= .v (vI (z20-1));let z34:=vI (Bq d);let z35:=C7 ⟨z17,[]⟩ b;let z36:=C7 ⟨z18,[]⟩ b;let z37:=decide (d.mode=6);let z38:=decide (0<Bq d);let z39:=A3 z17 5 d.at_;let z40:=Bo d.utf b;let z26:=z40.getD d.utf;let z19:=Ad ⟨(⟨d.plan,d.mode,d.stack,d.scan,d.start,d.at_+1,d.field,d.wire,d.want-1,z26,d.end_⟩:Dcd),[]⟩;let z41:=Int.toNat (z20-1);let z42:=(.tup [.agg (Ac 0 1 d),vO 2]:S);let z43:=vI (d.want-1);let z25:=(.v (vI (IntKind.i64.wrap (d.want-1))):S)= .v z43;let z44:=Ac 2 3 z22.d;let z45:=(.tup [.agg (Ac 0 1 z22.d),vO 2]:S);let z46:List Blk:=[.dead,.dead,.tree z19.d.plan.shapes,.lst .lev z19.d.stack,.lst .ev (z23::z19.out)];let z47:List Blk:=[.dead,.dead,.tree z22.d.plan.shapes,.lst .lev z22.d.stack,.lst .ev (z23::z22.out)];let z48:=([.tree z22.d.plan.shapes,.lst .lev z22.d.stack,.lst .ev z22.out]:List Blk);let z49:List Blk:=[.dead,.dead,.tree z39.plan.shapes,.lst .lev z39.stack,.lst .ev [A2 5 d.at_]];let z50:=decide (d.field.kind=6);let z51:List Blk:=[.dead,.dead,.tree z35.d.plan.shapes,.lst .lev z35.d.stack,.lst .ev z35.out];let z52:List Blk:=[.dead,.dead,.tree z28.d.plan.shapes,.lst .lev z28.d.stack,.lst .ev z28.out];let z53:List Blk:=[.dead,.dead,.tree z36.d.plan.shapes,.lst .lev z36.d.stack,.lst .ev z36.out];let z54:List Blk:=[.dead,.dead,.tree z29.d.plan.shapes,.lst .lev z29.d.stack,.lst .ev z29.out];let z55:=(0:Int)≤z20-1;let z56:=decide (d.mode=8);let z57:=d.at_+1;let z12:List C:= .own 0::zi d.plan.root::zi d.plan.deep::zi d.plan.most::zi d.mode:: .own 1:: .int .u64 d.scan.bits::zi d.scan.have_::zi d.start::zi z57::zi d.field.number::zi d.field.kind:: .bool d.field.rep:: .bool d.field.packed::zi d.field.msg::zi d.wire::zi (d.want-1)::zi d.utf.want::zi d.utf.low::zi d.utf.high::z16;let z13:List C:= .own 0::zi d.plan.root::zi d.plan.deep::zi d.plan.most::zi d.mode:: .own 1:: .int .u64 d.scan.bits::zi d.scan.have_::zi d.start::zi z57::zi d.field.number::zi d.field.kind:: .bool d.field.rep:: .bool d.field.packed::zi d.field.msg::zi d.wire::zi d.want::zi d.utf.want::zi d.utf.low::zi d.utf.high::z16;let z14:List C:= .own 0::zi d.plan.root::zi d.plan.deep::zi d.plan.most::zi d.mode:: .own 1:: .int .u64 d.scan.bits::zi d.scan.have_::zi d.start::zi z57::zi d.field.number::zi d.field.kind:: .bool d.field.rep:: .bool d.field.packed::zi d.field.msg::zi d.wire::zi (d.want-1)::zi z26.want::zi z26.low::zi z26.high::z16;let z58:=Am b 0 255;let z59:=z20-1<z20;let z60:= !z40.isSome;let z61:=z27=false;let z62:=z37=false;(.seg [.call [] (.v (.agg (Ac 0 1 d))) [.tree d.plan.shapes,.lst .lev d.stack],.call [] (.v (vB (B9 d))) []] (.br (.seg [.ty .ev] (.leaf () [2,3,5])) (.br (.seg [.ty .ev] (.leaf () [2,3,5])) (.seg [.call [] (.v (vB z58)) []] (.br (.seg [.ty .ev] (.leaf () [2,3,5])) (.br (.seg [.ty .ev] (.leaf () [2,3,5])) (.seg [.as 35 (.v (vI z57))] (.br (.intro (fun (x1:Lev)=>d.stack[Int.toNat (z20-1)]? =some x1) fun x1=>let z4:=(⟨x1.msg,x1.left-1⟩:Lev);let z1:=(⟨d.plan,d.mode,List.set d.stack z41 z4,d.scan,d.start,d.at_+1,d.field,d.wire,d.want-1,d.utf,d.end_⟩:Dcd);let z2:=(⟨d.plan,d.mode,List.set d.stack z41 z4,d.scan,d.start,d.at_+1,d.field,d.wire,d.want,d.utf,d.end_⟩:Dcd);let z3:=Ad ⟨(⟨d.plan,d.mode,List.set d.stack z41 z4,d.scan,d.start,d.at_+1,d.field,d.wire,d.want-1,z26,d.end_⟩:Dcd),[]⟩;.seg [.ord (os 15 [14]) [],.as 45 (.v (vI (z20-1))),.as 49 (.v (vI (z20-1))),.el .lev x1,.as 53 (.v (vI (x1.left-1))),.el .lev x1] (.br (.seg [.as 71 (.v z43),.call [] (.v z34) []] (.br (.seg [.call [2,3] (.tup [.agg (Ac 2 3 (Ad ⟨z1,[]⟩).d),vO 4]) [.dead,.dead,.tree (Ad ⟨z1,[]⟩).d.plan.shapes,.lst .lev (Ad ⟨z1,[]⟩).d.stack,.lst .ev (Ad ⟨z1,[]⟩).out]] (.leaf () [5,6,7])) (.seg [.br true] (.br (.seg [.call [] (.tup [.agg (H9 z26),vB z40.isSome]) []] (.br (.seg [.call [2,3] (.tup [.agg (Ac 2 3 (A3 z1 5 d.at_)),vO 4]) [.dead,.dead,.tree (A3 z1 5 d.at_).plan.shapes,.lst .lev (A3 z1 5 d.at_).stack,.lst .ev [A2 5 d.at_]]] (.leaf () [6,7,8])) (.seg [.as 110 (.v (.c (.int .u8 b))),.ty .u8,.call [2,3] (.tup [.agg (Ac 2 3 z3.d),vO 4]) [.dead,.dead,.tree z3.d.plan.shapes,.lst .lev z3.d.stack,.lst .ev (z23::z3.out)]] (.leaf () [7,8,9])))) (.seg [.as 110 (.v (.c (.int .u8 b))),.ty .u8,.call [2,3] (.tup [.agg (Ac 2 3 (Ad ⟨z1,[]⟩).d),vO 4]) [.dead,.dead,.tree (Ad ⟨z1,[]⟩).d.plan.shapes,.lst .lev (Ad ⟨z1,[]⟩).d.stack,.lst .ev (z23::(Ad ⟨z1,[]⟩).out)]] (.leaf () [6,7,8])))))) (.br (.seg [.as 71 (.v z43),.call [] (.v z34) [],.br true,.call [2,3] (.tup [.agg (Ac 2 3 (Ad ⟨z1,[]⟩).d),vO 4]) [.dead,.dead,.tree (Ad ⟨z1,[]⟩).d.plan.shapes,.lst .lev (Ad ⟨z1,[]⟩).d.stack,.lst .ev (Ad ⟨z1,[]⟩).out]] (.leaf () [5,6,7])) (.br (.seg [.as 71 (.v z43),.call [] (.v z34) [],.br false,.br false] (.br (.seg [.call [2,3] (.tup [.agg (Ac 2 3 (C7 ⟨z1,[]⟩ b).d),vO 4]) [.dead,.dead,.tree (C7 ⟨z1,[]⟩ b).d.plan.shapes,.lst .lev (C7 ⟨z1,[]⟩ b).d.stack,.lst .ev (C7 ⟨z1,[]⟩ b).out]] (.leaf () [5,6,7])) (.seg [.call [2,3] (.tup [.agg (Ac 2 3 (Bp ⟨z1,[]⟩ b d.at_).d),vO 4]) [.dead,.dead,.tree (Bp ⟨z1,[]⟩ b d.at_).d.plan.shapes,.lst .lev (Bp ⟨z1,[]⟩ b d.at_).d.stack,.lst .ev (Bp ⟨z1,[]⟩ b d.at_).out]] (.leaf () [5,6,7])))) (.seg [.call [] (.v z34) [],.br false,.br false] (.br (.seg [.call [2,3] (.tup [.agg (Ac 2 3 (C7 ⟨z2,[]⟩ b).d),vO 4]) [.dead,.dead,.tree (C7 ⟨z2,[]⟩ b).d.plan.shapes,.lst .lev (C7 ⟨z2,[]⟩ b).d.stack,.lst .ev (C7 ⟨z2,[]⟩ b).out]] (.leaf () [5,6,7])) (.seg [.call [2,3] (.tup [.agg (Ac 2 3 (Bp ⟨z2,[]⟩ b d.at_).d),vO 4]) [.dead,.dead,.tree (Bp ⟨z2,[]⟩ b d.at_).d.plan.shapes,.lst .lev (Bp ⟨z2,[]⟩ b d.at_).d.stack,.lst .ev (Bp ⟨z2,[]⟩ b d.at_).out]] (.leaf () [5,6,7])))))))) (.br (.seg [.as 71 (.v z43),.call [] (.v z34) []] (.br (.seg [.call [2,3] (.tup [.agg z44,vO 4]) z31] (.leaf () [5,6,7])) (.seg [.br true] (.br (.seg [.call [] (.tup [.agg (H9 z26),vB z40.isSome]) []] (.br (.seg [.call [2,3] (.tup [.agg (Ac 2 3 z39),vO 4]) z49] (.leaf () [6,7,8])) (.seg [.as 110 (.v (.c (.int .u8 b))),.ty .u8,.call [2,3] (.tup [.agg (Ac 2 3 z19.d),vO 4]) z46] (.leaf () [7,8,9])))) (.seg [.as 110 (.v (.c (.int .u8 b))),.ty .u8,.call [2,3] (.tup [.agg z44,vO 4]) z47] (.leaf () [6,7,8])))))) (.br (.seg [.as 71 (.v z43),.call [] (.v z34) [],.br true,.call [2,3] (.tup [.agg z44,vO 4]) z31] (.leaf () [5,6,7])) (.br (.seg [.as 71 (.v z43),.call [] (.v z34) [],.br false,.br false] (.br (.seg [.call [2,3] (.tup [.agg (Ac 2 3 z35.d),vO 4]) z51] (.leaf () [5,6,7])) (.seg [.call [2,3] (.tup [.agg (Ac 2 3 z28.d),vO 4]) z52] (.leaf () [5,6,7])))) (.seg [.call [] (.v z34) [],.br false,.br false] (.br (.seg [.call [2,3] (.tup [.agg (Ac 2 3 z36.d),vO 4]) z53] (.leaf () [5,6,7])) (.seg [.call [2,3] (.tup [.agg (Ac 2 3 z29.d),vO 4]) z54] (.leaf () [5,6,7])))))))))))))),(Fun Tryz.prog 58 [.agg (Bt d)] [] (.v (.agg (Ac 0 1 d))) [.tree d.plan.shapes,.lst .lev d.stack])∧(Fun Tryz.prog 20 [.agg (Bt d)] [] (.v (vB (B9 d))) [])∧((!(B9 d))=true→z42= .tup [.agg z24,vO 2]∧z30=[.tree z21.d.plan.shapes,.lst .lev z21.d.stack,.lst .ev z21.out])∧((!(B9 d))=false→((decide (d.mode=9))=true→z42= .tup [.agg z24,vO 2]∧z30=[.tree z21.d.plan.shapes,.lst .lev z21.d.stack,.lst .ev z21.out])∧((decide (d.mode=9))=false→(Fun Tryz.prog 59 [vI b,vI 0,vI 255] [] (.v (vB z58)) [])∧((!z58)=true→z42= .tup [.agg z24,vO 2]∧z30=[.tree z21.d.plan.shapes,.lst .lev z21.d.stack,.lst .ev z21.out])∧((!z58)=false→((decide (d.at_=1000000000))=true→z42= .tup [.agg z24,vO 2]∧z30=[.tree z21.d.plan.shapes,.lst .lev z21.d.stack,.lst .ev z21.out])∧((decide (d.at_=1000000000))=false→((.v (vI (IntKind.i64.wrap z57)):S)= .v (vI z57))∧((decide (0<z20))=true→(∃(x1:Lev),d.stack[Int.toNat (z20-1)]? =some x1)∧∀(x1:Lev),(d.stack[Int.toNat (z20-1)]? =some x1)→(let z9:=d.stack[Int.toNat (z20-1)]? =some x1;let z10:=(⟨x1.msg,x1.left-1⟩:Lev);let z5:=(⟨d.plan,d.mode,List.set d.stack z41 z10,d.scan,d.start,d.at_+1,d.field,d.wire,d.want-1,d.utf,d.end_⟩:Dcd);let z6:=(⟨d.plan,d.mode,List.set d.stack z41 z10,d.scan,d.start,d.at_+1,d.field,d.wire,d.want,d.utf,d.end_⟩:Dcd);let z7:=Ad ⟨(⟨d.plan,d.mode,List.set d.stack z41 z10,d.scan,d.start,d.at_+1,d.field,d.wire,d.want-1,z26,d.end_⟩:Dcd),[]⟩;let z8:=List.set d.stack z41 z10;let z11:=(.v (vI (IntKind.i64.wrap (x1.left-1))):S)= .v (vI (x1.left-1));z33∧z33∧z33∧z33∧z59∧z55∧z59∧z55∧z9∧z9∧z11∧z11∧z59∧z55∧z59∧z55∧z9∧(z37=true→z25∧(Fun Tryz.prog 60 [.agg (Bt d)] [] (.v z34) [])∧(z27=true→(Fun Tryz.prog 61 [.agg z12] [.tree d.plan.shapes,.lst .lev z8] (.tup [.agg (Ac 2 3 (Ad ⟨z5,[]⟩).d),vO 4]) [.dead,.dead,.tree (Ad ⟨z5,[]⟩).d.plan.shapes,.lst .lev (Ad ⟨z5,[]⟩).d.stack,.lst .ev (Ad ⟨z5,[]⟩).out])∧(.tup [.agg (Ac 0 1 (Ad ⟨z5,[]⟩).d),vO 2]:S)= .tup [.agg z24,vO 2]∧([.tree (Ad ⟨z5,[]⟩).d.plan.shapes,.lst .lev (Ad ⟨z5,[]⟩).d.stack,.lst .ev (Ad ⟨z5,[]⟩).out]:List Blk)=[.tree z21.d.plan.shapes,.lst .lev z21.d.stack,.lst .ev z21.out])∧(z27=false→(z37=true)∧(z50=true→(Fun Tryz.prog 62 [.agg (H9 d.utf),vI b] [] (.tup [.agg (H9 z26),vB z40.isSome]) [])∧(z60=true→(Fun Tryz.prog 63 [.agg z12,vI 5,vI d.at_] [.tree d.plan.shapes,.lst .lev z8] (.tup [.agg (Ac 2 3 (A3 z5 5 d.at_)),vO 4]) [.dead,.dead,.tree (A3 z5 5 d.at_).plan.shapes,.lst .lev (A3 z5 5 d.at_).stack,.lst .ev [A2 5 d.at_]])∧(.tup [.agg (Ac 0 1 (A3 z5 5 d.at_)),vO 2]:S)= .tup [.agg z24,vO 2]∧([.tree (A3 z5 5 d.at_).plan.shapes,.lst .lev (A3 z5 5 d.at_).stack,.lst .ev [A2 5 d.at_]]:List Blk)=[.tree z21.d.plan.shapes,.lst .lev z21.d.stack,.lst .ev z21.out])∧(z60=false→z32∧(Fun Tryz.prog 64 [.agg z14,.agg z15] [.tree d.plan.shapes,.lst .lev z8] (.tup [.agg (Ac 2 3 z7.d),vO 4]) [.dead,.dead,.tree z7.d.plan.shapes,.lst .lev z7.d.stack,.lst .ev (z23::z7.out)])∧(.tup [.agg (Ac 0 1 z7.d),vO 2]:S)= .tup [.agg z24,vO 2]∧([.tree z7.d.plan.shapes,.lst .lev z7.d.stack,.lst .ev (z23::z7.out)]:List Blk)=[.tree z21.d.plan.shapes,.lst .lev z21.d.stack,.lst .ev z21.out]))∧(z50=false→z32∧(Fun Tryz.prog 64 [.agg z12,.agg z15] [.tree d.plan.shapes,.lst .lev z8] (.tup [.agg (Ac 2 3 (Ad ⟨z5,[]⟩).d),vO 4]) [.dead,.dead,.tree (Ad ⟨z5,[]⟩).d.plan.shapes,.lst .lev (Ad ⟨z5,[]⟩).d.stack,.lst .ev (z23::(Ad ⟨z5,[]⟩).out)])∧(.tup [.agg (Ac 0 1 (Ad ⟨z5,[]⟩).d),vO 2]:S)= .tup [.agg z24,vO 2]∧([.tree (Ad ⟨z5,[]⟩).d.plan.shapes,.lst .lev (Ad ⟨z5,[]⟩).d.stack,.lst .ev (z23::(Ad ⟨z5,[]⟩).out)]:List Blk)=[.tree z21.d.plan.shapes,.lst .lev z21.d.stack,.lst .ev z21.out])))∧(z37=false→(z27=true→z25∧(Fun Tryz.prog 60 [.agg (Bt d)] [] (.v z34) [])∧(z27=true)∧(Fun Tryz.prog 61 [.agg z12] [.tree d.plan.shapes,.lst .lev z8] (.tup [.agg (Ac 2 3 (Ad ⟨z5,[]⟩).d),vO 4]) [.dead,.dead,.tree (Ad ⟨z5,[]⟩).d.plan.shapes,.lst .lev (Ad ⟨z5,[]⟩).d.stack,.lst .ev (Ad ⟨z5,[]⟩).out])∧(.tup [.agg (Ac 0 1 (Ad ⟨z5,[]⟩).d),vO 2]:S)= .tup [.agg z24,vO 2]∧([.tree (Ad ⟨z5,[]⟩).d.plan.shapes,.lst .lev (Ad ⟨z5,[]⟩).d.stack,.lst .ev (Ad ⟨z5,[]⟩).out]:List Blk)=[.tree z21.d.plan.shapes,.lst .lev z21.d.stack,.lst .ev z21.out])∧(z27=false→(z56=true→z25∧(Fun Tryz.prog 60 [.agg (Bt d)] [] (.v z34) [])∧z61∧z62∧(z38=true→(Fun Tryz.prog 65 [.agg z12,vI b,vI (Bq d)] [.tree d.plan.shapes,.lst .lev z8] (.tup [.agg (Ac 2 3 (C7 ⟨z5,[]⟩ b).d),vO 4]) [.dead,.dead,.tree (C7 ⟨z5,[]⟩ b).d.plan.shapes,.lst .lev (C7 ⟨z5,[]⟩ b).d.stack,.lst .ev (C7 ⟨z5,[]⟩ b).out])∧(.tup [.agg (Ac 0 1 (C7 ⟨z5,[]⟩ b).d),vO 2]:S)= .tup [.agg z24,vO 2]∧([.tree (C7 ⟨z5,[]⟩ b).d.plan.shapes,.lst .lev (C7 ⟨z5,[]⟩ b).d.stack,.lst .ev (C7 ⟨z5,[]⟩ b).out]:List Blk)=[.tree z21.d.plan.shapes,.lst .lev z21.d.stack,.lst .ev z21.out])∧(z38=false→(Fun Tryz.prog 66 [.agg z12,vI b,vI d.at_] [.tree d.plan.shapes,.lst .lev z8] (.tup [.agg (Ac 2 3 (Bp ⟨z5,[]⟩ b d.at_).d),vO 4]) [.dead,.dead,.tree (Bp ⟨z5,[]⟩ b d.at_).d.plan.shapes,.lst .lev (Bp ⟨z5,[]⟩ b d.at_).d.stack,.lst .ev (Bp ⟨z5,[]⟩ b d.at_).out])∧(.tup [.agg (Ac 0 1 (Bp ⟨z5,[]⟩ b d.at_).d),vO 2]:S)= .tup [.agg z24,vO 2]∧([.tree (Bp ⟨z5,[]⟩ b d.at_).d.plan.shapes,.lst .lev (Bp ⟨z5,[]⟩ b d.at_).d.stack,.lst .ev (Bp ⟨z5,[]⟩ b d.at_).out]:List Blk)=[.tree z21.d.plan.shapes,.lst .lev z21.d.stack,.lst .ev z21.out]))∧(z56=false→(Fun Tryz.prog 60 [.agg (Bt d)] [] (.v z34) [])∧z61∧z62∧(z38=true→(Fun Tryz.prog 65 [.agg z13,vI b,vI (Bq d)] [.tree d.plan.shapes,.lst .lev z8] (.tup [.agg (Ac 2 3 (C7 ⟨z6,[]⟩ b).d),vO 4]) [.dead,.dead,.tree (C7 ⟨z6,[]⟩ b).d.plan.shapes,.lst .lev (C7 ⟨z6,[]⟩ b).d.stack,.lst .ev (C7 ⟨z6,[]⟩ b).out])∧(.tup [.agg (Ac 0 1 (C7 ⟨z6,[]⟩ b).d),vO 2]:S)= .tup [.agg z24,vO 2]∧([.tree (C7 ⟨z6,[]⟩ b).d.plan.shapes,.lst .lev (C7 ⟨z6,[]⟩ b).d.stack,.lst .ev (C7 ⟨z6,[]⟩ b).out]:List Blk)=[.tree z21.d.plan.shapes,.lst .lev z21.d.stack,.lst .ev z21.out])∧(z38=false→(Fun Tryz.prog 66 [.agg z13,vI b,vI d.at_] [.tree d.plan.shapes,.lst .lev z8] (.tup [.agg (Ac 2 3 (Bp ⟨z6,[]⟩ b d.at_).d),vO 4]) [.dead,.dead,.tree (Bp ⟨z6,[]⟩ b d.at_).d.plan.shapes,.lst .lev (Bp ⟨z6,[]⟩ b d.at_).d.stack,.lst .ev (Bp ⟨z6,[]⟩ b d.at_).out])∧(.tup [.agg (Ac 0 1 (Bp ⟨z6,[]⟩ b d.at_).d),vO 2]:S)= .tup [.agg z24,vO 2]∧([.tree (Bp ⟨z6,[]⟩ b d.at_).d.plan.shapes,.lst .lev (Bp ⟨z6,[]⟩ b d.at_).d.stack,.lst .ev (Bp ⟨z6,[]⟩ b d.at_).out]:List Blk)=[.tree z21.d.plan.shapes,.lst .lev z21.d.stack,.lst .ev z21.out]))))))∧((decide (0<z20))=false→(z37=true→z25∧(Fun Tryz.prog 60 [.agg (Bt d)] [] (.v z34) [])∧(z27=true→(Fun Tryz.prog 61 [.agg z12] [.tree d.plan.shapes,.lst .lev d.stack] (.tup [.agg z44,vO 4]) z31)∧z45= .tup [.agg z24,vO 2]∧z48=[.tree z21.d.plan.shapes,.lst .lev z21.d.stack,.lst .ev z21.out])∧(z27=false→(z37=true)∧(z50=true→(Fun Tryz.prog 62 [.agg (H9 d.utf),vI b] [] (.tup [.agg (H9 z26),vB z40.isSome]) [])∧(z60=true→(Fun Tryz.prog 63 [.agg z12,vI 5,vI d.at_] [.tree d.plan.shapes,.lst .lev d.stack] (.tup [.agg (Ac 2 3 z39),vO 4]) z49)∧(.tup [.agg (Ac 0 1 z39),vO 2]:S)= .tup [.agg z24,vO 2]∧([.tree z39.plan.shapes,.lst .lev z39.stack,.lst .ev [A2 5 d.at_]]:List Blk)=[.tree z21.d.plan.shapes,.lst .lev z21.d.stack,.lst .ev z21.out])∧(z60=false→z32∧(Fun Tryz.prog 64 [.agg z14,.agg z15] [.tree d.plan.shapes,.lst .lev d.stack] (.tup [.agg (Ac 2 3 z19.d),vO 4]) z46)∧(.tup [.agg (Ac 0 1 z19.d),vO 2]:S)= .tup [.agg z24,vO 2]∧([.tree z19.d.plan.shapes,.lst .lev z19.d.stack,.lst .ev (z23::z19.out)]:List Blk)=[.tree z21.d.plan.shapes,.lst .lev z21.d.stack,.lst .ev z21.out]))∧(z50=false→z32∧(Fun Tryz.prog 64 [.agg z12,.agg z15] [.tree d.plan.shapes,.lst .lev d.stack] (.tup [.agg z44,vO 4]) z47)∧z45= .tup [.agg z24,vO 2]∧([.tree z22.d.plan.shapes,.lst .lev z22.d.stack,.lst .ev (z23::z22.out)]:List Blk)=[.tree z21.d.plan.shapes,.lst .lev z21.d.stack,.lst .ev z21.out])))∧(z37=false→(z27=true→z25∧(Fun Tryz.prog 60 [.agg (Bt d)] [] (.v z34) [])∧(z27=true)∧(Fun Tryz.prog 61 [.agg z12] [.tree d.plan.shapes,.lst .lev d.stack] (.tup [.agg z44,vO 4]) z31)∧z45= .tup [.agg z24,vO 2]∧z48=[.tree z21.d.plan.shapes,.lst .lev z21.d.stack,.lst .ev z21.out])∧(z27=false→(z56=true→z25∧(Fun Tryz.prog 60 [.agg (Bt d)] [] (.v z34) [])∧z61∧z62∧(z38=true→(Fun Tryz.prog 65 [.agg z12,vI b,vI (Bq d)] [.tree d.plan.shapes,.lst .lev d.stack] (.tup [.agg (Ac 2 3 z35.d),vO 4]) z51)∧(.tup [.agg (Ac 0 1 z35.d),vO 2]:S)= .tup [.agg z24,vO 2]∧([.tree z35.d.plan.shapes,.lst .lev z35.d.stack,.lst .ev z35.out]:List Blk)=[.tree z21.d.plan.shapes,.lst .lev z21.d.stack,.lst .ev z21.out])∧(z38=false→(Fun Tryz.prog 66 [.agg z12,vI b,vI d.at_] [.tree d.plan.shapes,.lst .lev d.stack] (.tup [.agg (Ac 2 3 z28.d),vO 4]) z52)∧(.tup [.agg (Ac 0 1 z28.d),vO 2]:S)= .tup [.agg z24,vO 2]∧([.tree z28.d.plan.shapes,.lst .lev z28.d.stack,.lst .ev z28.out]:List Blk)=[.tree z21.d.plan.shapes,.lst .lev z21.d.stack,.lst .ev z21.out]))∧(z56=false→(Fun Tryz.prog 60 [.agg (Bt d)] [] (.v z34) [])∧z61∧z62∧(z38=true→(Fun Tryz.prog 65 [.agg z13,vI b,vI (Bq d)] [.tree d.plan.shapes,.lst .lev d.stack] (.tup [.agg (Ac 2 3 z36.d),vO 4]) z53)∧(.tup [.agg (Ac 0 1 z36.d),vO 2]:S)= .tup [.agg z24,vO 2]∧([.tree z36.d.plan.shapes,.lst .lev z36.d.stack,.lst .ev z36.out]:List Blk)=[.tree z21.d.plan.shapes,.lst .lev z21.d.stack,.lst .ev z21.out])∧(z38=false→(Fun Tryz.prog 66 [.agg z13,vI b,vI d.at_] [.tree d.plan.shapes,.lst .lev d.stack] (.tup [.agg (Ac 2 3 z29.d),vO 4]) z54)∧(.tup [.agg (Ac 0 1 z29.d),vO 2]:S)= .tup [.agg z24,vO 2]∧([.tree z29.d.plan.shapes,.lst .lev z29.d.stack,.lst .ev z29.out]:List Blk)=[.tree z21.d.plan.shapes,.lst .lev z21.d.stack,.lst .ev z21.out]))))))))))) Q4 ?_
 refine⟨(Pr d Q2 (hp2) Q2),(Ze d Q2 Q2),fun h1=>have q1:=Ap h1;?_,fun h1=>have q1:=An h1;?_⟩
 refine have hm1:(Bc d b).d=d:=?_;?_
 rotate_left
 refine have hm2:(Bc d b).out=([]:List Ev):=?_;?_
 rotate_left
 exact⟨Q7,Q11⟩
 have hok:B9 d=true:=q1
 have hmw:=U8 hok hp4
 have hlv:=By hmw.lv
 have hpt:=B8 hlv.1
 have htb:=Gt hmw.lv
 have hbb:=hmw.b0
 have hat:=hmw.at_
 have hwt:=hmw.want
 have hwd:=Ho d
 refine dsp (fun h2 p2=>?_) fun h2 p2=>?_
 refine have hm1:(Bc d b).d=d:=?_;?_
 rotate_left
 refine have hm2:(Bc d b).out=([]:List Ev):=?_;?_
 rotate_left
 exact⟨Q7,Q11⟩
 have hst:=U9 hok (by simpa using h2)
 refine⟨(Be _ _ _),fun h3=>have q3:=Ap h3;have p3:=A0 q3;?_,fun h3=>have q3:=An h3;have p3:=As q3;?_⟩
 refine have hm1:(Bc d b).d=d:=?_;?_
 rotate_left
 refine have hm2:(Bc d b).out=([]:List Ev):=?_;?_
 rotate_left
 exact⟨Q7,Q11⟩
 have hwi:=As q3
 refine dsp (fun h4 p4=>?_) fun h4 p4=>?_
 refine have hm1:(Bc d b).d=d:=?_;?_
 rotate_left
 refine have hm2:(Bc d b).out=([]:List Ev):=?_;?_
 rotate_left
 exact⟨Q7,Q11⟩
 have hms:=hmw.step hst.1 hst.2.1 hst.2.2.1
 have htk:D0 d=true:=by simp only[D0,Bool.and_eq_true,Bool.not_eq_true',decide_eq_false_iff_not,decide_eq_true_eq];omega
 have hsb:Bc d b=Dn ⟨d,[]⟩ b:=by unfold Bc;rw[if_pos ⟨hok,htk,by assumption⟩]
 refine⟨(Ae Q2 Q2),dsp (fun h5 p5=>?_) fun h5 p5=>?_⟩
 have hne:d.stack≠[]:=fun e=>by have:=congrArg List.length e;simp only[List.length_nil] at this;omega
 refine⟨(Bh (l:=d.stack) (i:=Int.toNat (((List.length d.stack:Nat):Int)-1)) Q2),fun x1 hx1=>?_⟩
 have hll:=Jn (d:=d) (by rw[←hx1];congr 1;omega)
 have hix:Int.toNat ((d.stack.length:Int)-1)=d.stack.length-1:=by omega
 refine⟨(Ae Q2 Q2),(Ae Q2 Q2),(Ae Q2 Q2),(Ae Q2 Q2),Q2,Q2,Q2,Q2,hx1,hx1,(Ae Q2 Q2),(Ae Q2 Q2),Q2,Q2,Q2,Q2,hx1,dsp (fun h6 p6=>?_) fun h6 p6=>?_⟩
 refine⟨(Ae Q2 Q2),(Jq d),dsp (fun h7 p7=>?_) fun h7 p7=>?_⟩
 refine⟨(Hp (⟨d.plan,d.mode,List.set d.stack (Int.toNat (((List.length d.stack:Nat):Int)-1)) (⟨x1.msg,x1.left-1⟩:Lev),d.scan,d.start,d.at_+1,d.field,d.wire,d.want-1,d.utf,d.end_⟩:Dcd) Q19),?_⟩
 refine have hm1:(Bc d b).d=(Ad ⟨(⟨d.plan,d.mode,List.set d.stack (Int.toNat (((List.length d.stack:Nat):Int)-1)) (⟨x1.msg,x1.left-1⟩:Lev),d.scan,d.start,d.at_+1,d.field,d.wire,d.want-1,d.utf,d.end_⟩:Dcd),[]⟩).d:=?_;?_
 rotate_left
 refine have hm2:(Bc d b).out=(Ad ⟨(⟨d.plan,d.mode,List.set d.stack (Int.toNat (((List.length d.stack:Nat):Int)-1)) (⟨x1.msg,x1.left-1⟩:Lev),d.scan,d.start,d.at_+1,d.field,d.wire,d.want-1,d.utf,d.end_⟩:Dcd),[]⟩).out:=?_;?_
 rotate_left
 exact⟨Q7,Q11⟩
 refine⟨h6,dsp (fun h8 p8=>?_) fun h8 p8=>?_⟩
 refine⟨(Sz d.utf _),fun h9=>have q9:=Ap h9;?_,fun h9=>have q9:=An h9;?_⟩
 have hu:Bo d.utf b=none:=by simpa using q9
 refine⟨(C4 (⟨d.plan,d.mode,List.set d.stack (Int.toNat (((List.length d.stack:Nat):Int)-1)) (⟨x1.msg,x1.left-1⟩:Lev),d.scan,d.start,d.at_+1,d.field,d.wire,d.want-1,d.utf,d.end_⟩:Dcd) _ _),?_⟩
 refine have hm1:(Bc d b).d=(A3 (⟨d.plan,d.mode,List.set d.stack (Int.toNat (((List.length d.stack:Nat):Int)-1)) (⟨x1.msg,x1.left-1⟩:Lev),d.scan,d.start,d.at_+1,d.field,d.wire,d.want-1,d.utf,d.end_⟩:Dcd) 5 d.at_):=?_;?_
 rotate_left
 refine have hm2:(Bc d b).out=[A2 5 d.at_]:=?_;?_
 rotate_left
 exact⟨Q7,Q11⟩
 obtain ⟨u,hu⟩:=Option.isSome_iff_exists.1 q9
 have hug:(Bo d.utf b).getD d.utf=u:=by rw[hu];rfl
 refine⟨(Lv Q2 Q2),(Hq (⟨d.plan,d.mode,List.set d.stack (Int.toNat (((List.length d.stack:Nat):Int)-1)) (⟨x1.msg,x1.left-1⟩:Lev),d.scan,d.start,d.at_+1,d.field,d.wire,d.want-1,((Bo d.utf b).getD d.utf),d.end_⟩:Dcd) (⟨4,0,0,0,List.map Bb [b],0,0⟩:Ev) Q19),?_⟩
 refine have hm1:(Bc d b).d=(Ad ⟨(⟨d.plan,d.mode,List.set d.stack (Int.toNat (((List.length d.stack:Nat):Int)-1)) (⟨x1.msg,x1.left-1⟩:Lev),d.scan,d.start,d.at_+1,d.field,d.wire,d.want-1,((Bo d.utf b).getD d.utf),d.end_⟩:Dcd),[]⟩).d:=?_;?_
 rotate_left
 refine have hm2:(Bc d b).out=(⟨4,0,0,0,List.map Bb [b],0,0⟩:Ev)::(Ad ⟨(⟨d.plan,d.mode,List.set d.stack (Int.toNat (((List.length d.stack:Nat):Int)-1)) (⟨x1.msg,x1.left-1⟩:Lev),d.scan,d.start,d.at_+1,d.field,d.wire,d.want-1,((Bo d.utf b).getD d.utf),d.end_⟩:Dcd),[]⟩).out:=?_;?_
 rotate_left
 exact⟨Q7,Q11⟩
 refine⟨(Lv Q2 Q2),(Hq (⟨d.plan,d.mode,List.set d.stack (Int.toNat (((List.length d.stack:Nat):Int)-1)) (⟨x1.msg,x1.left-1⟩:Lev),d.scan,d.start,d.at_+1,d.field,d.wire,d.want-1,d.utf,d.end_⟩:Dcd) (⟨4,0,0,0,List.map Bb [b],0,0⟩:Ev) Q19),?_⟩
 refine have hm1:(Bc d b).d=(Ad ⟨(⟨d.plan,d.mode,List.set d.stack (Int.toNat (((List.length d.stack:Nat):Int)-1)) (⟨x1.msg,x1.left-1⟩:Lev),d.scan,d.start,d.at_+1,d.field,d.wire,d.want-1,d.utf,d.end_⟩:Dcd),[]⟩).d:=?_;?_
 rotate_left
 refine have hm2:(Bc d b).out=(⟨4,0,0,0,List.map Bb [b],0,0⟩:Ev)::(Ad ⟨(⟨d.plan,d.mode,List.set d.stack (Int.toNat (((List.length d.stack:Nat):Int)-1)) (⟨x1.msg,x1.left-1⟩:Lev),d.scan,d.start,d.at_+1,d.field,d.wire,d.want-1,d.utf,d.end_⟩:Dcd),[]⟩).out:=?_;?_
 rotate_left
 exact⟨Q7,Q11⟩
 refine dsp (fun h7 p7=>?_) fun h7 p7=>?_
 refine⟨(Ae Q2 Q2),(Jq d),h7,(Hp (⟨d.plan,d.mode,List.set d.stack (Int.toNat (((List.length d.stack:Nat):Int)-1)) (⟨x1.msg,x1.left-1⟩:Lev),d.scan,d.start,d.at_+1,d.field,d.wire,d.want-1,d.utf,d.end_⟩:Dcd) Q19),?_⟩
 refine have hm1:(Bc d b).d=(Ad ⟨(⟨d.plan,d.mode,List.set d.stack (Int.toNat (((List.length d.stack:Nat):Int)-1)) (⟨x1.msg,x1.left-1⟩:Lev),d.scan,d.start,d.at_+1,d.field,d.wire,d.want-1,d.utf,d.end_⟩:Dcd),[]⟩).d:=?_;?_
 rotate_left
 refine have hm2:(Bc d b).out=(Ad ⟨(⟨d.plan,d.mode,List.set d.stack (Int.toNat (((List.length d.stack:Nat):Int)-1)) (⟨x1.msg,x1.left-1⟩:Lev),d.scan,d.start,d.at_+1,d.field,d.wire,d.want-1,d.utf,d.end_⟩:Dcd),[]⟩).out:=?_;?_
 rotate_left
 exact⟨Q7,Q11⟩
 refine dsp (fun h8 p8=>?_) fun h8 p8=>?_
 refine⟨(Ae Q2 Q2),(Jq d),h7,h6,dsp (fun h9 p9=>?_) fun h9 p9=>?_⟩
 refine⟨(Zh (⟨d.plan,d.mode,List.set d.stack (Int.toNat (((List.length d.stack:Nat):Int)-1)) (⟨x1.msg,x1.left-1⟩:Lev),d.scan,d.start,d.at_+1,d.field,d.wire,d.want-1,d.utf,d.end_⟩:Dcd) _ _ (Q43) Q2 Q8 (hst.2.2.2.1)),?_⟩
 refine have hm1:(Bc d b).d=(C7 ⟨(⟨d.plan,d.mode,List.set d.stack (Int.toNat (((List.length d.stack:Nat):Int)-1)) (⟨x1.msg,x1.left-1⟩:Lev),d.scan,d.start,d.at_+1,d.field,d.wire,d.want-1,d.utf,d.end_⟩:Dcd),[]⟩ b).d:=?_;?_
 rotate_left
 refine have hm2:(Bc d b).out=(C7 ⟨(⟨d.plan,d.mode,List.set d.stack (Int.toNat (((List.length d.stack:Nat):Int)-1)) (⟨x1.msg,x1.left-1⟩:Lev),d.scan,d.start,d.at_+1,d.field,d.wire,d.want-1,d.utf,d.end_⟩:Dcd),[]⟩ b).out:=?_;?_
 rotate_left
 exact⟨Q7,Q11⟩
 refine⟨(Vf (⟨d.plan,d.mode,List.set d.stack (Int.toNat (((List.length d.stack:Nat):Int)-1)) (⟨x1.msg,x1.left-1⟩:Lev),d.scan,d.start,d.at_+1,d.field,d.wire,d.want-1,d.utf,d.end_⟩:Dcd) _ _ (Q43) Q2),?_⟩
 refine have hm1:(Bc d b).d=(Bp ⟨(⟨d.plan,d.mode,List.set d.stack (Int.toNat (((List.length d.stack:Nat):Int)-1)) (⟨x1.msg,x1.left-1⟩:Lev),d.scan,d.start,d.at_+1,d.field,d.wire,d.want-1,d.utf,d.end_⟩:Dcd),[]⟩ b d.at_).d:=?_;?_
 rotate_left
 refine have hm2:(Bc d b).out=(Bp ⟨(⟨d.plan,d.mode,List.set d.stack (Int.toNat (((List.length d.stack:Nat):Int)-1)) (⟨x1.msg,x1.left-1⟩:Lev),d.scan,d.start,d.at_+1,d.field,d.wire,d.want-1,d.utf,d.end_⟩:Dcd),[]⟩ b d.at_).out:=?_;?_
 rotate_left
 exact⟨Q7,Q11⟩
 refine⟨(Jq d),h7,h6,dsp (fun h9 p9=>?_) fun h9 p9=>?_⟩
 refine⟨(Zh (⟨d.plan,d.mode,List.set d.stack (Int.toNat (((List.length d.stack:Nat):Int)-1)) (⟨x1.msg,x1.left-1⟩:Lev),d.scan,d.start,d.at_+1,d.field,d.wire,d.want,d.utf,d.end_⟩:Dcd) _ _ (Q44) Q2 Q8 (hst.2.2.2.1)),?_⟩
 refine have hm1:(Bc d b).d=(C7 ⟨(⟨d.plan,d.mode,List.set d.stack (Int.toNat (((List.length d.stack:Nat):Int)-1)) (⟨x1.msg,x1.left-1⟩:Lev),d.scan,d.start,d.at_+1,d.field,d.wire,d.want,d.utf,d.end_⟩:Dcd),[]⟩ b).d:=?_;?_
 rotate_left
 refine have hm2:(Bc d b).out=(C7 ⟨(⟨d.plan,d.mode,List.set d.stack (Int.toNat (((List.length d.stack:Nat):Int)-1)) (⟨x1.msg,x1.left-1⟩:Lev),d.scan,d.start,d.at_+1,d.field,d.wire,d.want,d.utf,d.end_⟩:Dcd),[]⟩ b).out:=?_;?_
 rotate_left
 exact⟨Q7,Q11⟩
 refine⟨(Vf (⟨d.plan,d.mode,List.set d.stack (Int.toNat (((List.length d.stack:Nat):Int)-1)) (⟨x1.msg,x1.left-1⟩:Lev),d.scan,d.start,d.at_+1,d.field,d.wire,d.want,d.utf,d.end_⟩:Dcd) _ _ (Q44) Q2),?_⟩
 refine have hm1:(Bc d b).d=(Bp ⟨(⟨d.plan,d.mode,List.set d.stack (Int.toNat (((List.length d.stack:Nat):Int)-1)) (⟨x1.msg,x1.left-1⟩:Lev),d.scan,d.start,d.at_+1,d.field,d.wire,d.want,d.utf,d.end_⟩:Dcd),[]⟩ b d.at_).d:=?_;?_
 rotate_left
 refine have hm2:(Bc d b).out=(Bp ⟨(⟨d.plan,d.mode,List.set d.stack (Int.toNat (((List.length d.stack:Nat):Int)-1)) (⟨x1.msg,x1.left-1⟩:Lev),d.scan,d.start,d.at_+1,d.field,d.wire,d.want,d.utf,d.end_⟩:Dcd),[]⟩ b d.at_).out:=?_;?_
 rotate_left
 exact⟨Q7,Q11⟩
 have hne:d.stack=[]:=List.eq_nil_of_length_eq_zero (by omega)
 refine dsp (fun h6 p6=>?_) fun h6 p6=>?_
 refine⟨(Ae Q2 Q2),(Jq d),dsp (fun h7 p7=>?_) fun h7 p7=>?_⟩
 refine⟨(Hp (⟨d.plan,d.mode,d.stack,d.scan,d.start,d.at_+1,d.field,d.wire,d.want-1,d.utf,d.end_⟩:Dcd) Q8),?_⟩
 refine have hm1:(Bc d b).d=(Ad ⟨(⟨d.plan,d.mode,d.stack,d.scan,d.start,d.at_+1,d.field,d.wire,d.want-1,d.utf,d.end_⟩:Dcd),[]⟩).d:=?_;?_
 rotate_left
 refine have hm2:(Bc d b).out=(Ad ⟨(⟨d.plan,d.mode,d.stack,d.scan,d.start,d.at_+1,d.field,d.wire,d.want-1,d.utf,d.end_⟩:Dcd),[]⟩).out:=?_;?_
 rotate_left
 exact⟨Q7,Q11⟩
 refine⟨h6,dsp (fun h8 p8=>?_) fun h8 p8=>?_⟩
 refine⟨(Sz d.utf _),fun h9=>have q9:=Ap h9;?_,fun h9=>have q9:=An h9;?_⟩
 have hu:Bo d.utf b=none:=by simpa using q9
 refine⟨(C4 (⟨d.plan,d.mode,d.stack,d.scan,d.start,d.at_+1,d.field,d.wire,d.want-1,d.utf,d.end_⟩:Dcd) _ _),?_⟩
 refine have hm1:(Bc d b).d=(A3 (⟨d.plan,d.mode,d.stack,d.scan,d.start,d.at_+1,d.field,d.wire,d.want-1,d.utf,d.end_⟩:Dcd) 5 d.at_):=?_;?_
 rotate_left
 refine have hm2:(Bc d b).out=[A2 5 d.at_]:=?_;?_
 rotate_left
 exact⟨Q7,Q11⟩
 obtain ⟨u,hu⟩:=Option.isSome_iff_exists.1 q9
 have hug:(Bo d.utf b).getD d.utf=u:=by rw[hu];rfl
 refine⟨(Lv Q2 Q2),(Hq (⟨d.plan,d.mode,d.stack,d.scan,d.start,d.at_+1,d.field,d.wire,d.want-1,((Bo d.utf b).getD d.utf),d.end_⟩:Dcd) (⟨4,0,0,0,List.map Bb [b],0,0⟩:Ev) Q8),?_⟩
 refine have hm1:(Bc d b).d=(Ad ⟨(⟨d.plan,d.mode,d.stack,d.scan,d.start,d.at_+1,d.field,d.wire,d.want-1,((Bo d.utf b).getD d.utf),d.end_⟩:Dcd),[]⟩).d:=?_;?_
 rotate_left
 refine have hm2:(Bc d b).out=(⟨4,0,0,0,List.map Bb [b],0,0⟩:Ev)::(Ad ⟨(⟨d.plan,d.mode,d.stack,d.scan,d.start,d.at_+1,d.field,d.wire,d.want-1,((Bo d.utf b).getD d.utf),d.end_⟩:Dcd),[]⟩).out:=?_;?_
 rotate_left
 exact⟨Q7,Q11⟩
 refine⟨(Lv Q2 Q2),(Hq (⟨d.plan,d.mode,d.stack,d.scan,d.start,d.at_+1,d.field,d.wire,d.want-1,d.utf,d.end_⟩:Dcd) (⟨4,0,0,0,List.map Bb [b],0,0⟩:Ev) Q8),?_⟩
 refine have hm1:(Bc d b).d=(Ad ⟨(⟨d.plan,d.mode,d.stack,d.scan,d.start,d.at_+1,d.field,d.wire,d.want-1,d.utf,d.end_⟩:Dcd),[]⟩).d:=?_;?_
 rotate_left
 refine have hm2:(Bc d b).out=(⟨4,0,0,0,List.map Bb [b],0,0⟩:Ev)::(Ad ⟨(⟨d.plan,d.mode,d.stack,d.scan,d.start,d.at_+1,d.field,d.wire,d.want-1,d.utf,d.end_⟩:Dcd),[]⟩).out:=?_;?_
 rotate_left
 exact⟨Q7,Q11⟩
 refine dsp (fun h7 p7=>?_) fun h7 p7=>?_
 refine⟨(Ae Q2 Q2),(Jq d),h7,(Hp (⟨d.plan,d.mode,d.stack,d.scan,d.start,d.at_+1,d.field,d.wire,d.want-1,d.utf,d.end_⟩:Dcd) Q8),?_⟩
 refine have hm1:(Bc d b).d=(Ad ⟨(⟨d.plan,d.mode,d.stack,d.scan,d.start,d.at_+1,d.field,d.wire,d.want-1,d.utf,d.end_⟩:Dcd),[]⟩).d:=?_;?_
 rotate_left
 refine have hm2:(Bc d b).out=(Ad ⟨(⟨d.plan,d.mode,d.stack,d.scan,d.start,d.at_+1,d.field,d.wire,d.want-1,d.utf,d.end_⟩:Dcd),[]⟩).out:=?_;?_
 rotate_left
 exact⟨Q7,Q11⟩
 refine dsp (fun h8 p8=>?_) fun h8 p8=>?_
 refine⟨(Ae Q2 Q2),(Jq d),h7,h6,dsp (fun h9 p9=>?_) fun h9 p9=>?_⟩
 refine⟨(Zh (⟨d.plan,d.mode,d.stack,d.scan,d.start,d.at_+1,d.field,d.wire,d.want-1,d.utf,d.end_⟩:Dcd) _ _ (Q62) Q2 Q8 (hst.2.2.2.1)),?_⟩
 refine have hm1:(Bc d b).d=(C7 ⟨(⟨d.plan,d.mode,d.stack,d.scan,d.start,d.at_+1,d.field,d.wire,d.want-1,d.utf,d.end_⟩:Dcd),[]⟩ b).d:=?_;?_
 rotate_left
 refine have hm2:(Bc d b).out=(C7 ⟨(⟨d.plan,d.mode,d.stack,d.scan,d.start,d.at_+1,d.field,d.wire,d.want-1,d.utf,d.end_⟩:Dcd),[]⟩ b).out:=?_;?_
 rotate_left
 exact⟨Q7,Q11⟩
 refine⟨(Vf (⟨d.plan,d.mode,d.stack,d.scan,d.start,d.at_+1,d.field,d.wire,d.want-1,d.utf,d.end_⟩:Dcd) _ _ (Q62) Q2),?_⟩
 refine have hm1:(Bc d b).d=(Bp ⟨(⟨d.plan,d.mode,d.stack,d.scan,d.start,d.at_+1,d.field,d.wire,d.want-1,d.utf,d.end_⟩:Dcd),[]⟩ b d.at_).d:=?_;?_
 rotate_left
 refine have hm2:(Bc d b).out=(Bp ⟨(⟨d.plan,d.mode,d.stack,d.scan,d.start,d.at_+1,d.field,d.wire,d.want-1,d.utf,d.end_⟩:Dcd),[]⟩ b d.at_).out:=?_;?_
 rotate_left
 exact⟨Q7,Q11⟩
 refine⟨(Jq d),h7,h6,dsp (fun h9 p9=>?_) fun h9 p9=>?_⟩
 refine⟨(Zh (⟨d.plan,d.mode,d.stack,d.scan,d.start,d.at_+1,d.field,d.wire,d.want,d.utf,d.end_⟩:Dcd) _ _ (Q63) Q2 Q8 (hst.2.2.2.1)),?_⟩
 refine have hm1:(Bc d b).d=(C7 ⟨(⟨d.plan,d.mode,d.stack,d.scan,d.start,d.at_+1,d.field,d.wire,d.want,d.utf,d.end_⟩:Dcd),[]⟩ b).d:=?_;?_
 rotate_left
 refine have hm2:(Bc d b).out=(C7 ⟨(⟨d.plan,d.mode,d.stack,d.scan,d.start,d.at_+1,d.field,d.wire,d.want,d.utf,d.end_⟩:Dcd),[]⟩ b).out:=?_;?_
 rotate_left
 exact⟨Q7,Q11⟩
 refine⟨(Vf (⟨d.plan,d.mode,d.stack,d.scan,d.start,d.at_+1,d.field,d.wire,d.want,d.utf,d.end_⟩:Dcd) _ _ (Q63) Q2),?_⟩
 refine have hm1:(Bc d b).d=(Bp ⟨(⟨d.plan,d.mode,d.stack,d.scan,d.start,d.at_+1,d.field,d.wire,d.want,d.utf,d.end_⟩:Dcd),[]⟩ b d.at_).d:=?_;?_
 rotate_left
 refine have hm2:(Bc d b).out=(Bp ⟨(⟨d.plan,d.mode,d.stack,d.scan,d.start,d.at_+1,d.field,d.wire,d.want,d.utf,d.end_⟩:Dcd),[]⟩ b d.at_).out:=?_;?_
 rotate_left
 exact⟨Q7,Q11⟩
 all_goals first|((rw[hsb];simp_all[Dn,Ci,Dy,Ak6,A1,A3,Rv,Cf];done))|((rw[hsb];have hw0:Bq d=0:=(by omega);simp_all[Dn,Ci,Dy,Ak6,A1,A3,Rv,Cf];done))|((rw[hsb];grind[Dn,Ci,Dy,Ak6,A1,A3,Rv,Cf]))|(simp_all[Bc,D0];done)|(grind[Bc,D0])
structure Mr where
 plan:Pln
 s:List UInt8
 at_:Int
 out:List Ev
 fail:Ev
 deriving Inhabited
def Fx (r:Mr) (c a:Int):Mr:=⟨r.plan,r.s,r.at_,r.out,A2 c a⟩
def Adm (r:Mr) (a:Int):Mr:=⟨r.plan,r.s,a,r.out,r.fail⟩
def Ee (r:Mr) (e:Ev):Mr:=⟨r.plan,r.s,r.at_,r.out++[e],r.fail⟩
def Fv (r:Mr) (end_:Int):Bool:=decide ((Da r.s r.at_ end_).2.2=0)
def Em (r:Mr) (end_:Int):Int:=if Fv r end_ then (Da r.s r.at_ end_).1 else 0
def D4 (r:Mr) (end_:Int):Mr:=if Fv r end_ then Adm r (Da r.s r.at_ end_).2.1 else Fx r (Da r.s r.at_ end_).2.2 (Da r.s r.at_ end_).2.1
def Aca (r:Mr) (w end_:Int):Bool:=decide (w≤end_-r.at_)&&Sp r.s r.at_ w
def Aon (r:Mr) (w end_:Int):Int:=if Aca r w end_ then Aof r.s r.at_ w else 0
def Ahk (r:Mr) (w end_:Int):Mr:=if end_-r.at_<w then Fx r 9 r.at_ else if Sp r.s r.at_ w then Adm r (r.at_+w) else Fx r 10 (r.s.length:Int)
def Rw (r:Mr) (wire end_:Int):Bool:=if 0<Ay wire then Aca r (Ay wire) end_ else Fv r end_
def Adn (r:Mr) (wire end_:Int):Int:=if 0<Ay wire then Aon r (Ay wire) end_ else Em r end_
def Tu (r:Mr) (wire end_:Int):Mr:=if 0<Ay wire then Ahk r (Ay wire) end_ else D4 r end_
def Lr (r:Mr) (f:Fld) (wire end_:Int):Mr:=if Rw r wire end_=true∧0<f.number then Ee (Tu r wire end_) (E0 f (Adn r wire end_)) else Tu r wire end_
def Ko {α:Type} (go:α→Bool) (step:α→α):Nat→α→α
 |0,a=>a
 |k+1,a=>if go a then Ko go step k (step a) else a
theorem Gj {α:Type} {go:α→Bool} {step:α→α} {k:Nat} {a:α} (h:go a=false):Ko go step k a=a:=by
 cases k with
 |zero=>rfl
 |succ k=>simp[Ko,h]
theorem Aew {α:Type} {go:α→Bool} {step:α→α} (inv:α→Prop) (μ:α→Nat) (dec: ∀a,inv a→go a=true→inv (step a)∧μ (step a)<μ a): ∀(n:Nat) (a:α) (k l:Nat),μ a≤n→inv a→μ a≤k→μ a≤l→Ko go step k a=Ko go step l a:=by
 intro n
 induction n with
 |zero=>
  intro a k l h hi _ _
  cases hg:go a with
  |false=>rw[Gj hg,Gj hg]
  |true=>have:=(dec a hi hg).2;omega
 |succ n ih=>
  intro a k l h hi hk hl
  cases hg:go a with
  |false=>rw[Gj hg,Gj hg]
  |true=>
   obtain ⟨h1,h2⟩:=dec a hi hg
   obtain ⟨k,rfl⟩: ∃j,k=j+1:=⟨k-1,by omega⟩
   obtain ⟨l,rfl⟩: ∃j,l=j+1:=⟨l-1,by omega⟩
   simp only[Ko,hg,if_true]
   exact ih _ _ _ Q2 h1 Q2 Q2
theorem Zi {α:Type} {go:α→Bool} {step:α→α} (inv:α→Prop) (μ:α→Nat) (dec: ∀a,inv a→go a=true→inv (step a)∧μ (step a)<μ a) {a:α} (hi:inv a) (hg:go a=true):Ko go step (μ a) a=Ko go step (μ (step a)) (step a):=by
 obtain ⟨h1,h2⟩:=dec a hi hg
 obtain ⟨k,hk⟩: ∃j,μ a=j+1:=⟨μ a-1,by omega⟩
 rw[hk]
 simp only[Ko,hg,if_true]
 exact Aew inv μ dec _ _ _ _ (Nat.le_refl _) h1 Q2 (Nat.le_refl _)
def S7 (end_:Int) (r:Mr):Bool:=decide (r.at_<end_)&&decide (r.fail.kind=0)
def Wp (r:Mr):Nat:=if r.fail.kind=0 then (1+(r.s.length:Int)-r.at_).toNat else 0
def Xm (r:Mr) (f:Fld) (end_:Int):Mr:=Ko (S7 end_) (fun r=>Lr r f (Bw f.kind) end_) (Wp r) r
def Amc (f:Fld) (n:Int):Ev:=⟨3,f.number,0,n,[],0,0⟩
def Aoo (t:List UInt8):Ev:=⟨4,0,0,0,t,0,0⟩
def Aop:Ev:=⟨5,0,0,0,[],0,0⟩
def Uq (f:Fld) (n:Int):Ev:=⟨6,f.number,0,n,[],0,0⟩
def Ap0:Ev:=⟨7,0,0,0,[],0,0⟩
def Hr (r:Mr) (n:Int):List UInt8:=(r.s.drop r.at_.toNat).take n.toNat
def Ado (r:Mr) (f:Fld) (n:Int):Int:=if f.kind=6 then Uk utf0 (Hr r n) else-1
def App (r:Mr) (f:Fld) (n:Int):Utf:=if f.kind=6 then Rt utf0 (Hr r n) else utf0
def Ahm (r:Mr) (f:Fld) (n:Int):List UInt8:=if 0≤Ado r f n then (Hr r n).take (Ado r f n).toNat else Hr r n
def Ps (r:Mr) (f:Fld) (n:Int):Mr:=if Ahm r f n=[] then Ee r (Amc f n) else Ee (Ee r (Amc f n)) (Aoo (Ahm r f n))
def Acb (r:Mr) (f:Fld) (n:Int):Mr:=
 if 0≤Ado r f n then Fx (Ps r f n) 5 (r.at_+Ado r f n)
 else if ((Hr r n).length:Int)<n then Fx (Ps r f n) 10 (r.s.length:Int)
 else if (App r f n).want≠0 then Fx (Ps r f n) 5 (r.at_+n)
 else Ee (Adm (Ps r f n) (r.at_+n)) Aop
def Zj (sub:Mr→Fld→Int→Int→Mr) (r:Mr) (f:Fld) (known:Bool) (end_:Int):Mr:=
 if Fv r end_=false then D4 r end_
 else if end_-(D4 r end_).at_<Em r end_ then Fx (D4 r end_) 8 r.at_
 else if known=false then (if (r.s.length:Int)-(D4 r end_).at_<Em r end_ then Fx (D4 r end_) 10 (r.s.length:Int) else Adm (D4 r end_) ((D4 r end_).at_+Em r end_))
 else if f.kind=8 then sub (D4 r end_) f (Em r end_) r.at_
 else if C6 f.kind=true then Xm (D4 r end_) f ((D4 r end_).at_+Em r end_)
 else Acb (D4 r end_) f (Em r end_)
def Wq (sub:Mr→Fld→Int→Int→Mr) (shape end_:Int) (r:Mr):Mr:=
 if Fv r end_=false then D4 r end_
 else if Jk (Em r end_)=false then Fx (D4 r end_) 2 r.at_
 else if Ea (Aj (Em r end_))=false then Fx (D4 r end_) 3 r.at_
 else if (fieldAt r.plan.shapes shape (Bx (Em r end_))).isSome=true∧C1 ((fieldAt r.plan.shapes shape (Bx (Em r end_))).getD fld0) (Aj (Em r end_))=false then Fx (D4 r end_) 4 r.at_
 else if Aj (Em r end_)=2 then Zj sub (D4 r end_) ((fieldAt r.plan.shapes shape (Bx (Em r end_))).getD fld0) (fieldAt r.plan.shapes shape (Bx (Em r end_))).isSome end_
 else Lr (D4 r end_) ((fieldAt r.plan.shapes shape (Bx (Em r end_))).getD fld0) (Aj (Em r end_)) end_
def Aix:Nat→Int→Int→Mr→Mr
 |0,shape,end_,r=>Ko (S7 end_) (Wq (fun r _ _ start=>Fx r 6 start) shape end_) (Wp r) r
 |D+1,shape,end_,r=>Ko (S7 end_) (Wq (fun r f n _=>if (Aix D f.msg (r.at_+n) (Ee r (Uq f n))).fail.kind=0 then Ee (Aix D f.msg (r.at_+n) (Ee r (Uq f n))) Ap0 else Aix D f.msg (r.at_+n) (Ee r (Uq f n))) shape end_) (Wp r) r
def Apg:Nat→Mr→Fld→Int→Int→Mr
 |0=>fun r _ _ start=>Fx r 6 start
 |D+1=>fun r f n _=>if (Aix D f.msg (r.at_+n) (Ee r (Uq f n))).fail.kind=0 then Ee (Aix D f.msg (r.at_+n) (Ee r (Uq f n))) Ap0 else Aix D f.msg (r.at_+n) (Ee r (Uq f n))
theorem Am6 (D:Nat) (shape end_:Int) (r:Mr):Aix D shape end_ r=Ko (S7 end_) (Wq (Apg D) shape end_) (Wp r) r:=by
 cases D<;>rfl
/-! ### What steps keep -/
theorem Amd {s:List UInt8} {a e:Int} : ∀(f k:Nat) (u:Int),(vwA s a e f k u).2.2=0→a+k<(vwA s a e f k u).2.1∧(vwA s a e f k u).2.1≤e∧(vwA s a e f k u).2.1≤(s.length:Int)
 |0,k,u=>by simp[vwA]
 |f+1,k,u=>by
  rw[vwA]
  split
  ·simp
  split
  ·simp
  split
  ·simp
  split
  ·simp;omega
  ·intro h
   have:=Amd f (k+1) _ h
   rw[show ((k+1:Nat):Int)=(k:Int)+1 by simp] at this
   omega
theorem Aaw {s:List UInt8} {a e:Int} (h:(Da s a e).2.2=0):0≤a∧a<(Da s a e).2.1∧(Da s a e).2.1≤e∧(Da s a e).2.1≤(s.length:Int):=by
 unfold Da at h ⊢
 split
 ·rename_i hw
  rw[if_pos hw] at h
  have:=As hw
  have:=Amd 10 0 0 h
  rw[show ((0:Nat):Int)=0 from rfl] at this
  omega
 ·rename_i hw
  rw[if_neg hw] at h
  simp at h
structure Adv (r r':Mr):Prop where
 plan:r'.plan=r.plan
 s:r'.s=r.s
 at_:r'.fail.kind=0→r.at_≤r'.at_∧r'.at_≤(r.s.length:Int)
 fail:r'.fail.kind=0→r'.fail=r.fail
 room:r'.fail.kind=0→(r'.out.length:Int)+4*((r.s.length:Int)-r'.at_)≤(r.out.length:Int)+4*((r.s.length:Int)-r.at_)
 most:(r'.out.length:Int)≤(r.out.length:Int)+4*((r.s.length:Int)-r.at_)
def Adv1 (r r':Mr):Prop:=Adv r r'∧(r'.fail.kind=0→r.at_<r'.at_)
theorem Adv.trans {a b c:Mr} (h:Adv a b) (hb:b.fail.kind=0) (g:Adv b c):Adv a c:=by
 obtain ⟨h1,h2⟩:=h.at_ hb
 have hr:=h.room hb
 have gm:=g.most
 rw[h.s] at gm
 refine⟨g.plan.trans h.plan,g.s.trans h.s,fun hc=>?_,fun hc=>(g.fail hc).trans (h.fail hb),fun hc=>?_,by omega⟩
 ·have:=g.at_ hc
  rw[h.s] at this
  omega
 ·have:=g.room hc
  rw[h.s] at this
  omega
theorem Adv.refl (r:Mr) (h:r.at_≤(r.s.length:Int)):Adv r r:=⟨rfl,rfl,fun _=>⟨Int.le_refl _,h⟩,fun _=>rfl,fun _=>Int.le_refl _,by omega⟩
theorem Adv1.trans {a b c:Mr} (h:Adv1 a b) (hb:b.fail.kind=0) (g:Adv b c):Adv1 a c:=
 ⟨h.1.trans hb g,fun hc=>by
  have h1:=h.2 hb
  have:=g.at_ hc
  omega⟩
theorem Adv.failed {r r':Mr} (hp:r'.plan=r.plan) (hs:r'.s=r.s) (hk:r'.fail.kind≠0) (ho:(r'.out.length:Int)≤(r.out.length:Int)+4*((r.s.length:Int)-r.at_)):Adv r r':=
 ⟨hp,hs,fun h=>(hk h).elim,fun h=>(hk h).elim,fun h=>(hk h).elim,ho⟩
theorem Adv1.failed {r r':Mr} (hp:r'.plan=r.plan) (hs:r'.s=r.s) (hk:r'.fail.kind≠0) (ho:(r'.out.length:Int)≤(r.out.length:Int)+4*((r.s.length:Int)-r.at_)):Adv1 r r':=
 ⟨Adv.failed hp hs hk ho,fun h=>(hk h).elim⟩
theorem M7 (r:Mr) (c a:Int):(Fx r c a).fail.kind≠0:=by simp[Fx,A2]
theorem Tv {r:Mr} {c a:Int} (h:r.at_≤(r.s.length:Int)):Adv1 r (Fx r c a):=Adv1.failed rfl rfl (M7 r c a) (by simp only[Fx];omega)
theorem Adp {r:Mr} {e:Int} (h:Fv r e=true):D4 r e=Adm r (Da r.s r.at_ e).2.1:=by unfold D4;rw[if_pos h]
theorem Aax {r:Mr} {e:Int} (h:Fv r e=false):D4 r e=Fx r (Da r.s r.at_ e).2.2 (Da r.s r.at_ e).2.1:=by unfold D4;rw[if_neg (by simp[h])]
theorem Adq {r:Mr} {a:Int} (h1:r.at_<a) (h2:a≤(r.s.length:Int)):Adv1 r (Adm r a):=
 ⟨⟨rfl,rfl,fun _=>⟨by simp only[Adm];omega,h2⟩,fun _=>rfl,fun _=>by simp only[Adm];omega,by simp only[Adm];omega⟩,fun _=>h1⟩
theorem Pt {r:Mr} {e:Int} (h1:r.at_≤(r.s.length:Int)):Adv1 r (D4 r e)∧(Fv r e=true→0≤r.at_∧(D4 r e).at_≤e)∧(D4 r e).out=r.out:=by
 cases hok:Fv r e with
 |true=>
  rw[Adp hok]
  have hc:(Da r.s r.at_ e).2.2=0:=by simpa [Fv] using hok
  have hv:=Aaw hc
  exact⟨Adq hv.2.1 hv.2.2.2,fun _=>⟨hv.1,hv.2.2.1⟩,rfl⟩
 |false=>
  rw[Aax hok]
  exact⟨Tv h1,fun h=>by simp at h,rfl⟩
theorem Le {r:Mr} {e:Int} (h0:r.fail.kind=0):Fv r e=decide ((D4 r e).fail.kind=0):=by
 cases hok:Fv r e with
 |true=>rw[Adp hok];simp[Adm,h0]
 |false=>rw[Aax hok];rfl
theorem Aex {s:List UInt8} {a w:Int} (h:Sp s a w=true):(w=4∨w=8)∧0≤a∧a+w≤(s.length:Int):=by
 simp only[Sp,Bool.and_eq_true] at h
 have:=As h.2
 exact⟨Agw h.1,by omega,by omega⟩
theorem Ahn {r:Mr} {w e:Int} (h1:r.at_≤(r.s.length:Int)):Adv1 r (Ahk r w e)∧(Ahk r w e).out=r.out:=by
 unfold Ahk
 split
 ·exact⟨Tv h1,rfl⟩
 ·split
  ·rename_i h2 h3
   have:=Aex h3
   exact⟨Adq Q2 Q2,rfl⟩
  ·exact⟨Tv h1,rfl⟩
theorem Aho {r:Mr} {w e:Int} (h1:r.at_≤(r.s.length:Int)):Adv1 r (Tu r w e)∧(Tu r w e).out=r.out:=by
 unfold Tu;split
 ·exact Ahn h1
 ·exact⟨(Pt h1).1,(Pt h1).2.2⟩
theorem Pu {r:Mr} {w e:Int} (h0:r.fail.kind=0):Rw r w e=decide ((Tu r w e).fail.kind=0):=by
 unfold Rw Tu;split
 ·unfold Ahk Aca
  split
  ·rename_i h;rw[decide_eq_false (by omega)];rfl
  ·rename_i h;rw[decide_eq_true (by omega)]
   split<;>rename_i h2
   ·simp[h2,Adm,h0]
   ·simp[h2,Fx,A2]
 ·exact Le h0
theorem Ajq {r r':Mr} {e:Ev} (h:Adv1 r r') (ho:r'.out=r.out) (hk:r'.fail.kind=0):Adv1 r (Ee r' e):=by
 have ha:=h.1.at_ hk
 have hb:=h.2 hk
 refine⟨⟨h.1.plan,h.1.s,h.1.at_,h.1.fail,fun _=>?_,?_⟩,h.2⟩
 ·simp only[Ee,List.length_append,List.length_cons,List.length_nil,ho];omega
 ·simp only[Ee,List.length_append,List.length_cons,List.length_nil,ho];omega
theorem M8 {r:Mr} {f:Fld} {w e:Int} (h1:r.at_≤(r.s.length:Int)) (h0:r.fail.kind=0):Adv1 r (Lr r f w e):=by
 have hv:=Aho (w:=w) (e:=e) h1
 unfold Lr
 split
 ·rename_i hh
  have:=hh.1
  rw[Pu h0] at this
  exact Ajq hv.1 hv.2 (by simpa using this)
 ·exact hv.1
theorem Wr {go:Mr→Bool} {step:Mr→Mr} (hgo: ∀r,go r=true→r.fail.kind=0) (hstep: ∀r,r.at_≤(r.s.length:Int)→r.fail.kind=0→Adv1 r (step r)): ∀(k:Nat) (r:Mr),r.at_≤(r.s.length:Int)→Adv r (Ko go step k r)
 |0,r,h=>Adv.refl r h
 |k+1,r,h=>by
  unfold Ko
  cases hg:go r with
  |false=>exact Adv.refl r h
  |true=>
   have hk:=hgo r hg
   have hs:=hstep r h hk
   simp only[if_true]
   by_cases hk':(step r).fail.kind=0
   ·have:=hs.1.at_ hk'
    exact hs.1.trans hk' (Wr hgo hstep k (step r) (by rw[hs.1.s];exact this.2))
   ·have:Ko go step k (step r)=step r:=Gj (by cases hg':go (step r) with
     |false=>rfl
     |true=>exact(hk' (hgo _ hg')).elim)
    rw[this];exact hs.1
theorem Pv {e:Int} {r:Mr} (h:S7 e r=true):r.fail.kind=0:=by simp[S7] at h;exact h.2
theorem S8 {r r':Mr} (h1:r.at_≤(r.s.length:Int)) (h0:r.fail.kind=0) (h:Adv1 r r'):Wp r'<Wp r:=by
 unfold Wp
 rw[if_pos h0]
 split
 ·rename_i hk
  have:=h.2 hk
  have:=h.1.at_ hk
  rw[h.1.s];omega
 ·omega
theorem Ahp {r:Mr} {f:Fld} {e:Int} (h1:r.at_≤(r.s.length:Int)):Adv r (Xm r f e):=
 Wr (fun r h=>Pv h) (fun r h h0=>M8 h h0) _ r h1
theorem Adr {r:Mr} {f:Fld} {e:Int} (h1:r.at_≤(r.s.length:Int)) (hg:S7 e r=true):Xm r f e=Xm (Lr r f (Bw f.kind) e) f e:=by
 unfold Xm
 refine Zi (fun r=>r.at_≤(r.s.length:Int)∨r.fail.kind≠0) Wp (fun a hi hg=>?_) (.inl h1) hg
 have hk:=Pv hg
 have ha:=hi.resolve_right (fun h=>h hk)
 have:=M8 (f:=f) (w:=Bw f.kind) (e:=e) ha hk
 refine⟨?_,S8 ha hk this⟩
 by_cases hk':(Lr a f (Bw f.kind) e).fail.kind=0
 ·left;rw[this.1.s];exact(this.1.at_ hk').2
 ·exact .inr hk'
theorem Yc {r:Mr} {f:Fld} {e:Int} (hg:S7 e r=false):Xm r f e=r:=Gj hg
theorem Aey {r:Mr} {f:Fld} {w e:Int} (h:Rw r w e=true) (hf:0<f.number):Lr r f w e=Ee (Tu r w e) (E0 f (Adn r w e)):=by unfold Lr;rw[if_pos ⟨h,hf⟩]
theorem Acc {r:Mr} {f:Fld} {w e:Int} (h:Rw r w e=false):Lr r f w e=Tu r w e:=by unfold Lr;rw[if_neg (by simp[h])]
structure RunInv (r0:Mr) (f:Fld) (e:Int) (q:Mr):Prop where
 at_:q.at_≤(q.s.length:Int)
 fail:q.fail.kind=0
 adv:Adv r0 q
 run:Xm q f e=Xm r0 f e
theorem RunInv.refl {r:Mr} {f:Fld} {e:Int} (h1:r.at_≤(r.s.length:Int)) (h0:r.fail.kind=0):RunInv r f e r:=⟨h1,h0,Adv.refl r h1,rfl⟩
theorem RunInv.next {r q:Mr} {f:Fld} {e:Int} (h:RunInv r f e q) (hg:q.at_<e) (hok:Rw q (Bw f.kind) e=true) (hf:0<f.number):RunInv r f e (Ee (Tu q (Bw f.kind) e) (E0 f (Adn q (Bw f.kind) e))):=by
 have hgo:S7 e q=true:=by simp[S7,hg,h.fail]
 have hs:=M8 (f:=f) (w:=Bw f.kind) (e:=e) h.at_ h.fail
 have hr:=Adr (f:=f) h.at_ hgo
 rw[Aey hok hf] at hs hr
 have hk:(Ee (Tu q (Bw f.kind) e) (E0 f (Adn q (Bw f.kind) e))).fail.kind=0:=by
  rw[Pu h.fail] at hok;simpa [Ee] using hok
 exact⟨by rw[hs.1.s];exact(hs.1.at_ hk).2,hk,h.adv.trans h.fail hs.1,hr.symm.trans h.run⟩
theorem RunInv.bad {r q:Mr} {f:Fld} {e:Int} (h:RunInv r f e q) (hg:q.at_<e) (hok:Rw q (Bw f.kind) e=false):Xm r f e=Tu q (Bw f.kind) e:=by
 have hgo:S7 e q=true:=by simp[S7,hg,h.fail]
 have hr:=Adr (f:=f) h.at_ hgo
 rw[Acc hok] at hr
 rw[←h.run,hr]
 refine Yc ?_
 rw[Pu h.fail] at hok
 have:(Tu q (Bw f.kind) e).fail.kind≠0:=by simpa using hok
 simp[S7,this]
theorem RunInv.end_ {r q:Mr} {f:Fld} {e:Int} (h:RunInv r f e q) (hg: ¬q.at_<e):Xm r f e=q:=by
 rw[←h.run];exact Yc (by simp[S7];omega)
theorem RunInv.room {r q:Mr} {f:Fld} {e:Int} (h:RunInv r f e q):q.s=r.s∧q.plan=r.plan∧r.at_≤q.at_∧(q.out.length:Int)+4*((r.s.length:Int)-q.at_)≤(r.out.length:Int)+4*((r.s.length:Int)-r.at_):=
 ⟨h.adv.s,h.adv.plan,(h.adv.at_ h.fail).1,h.adv.room h.fail⟩
theorem Ajr (r:Mr) (e:Int):0≤Em r e∧Em r e≤18446744073709551615:=by
 unfold Em;split
 ·exact Ab3 _ _ _
 ·omega
theorem Aay {r:Mr} {n:Int} (hn:0≤n) (ha:0≤r.at_) (hl:r.at_≤(r.s.length:Int)):((Hr r n).length:Int)≤n∧((Hr r n).length:Int)≤(r.s.length:Int)-r.at_∧(((Hr r n).length:Int)<n→((Hr r n).length:Int)=(r.s.length:Int)-r.at_):=by
 unfold Hr;rw[List.length_take,List.length_drop];omega
/-! ### Texts, messages -/
structure AdvB (b:Int) (r r':Mr):Prop where
 plan:r'.plan=r.plan
 s:r'.s=r.s
 at_:r'.fail.kind=0→r.at_≤r'.at_∧r'.at_≤(r.s.length:Int)
 fail:r'.fail.kind=0→r'.fail=r.fail
 room:r'.fail.kind=0→(r'.out.length:Int)+4*((r.s.length:Int)-r'.at_)≤(r.out.length:Int)+b+4*((r.s.length:Int)-r.at_)
 most:(r'.out.length:Int)≤(r.out.length:Int)+b+4*((r.s.length:Int)-r.at_)
theorem Adv.b {r r':Mr} (h:Adv r r'):AdvB 0 r r':=⟨h.plan,h.s,h.at_,h.fail,fun hk=>by have:=h.room hk;omega,by have:=h.most;omega⟩
theorem AdvB.tell {b:Int} {r r':Mr} (h:AdvB b r r') (e:Ev):AdvB (b+1) r (Ee r' e):=
 ⟨h.plan,h.s,h.at_,h.fail,fun hk=>by have:=h.room hk;simp only[Ee,List.length_append,List.length_cons,List.length_nil];omega,by have:=h.most;simp only[Ee,List.length_append,List.length_cons,List.length_nil];omega⟩
theorem AdvB.failed {b:Int} {r r':Mr} (h:AdvB b r r') (c a:Int):AdvB b r (Fx r' c a):=
 ⟨h.plan,h.s,fun hk=>(M7 _ _ _ hk).elim,fun hk=>(M7 _ _ _ hk).elim,fun hk=>(M7 _ _ _ hk).elim,h.most⟩
theorem AdvB.moved {b:Int} {r r':Mr} (h:AdvB b r r') {a:Int} (h1:r'.fail.kind=0→r'.at_≤a) (h2:a≤(r.s.length:Int)):AdvB b r (Adm r' a):=
 ⟨h.plan,h.s,fun hk=>by have:=h.at_ hk;have:=h1 hk;exact⟨by simp only[Adm];omega,h2⟩,h.fail,fun hk=>by have:=h.room hk;have:=h1 hk;simp only[Adm];omega,h.most⟩
theorem AdvB.trans {b c:Int} {x y z:Mr} (h:AdvB b x y) (hb:y.fail.kind=0) (g:AdvB c y z):AdvB (b+c) x z:=by
 obtain ⟨h1,h2⟩:=h.at_ hb
 have hr:=h.room hb
 have gm:=g.most
 rw[h.s] at gm
 refine⟨g.plan.trans h.plan,g.s.trans h.s,fun hc=>?_,fun hc=>(g.fail hc).trans (h.fail hb),fun hc=>?_,by omega⟩
 ·have:=g.at_ hc
  rw[h.s] at this
  omega
 ·have:=g.room hc
  rw[h.s] at this
  omega
theorem AdvB.mono {b c:Int} {r r':Mr} (h:AdvB b r r') (hc:b≤c):AdvB c r r':=⟨h.plan,h.s,h.at_,h.fail,fun hk=>by have:=h.room hk;omega,by have:=h.most;omega⟩
theorem Adv1.after {b:Int} {r v w:Mr} (h:Adv1 r v) (ho:v.out=r.out) (hk:v.fail.kind=0) (g:AdvB b v w) (hb:b≤4):Adv1 r w:=by
 have h1:=h.1.at_ hk
 have h2:=h.2 hk
 have gm:=g.most
 rw[h.1.s,ho] at gm
 refine⟨⟨g.plan.trans h.1.plan,g.s.trans h.1.s,fun hc=>?_,fun hc=>(g.fail hc).trans (h.1.fail hk),fun hc=>?_,by omega⟩,fun hc=>?_⟩
 ·have:=g.at_ hc
  rw[h.1.s] at this
  omega
 ·have:=g.room hc
  rw[h.1.s,ho] at this
  omega
 ·have:=g.at_ hc
  omega
theorem Acd {r:Mr} {f:Fld} {n:Int} (hl:r.at_≤(r.s.length:Int)):AdvB 2 r (Ps r f n)∧(Ps r f n).at_=r.at_∧(Ps r f n).fail=r.fail:=by
 unfold Ps
 split
 ·exact⟨((Adv.refl r hl).b.tell _).mono (by decide),rfl,rfl⟩
 ·exact⟨(((Adv.refl r hl).b.tell _).tell _).mono (by decide),rfl,rfl⟩
theorem Ace {r:Mr} {f:Fld} {n:Int} (ha:0≤r.at_) (hl:r.at_≤(r.s.length:Int)) (hn:0≤n):AdvB 3 r (Acb r f n):=by
 obtain ⟨h1,h2,h3⟩:=Acd (f:=f) (n:=n) hl
 have ht:=Aay hn ha hl
 unfold Acb
 split
 ·exact(h1.failed _ _).mono (by decide)
 split
 ·exact(h1.failed _ _).mono (by decide)
 split
 ·exact(h1.failed _ _).mono (by decide)
 ·exact((h1.moved (fun _=>by omega) (by omega)).tell _).mono (by decide)
def Ads (sub:Mr→Fld→Int→Int→Mr):Prop:= ∀(v:Mr) (f:Fld) (n s:Int),v.at_≤(v.s.length:Int)→v.fail.kind=0→AdvB 2 v (sub v f n s)
theorem Aaz {sub:Mr→Fld→Int→Int→Mr} (hsub:Ads sub) {r:Mr} {f:Fld} {known:Bool} {e:Int} (hl:r.at_≤(r.s.length:Int)) (h0:r.fail.kind=0):Adv1 r (Zj sub r f known e):=by
 obtain ⟨hv,hv2,hv3⟩:=Pt (e:=e) hl
 have hu:=Ajr r e
 unfold Zj
 split
 ·exact hv
 ·rename_i hok
  have hok:Fv r e=true:=by simpa using hok
  have hk:(D4 r e).fail.kind=0:=by rw[Le h0] at hok;simpa using hok
  have ha:=hv.1.at_ hk
  have hs:=congrArg List.length hv.1.s
  have h2:=hv2 hok
  have hl':(D4 r e).at_≤((D4 r e).s.length:Int):=by omega
  have hr:=(Adv.refl (D4 r e) hl').b
  split
  ·exact hv.after hv3 hk (hr.failed _ _) (by decide)
  split
  ·split
   ·exact hv.after hv3 hk (hr.failed _ _) (by decide)
   ·exact hv.after hv3 hk (hr.moved (fun _=>by omega) (by omega)) (by decide)
  split
  ·exact hv.after hv3 hk (hsub _ _ _ _ hl' hk) (by decide)
  split
  ·exact hv.after hv3 hk (Ahp hl').b (by decide)
  ·exact hv.after hv3 hk (Ace (by omega) hl' hu.1) (by decide)
theorem Acf {sub:Mr→Fld→Int→Int→Mr} (hsub:Ads sub) {shape e:Int} {r:Mr} (hl:r.at_≤(r.s.length:Int)) (h0:r.fail.kind=0):Adv1 r (Wq sub shape e r):=by
 obtain ⟨hv,hv2,hv3⟩:=Pt (e:=e) hl
 unfold Wq
 split
 ·exact hv
 ·rename_i hok
  have hok:Fv r e=true:=by simpa using hok
  have hk:(D4 r e).fail.kind=0:=by rw[Le h0] at hok;simpa using hok
  have ha:=hv.1.at_ hk
  have hs:=congrArg List.length hv.1.s
  have hl':(D4 r e).at_≤((D4 r e).s.length:Int):=by omega
  have hr:=(Adv.refl (D4 r e) hl').b
  split
  ·exact hv.after hv3 hk (hr.failed _ _) (by decide)
  split
  ·exact hv.after hv3 hk (hr.failed _ _) (by decide)
  split
  ·exact hv.after hv3 hk (hr.failed _ _) (by decide)
  split
  ·exact hv.after hv3 hk (Aaz hsub hl' hk).1.b (by decide)
  ·exact hv.after hv3 hk (M8 hl' hk).1.b (by decide)
theorem Aa0 {D:Nat} (hs:Ads (Apg D)) {shape e:Int} {r:Mr} (hl:r.at_≤(r.s.length:Int)):Adv r (Aix D shape e r):=by
 rw[Am6]
 exact Wr (fun r h=>Pv h) (fun r h h0=>Acf hs h h0) _ r hl
theorem Adt: ∀D,Ads (Apg D)
 |0=>fun v f n s hl h0=>((Adv.refl v hl).b.failed _ _).mono (by decide)
 |D+1=>fun v f n s hl h0=>by
  have ht:AdvB 1 v (Ee v (Uq f n)):=(Adv.refl v hl).b.tell _
  have hm:=(Aa0 (Adt D) (shape:=f.msg) (e:=v.at_+n) (r:=Ee v (Uq f n)) hl).b
  have hb:=ht.trans h0 hm
  simp only[Apg]
  split
  ·exact(hb.tell _).mono (by decide)
  ·exact hb.mono (by decide)
theorem Ajs {D:Nat} {shape e:Int} {r:Mr} (hl:r.at_≤(r.s.length:Int)):Adv r (Aix D shape e r):=Aa0 (Adt D) hl
structure LInv (step:Mr→Mr) (e:Int) (r0 q:Mr):Prop where
 adv:Adv r0 q
 run:Ko (S7 e) step (Wp q) q=Ko (S7 e) step (Wp r0) r0
def Acg (step:Mr→Mr):Prop:= ∀r:Mr,r.at_≤(r.s.length:Int)→r.fail.kind=0→Adv1 r (step r)
theorem LInv.refl {step:Mr→Mr} {e:Int} {r:Mr} (h1:r.at_≤(r.s.length:Int)):LInv step e r r:=⟨Adv.refl r h1,rfl⟩
theorem LInv.at_ {step:Mr→Mr} {e:Int} {r q:Mr} (h:LInv step e r q) (hk:q.fail.kind=0):r.at_≤q.at_∧q.at_≤(q.s.length:Int):=by
 have:=h.adv.at_ hk
 rw[h.adv.s];exact this
theorem LInv.room {step:Mr→Mr} {e:Int} {r q:Mr} (h:LInv step e r q) (hk:q.fail.kind=0):q.s.length=r.s.length∧q.plan=r.plan∧r.at_≤q.at_∧q.at_≤(r.s.length:Int)∧(q.out.length:Int)+4*((r.s.length:Int)-q.at_)≤(r.out.length:Int)+4*((r.s.length:Int)-r.at_):=
 ⟨by rw[h.adv.s],h.adv.plan,(h.adv.at_ hk).1,(h.adv.at_ hk).2,h.adv.room hk⟩
theorem LInv.go {step:Mr→Mr} (hs:Acg step) {e:Int} {r q:Mr} (h:LInv step e r q) (hg:q.at_<e) (hk:q.fail.kind=0):LInv step e r (step q)∧Wp (step q)<Wp q:=by
 have hgo:S7 e q=true:=by simp[S7,hg,hk]
 have ha:=h.at_ hk
 have hq:=hs q ha.2 hk
 refine⟨⟨h.adv.trans hk hq.1,?_⟩,S8 ha.2 hk hq⟩
 rw[←h.run]
 refine(Zi (fun r=>r.at_≤(r.s.length:Int)∨r.fail.kind≠0) Wp (fun a hi hg=>?_) (.inl ha.2) hgo).symm
 have hk':=Pv hg
 have hl:a.at_≤(a.s.length:Int):=hi.resolve_right (fun h=>h hk')
 refine⟨?_,S8 hl hk' (hs a hl hk')⟩
 by_cases hk2:(step a).fail.kind=0
 ·left;rw[(hs a hl hk').1.s];exact((hs a hl hk').1.at_ hk2).2
 ·exact .inr hk2
theorem LInv.stop {step:Mr→Mr} {e:Int} {r q:Mr} (h:LInv step e r q) (hg:S7 e q=false):Ko (S7 e) step (Wp r) r=q:=by rw[←h.run];exact Gj hg
theorem LInv.end_ {step:Mr→Mr} {e:Int} {r q:Mr} (h:LInv step e r q) (hg: ¬q.at_<e):Ko (S7 e) step (Wp r) r=q:=h.stop (by simp[S7];omega)
theorem LInv.bad {step:Mr→Mr} {e:Int} {r q:Mr} (h:LInv step e r q) (hk:q.fail.kind≠0):Ko (S7 e) step (Wp r) r=q:=h.stop (by simp[S7,hk])
theorem LInv.leave {step:Mr→Mr} (hs:Acg step) {e:Int} {r q x:Mr} (h:LInv step e r q) (hg:q.at_<e) (hk:q.fail.kind=0) (hx:step q=x) (hx2:x.fail.kind≠0):Ko (S7 e) step (Wp r) r=x:=by
 subst hx;exact(h.go hs hg hk).1.bad hx2
theorem LInv.next {step:Mr→Mr} (hs:Acg step) {e:Int} {r q x:Mr} (h:LInv step e r q) (hg:q.at_<e) (hk:q.fail.kind=0) (hx:step q=x):LInv step e r x∧Wp x<Wp q:=by
 subst hx;exact h.go hs hg hk
structure Aph where
 r:Mr
structure Aoq where
 r:Mr
structure Aor where
 r:Mr
structure Aos where
 r:Mr
/-! ### More told Aot -/
def Aot (o:List Ev) (r:Mr):Mr:=⟨r.plan,r.s,r.at_,o++r.out,r.fail⟩
def mr0 (p:Pln) (s:List UInt8) (a:Int):Mr:=⟨p,s,a,[],ev0⟩
def Zk (n:Int):Ev:=⟨1,0,0,n,[],0,0⟩
def Aez:Ev:=⟨8,0,0,0,[],0,0⟩
def Yd:Int:=9223372036854775807
def Aa1 (r:Mr):Mr:=Aix (Int.toNat (r.plan.deep-1)) r.plan.root ((D4 r Yd).at_+Em r Yd) (Ee (D4 r Yd) (Zk (Em r Yd)))
def M9 (r:Mr):Mr:=
 if Fv r Yd=false then D4 r Yd
 else if r.plan.most<Em r Yd then Fx (D4 r Yd) 7 r.at_
 else if (Aa1 r).fail.kind=0 then Ee (Aa1 r) Aez else Aa1 r
theorem Ws {r:Mr} (hl:r.at_≤(r.s.length:Int)) (h0:r.fail.kind=0):Adv1 r (M9 r):=by
 obtain ⟨hv,hv2,hv3⟩:=Pt (e:=Yd) hl
 unfold M9
 split
 ·exact hv
 ·rename_i hok
  have hok:Fv r Yd=true:=by simpa using hok
  have hk:(D4 r Yd).fail.kind=0:=by rw[Le h0] at hok;simpa using hok
  have ha:=hv.1.at_ hk
  have hs:=congrArg List.length hv.1.s
  have hl':(D4 r Yd).at_≤((D4 r Yd).s.length:Int):=by omega
  have hr:=(Adv.refl (D4 r Yd) hl').b
  have hm0:AdvB 0 (Ee (D4 r Yd) (Zk (Em r Yd))) (Aa1 r):=(Ajs (r:=Ee (D4 r Yd) (Zk (Em r Yd))) hl').b
  have hm:AdvB (0+1+0) (D4 r Yd) (Aa1 r):=(hr.tell (Zk (Em r Yd))).trans hk hm0
  split
  ·exact hv.after hv3 hk (hr.failed _ _) (by decide)
  split
  ·exact hv.after hv3 hk (hm.tell _) (by decide)
  ·exact hv.after hv3 hk hm (by decide)
structure Wh where
 r:Mr
 ends:List Int
def An0 (w:Wh):Bool:=S7 (w.r.s.length:Int) w.r
def Adu (w:Wh):Wh:=⟨M9 w.r,if (M9 w.r).fail.kind=0 then w.ends++[(M9 w.r).at_] else w.ends⟩
def Ajt (w:Wh):Wh:=Ko An0 Adu (Wp w.r) w
def wh0 (p:Pln) (s:List UInt8):Wh:=⟨mr0 p s 0,[0]⟩
def Ahq (p:Pln) (s:List UInt8):Wh:=Ajt (wh0 p s)
structure WInv (w0 q:Wh):Prop where
 adv:Adv w0.r q.r
 ends:q.r.fail.kind=0→(q.ends.length:Int)≤1+q.r.at_
 run:Ajt q=Ajt w0
theorem WInv.refl {p:Pln} {s:List UInt8} :WInv (wh0 p s) (wh0 p s):=⟨Adv.refl _ (by simp[wh0,mr0]),fun _=>by simp[wh0,mr0],rfl⟩
theorem WInv.room {p:Pln} {s:List UInt8} {q:Wh} (h:WInv (wh0 p s) q) (hk:q.r.fail.kind=0):q.r.s=s∧q.r.plan=p∧0≤q.r.at_∧q.r.at_≤(s.length:Int)∧(q.r.out.length:Int)+4*((s.length:Int)-q.r.at_)≤4*(s.length:Int)∧q.r.fail=ev0:=by
 have:=h.adv.at_ hk
 have hr:=h.adv.room hk
 refine⟨h.adv.s,h.adv.plan,this.1,this.2,?_,h.adv.fail hk⟩
 simpa [wh0,mr0] using hr
theorem WInv.next {p:Pln} {s:List UInt8} {q x:Wh} (h:WInv (wh0 p s) q) (hg:q.r.at_<(s.length:Int)) (hk:q.r.fail.kind=0) (hx:Adu q=x):WInv (wh0 p s) x∧Wp x.r<Wp q.r:=by
 subst hx
 obtain ⟨h1,h2,h3,h4,h5,_⟩:=h.room hk
 have hl:q.r.at_≤(q.r.s.length:Int):=by rw[h1];exact h4
 have hf:=Ws hl hk
 have hgo:An0 q=true:=by simp[An0,S7,h1,hg,hk]
 refine⟨⟨h.adv.trans hk hf.1,fun hk2=>?_,?_⟩,S8 hl hk hf⟩
 ·have:=h.ends hk
  have:=hf.2 hk2
  have hk3:(M9 q.r).fail.kind=0:=hk2
  simp only[Adu,if_pos hk3,List.length_append,List.length_cons,List.length_nil];omega
 ·rw[←h.run]
  refine(Zi (fun w:Wh=>w.r.at_≤(w.r.s.length:Int)∨w.r.fail.kind≠0) (fun w=>Wp w.r) (fun a hi hg=>?_) (.inl hl) hgo).symm
  have hk':a.r.fail.kind=0:=Pv hg
  have hl:a.r.at_≤(a.r.s.length:Int):=hi.resolve_right (fun h=>h hk')
  have hf:=Ws hl hk'
  refine⟨?_,S8 hl hk' hf⟩
  by_cases hk2:(M9 a.r).fail.kind=0
  ·left
   show (M9 a.r).at_≤((M9 a.r).s.length:Int)
   rw[hf.1.s];exact(hf.1.at_ hk2).2
  ·exact .inr hk2
theorem WInv.stop {w0 q:Wh} (h:WInv w0 q) (hg:An0 q=false):Ajt w0=q:=by rw[←h.run];exact Gj hg
theorem WInv.end_ {p:Pln} {s:List UInt8} {q:Wh} (h:WInv (wh0 p s) q) (hg: ¬q.r.at_<(s.length:Int)):Ahq p s=q:=h.stop (by
 have:q.r.s=s:=h.adv.s
 simp[An0,S7,this];omega)
theorem WInv.leave {p:Pln} {s:List UInt8} {q x:Wh} (h:WInv (wh0 p s) q) (hg:q.r.at_<(s.length:Int)) (hk:q.r.fail.kind=0) (hx:Adu q=x) (hx2:x.r.fail.kind≠0):Ahq p s=x:=
 (h.next hg hk hx).1.stop (by simp[An0,S7,hx2])
structure Api where
 out:List Ev
 places:List Int
 at_:Int
theorem Ahr (l:List Int) (hp1:((List.length l:Nat):Int)≤9223372036854775807):Fun Tryz.prog 9 [.c (.seq .u8 l)] [] (.v (vB (decide (1048576<((List.length l:Nat):Int))))) []:=by
 have hN:Bf=274877906944:=rfl
 refine Aq Tryz.func9 Q4 Q4 (w:=let z1:=vB (decide (1048576<((List.length l:Nat):Int)));(.leaf () [],(.v z1:S)= .v z1∧([]:List Blk)=[])) Q4 ?_
 exact⟨rfl,rfl⟩
theorem Aou {x y:Ev} (h:x.kind=y.kind∧x.field=y.field∧x.bits=y.bits∧x.len=y.len∧x.text=y.text∧x.code=y.code∧x.at_=y.at_):x=y:=by
 cases x;cases y;simp at h ⊢;exact h
theorem Ahs {a b:List Ev} {i:Nat} {x y:Ev} (h:a.take i=b.take i) (hx:a[i]? =some x) (hy:b[i]? =some y) (e:x=y):a.take (i+1)=b.take (i+1):=by
 rw[List.take_add_one,List.take_add_one,h,hx,hy,e]
theorem Aju {a b:List Ev} {i:Nat} (h:a.take i=b.take i) (hl:a.length=b.length) (hi:a.length≤i):a=b:=by
 rwa [List.take_of_length_le hi,List.take_of_length_le (by omega)] at h
structure Lf where
 i:Nat
def Lg (a:List Ev) (b:List Ev):Fam:=⟨Lf,fun q1=>[(0,.v (.c (.seq .ev a))),(1,.v (.c (.seq .ev b))),(5,.v (vI ((q1.i:Nat):Int)))],fun _=>[],fun q1=>q1.i≤List.length a∧List.length a=List.length b∧List.take q1.i a=List.take q1.i b,fun q1=>List.length a-q1.i⟩
theorem Wt (a:List Ev) (b:List Ev) (hp1:List.length a≤Bf) (hp2:List.length b≤Bf):Fun Tryz.prog 15 [.c (.seq .ev a),.c (.seq .ev b)] [] (.v (vB (decide (a=b)))) []:=by
 have hN:Bf=274877906944:=rfl
 refine Aq Tryz.func15 Q4 Q4 (w:=let z3:=((List.length a:Nat):Int);let z4:=Lg a b;let z5:= !decide (z3=((List.length b:Nat):Int));let z6:=vB (decide (a=b));(.br (.leaf () []) (.seg [.at 0,.keep [0,1,5],.sel []] (.loop z4 fun q1=> .br (.intro (fun (x1:Ev)=>a[q1.i]? =some x1) fun x1=> .intro (fun (x2:Ev)=>b[q1.i]? =some x2) fun x2=> .seg [.ord (os 9 []) [],.el .ev x1,.el .ev x2] (.br (.leaf () []) (.seg [.as 16 (.v (vI (((q1.i:Nat):Int)+1))),.at 0,.keep [0,1,5],.sel []] (.next)))) (.leaf () []))),(z5=true→(.v (vB false):S)= .v z6∧([]:List Blk)=[])∧(z5=false→z4.Has [(0,.v (.c (.seq .ev a))),(1,.v (.c (.seq .ev b))),(5,.v (vI 0))] []∧∀q1,z4.inv q1→(let z2:=((q1.i:Nat):Int);((decide (z2<z3))=true→(∃(x1:Ev),a[q1.i]? =some x1)∧∀(x1:Ev),(a[q1.i]? =some x1)→((∃(x2:Ev),b[q1.i]? =some x2)∧∀(x2:Ev),(b[q1.i]? =some x2)→(let z1:= !(decide (x1.kind=x2.kind)&&(decide (x1.field=x2.field)&&(decide (x1.bits=x2.bits)&&(decide (x1.len=x2.len)&&(decide (x1.text=x2.text)&&(decide (x1.code=x2.code)&&decide (x1.at_=x2.at_)))))));(a[q1.i]? =some x1)∧((0:Int)≤z2)∧(a[q1.i]? =some x1)∧((0:Int)≤z2)∧(b[q1.i]? =some x2)∧((0:Int)≤z2)∧(b[q1.i]? =some x2)∧((0:Int)≤z2)∧(z1=true→(.v (vB false):S)= .v z6∧([]:List Blk)=[])∧(z1=false→((.v (vI (IntKind.i64.wrap (z2+1))):S)= .v (vI (z2+1)))∧z4.Nxt q1 [(0,.v (.c (.seq .ev a))),(1,.v (.c (.seq .ev b))),(5,.v (vI (z2+1)))] []))))∧((decide (z2<z3))=false→(.v (vB true):S)= .v z6∧([]:List Blk)=[]))))) Q4 ?_
 refine⟨fun h1=>have q1:=Ap h1;have p1:=of_decide_eq_false q1;?_,fun h1=>have q1:=An h1;have p1:=of_decide_eq_true q1;?_⟩
 refine⟨(sB ?_),rfl⟩
 rotate_left
 refine⟨Bi (j:=(⟨0⟩:Lf)) Q10 rfl (by dsimp only[Lg];exact⟨by omega,by omega,by simp⟩),fun (q1:Lf) hq_q1=>?_⟩
 have hi_q1:q1.i≤List.length a∧List.length a=List.length b∧List.take q1.i a=List.take q1.i b:=hq_q1
 obtain ⟨v1,v2,v3⟩:=hi_q1
 refine dsp (fun h2 p2=>?_) fun h2 p2=>?_
 refine⟨(Bh (l:=a) (i:=q1.i) Q2),fun x1 hx1=>?_⟩
 refine⟨(Bh (l:=b) (i:=q1.i) Q2),fun x2 hx2=>?_⟩
 refine⟨hx1,Q2,hx1,Q2,hx2,Q2,hx2,Q2,fun h3=>have q3:=Ap h3;have p3:=(Ch dT (Ch dT (Ch dT (Ch dT (Ch dT (Ch dT dF)))))).1 q3;?_,fun h3=>have q3:=An h3;have p3:=(Cg dT (Cg dT (Cg dT (Cg dT (Cg dT (Cg dT dT)))))).1 q3;?_⟩
 refine⟨(sB ?_),rfl⟩
 rotate_left
 exact⟨(Ae Q2 Q2),A5 (j:=(⟨q1.i+1⟩:Lf)) Q10 rfl (by dsimp only[Lg];exact⟨by omega,v2,Ahs v3 hx1 hx2 (Aou p3)⟩) (by dsimp only[Lg];omega)⟩
 refine⟨(sB ?_),rfl⟩
 rotate_left
 all_goals first|(exact(decide_eq_true (Aju v3 v2 (by omega))).symm)|(exact(decide_eq_false (fun h=>by subst h;omega)).symm)|(exact(decide_eq_false (fun h=>by subst h;rw[hx1] at hx2;cases hx2;simp at p3)).symm)
structure Gz where
 i:Nat
def Jt (l:List Shp):Fam:=⟨Gz,fun q1=>[(2,.v (vP 0)),(3,.v (vP 1)),(5,.v (vI ((q1.i:Nat):Int)))],fun _=>[.cells [.seq .shp l],.cells [.seq .shp l]],fun q1=>q1.i≤List.length l,fun q1=>List.length l-q1.i⟩
structure Ju where
 k:Nat
def G0 (l:List Shp) (q1:Gz) (x1:Shp):Fam:=⟨Ju,fun q2=>[(2,.v (vP 0)),(3,.v (vP 1)),(5,.v (vI ((q1.i:Nat):Int))),(6,.v (vP 2)),(7,.v (vP 3)),(8,.v (vI ((q2.k:Nat):Int)))],fun _=>[.cells [.seq .shp l],.cells [.seq .shp l],.cells (Ak4 x1),.cells (Ak4 x1)],fun q2=>q2.k≤List.length x1.fields,fun q2=>List.length x1.fields-q2.k⟩
theorem Ae0 (l:List Shp) (hp1:List.length l≤Bf) (hp2: ∀e∈l,List.length e.fields≤Bf):Fun Tryz.prog 67 [.agg [.seq .shp l],.agg [.seq .shp l]] [] (.v (vB true)) []:=by
 have hN:Bf=274877906944:=rfl
 refine Aq Tryz.func67 Q4 Q4 (w:=let z8:=((List.length l:Nat):Int);let z9:=Jt l;let z10:List Blk:=[.cells [.seq .shp l],.cells [.seq .shp l]];(.seg [.br false,.at 0,.keep [2,3,5],.sel [0,1]] (.loop z9 fun q1=> .br (.intro (fun (x1:Shp)=>l[q1.i]? =some x1) fun x1=> .seg [.el .shp x1,.el .shp x1,.br false,.br false,.at 0,.keep [2,3,5,6,7,8],.sel [0,1,2,3]] (.loop (G0 l q1 x1) fun q2=> .br (.intro (fun (x2:Fld)=>x1.fields[q2.k]? =some x2) fun x2=> .seg [.ord (os 11 []) [],.el .fld x2,.el .fld x2] (.br (.leaf () []) (.seg [.as 53 (.v (vI (((q2.k:Nat):Int)+1))),.at 0,.keep [2,3,5,6,7,8],.sel [0,1,2,3]] (.next)))) (.seg [.as 22 (.v (vI (((q1.i:Nat):Int)+1))),.at 0,.keep [2,3,5],.sel [0,1]] (.next)))) (.leaf () [])),((!decide (z8=z8))=false)∧z9.Has [(2,.v (vP 0)),(3,.v (vP 1)),(5,.v (vI 0))] z10∧∀q1,z9.inv q1→(let z7:=((q1.i:Nat):Int);((decide (z7<z8))=true→(∃(x1:Shp),l[q1.i]? =some x1)∧∀(x1:Shp),(l[q1.i]? =some x1)→(let z4:=((List.length x1.fields:Nat):Int);let z5:List Blk:=[.cells [.seq .shp l],.cells [.seq .shp l],.cells (Ak4 x1),.cells (Ak4 x1)];let z6:=G0 l q1 x1;(l[q1.i]? =some x1)∧((0:Int)≤z7)∧(l[q1.i]? =some x1)∧((0:Int)≤z7)∧((!decide (x1.id=x1.id))=false)∧((!decide (z4=z4))=false)∧z6.Has [(2,.v (vP 0)),(3,.v (vP 1)),(5,.v (vI z7)),(6,.v (vP 2)),(7,.v (vP 3)),(8,.v (vI 0))] z5∧∀q2,z6.inv q2→(let z3:=((q2.k:Nat):Int);((decide (z3<z4))=true→(∃(x2:Fld),x1.fields[q2.k]? =some x2)∧∀(x2:Fld),(x1.fields[q2.k]? =some x2)→(let z1:= !(decide (x2.number=x2.number)&&(decide (x2.kind=x2.kind)&&(decide (x2.rep=x2.rep)&&(decide (x2.packed=x2.packed)&&decide (x2.msg=x2.msg)))));let z2:=x1.fields[q2.k]? =some x2;z2∧((0:Int)≤z3)∧z2∧((0:Int)≤z3)∧z2∧((0:Int)≤z3)∧z2∧((0:Int)≤z3)∧(z1=true→(.v (vB false):S)= .v (vB true)∧([]:List Blk)=[])∧(z1=false→((.v (vI (IntKind.i64.wrap (z3+1))):S)= .v (vI (z3+1)))∧z6.Nxt q2 [(2,.v (vP 0)),(3,.v (vP 1)),(5,.v (vI z7)),(6,.v (vP 2)),(7,.v (vP 3)),(8,.v (vI (z3+1)))] z5)))∧((decide (z3<z4))=false→((.v (vI (IntKind.i64.wrap (z7+1))):S)= .v (vI (z7+1)))∧z9.Nxt q1 [(2,.v (vP 0)),(3,.v (vP 1)),(5,.v (vI (z7+1)))] z10))))∧((decide (z7<z8))=false→(.v (vB true):S)= .v (vB true)∧([]:List Blk)=[])))) Q4 ?_
 refine⟨Q85,Bi (j:=(⟨0⟩:Gz)) Q10 rfl (by dsimp only[Jt];omega),fun (q1:Gz) hq_q1=>?_⟩
 have hi_q1:q1.i≤List.length l:=hq_q1
 refine dsp (fun h1 p1=>?_) fun h1 p1=>?_
 refine⟨(Bh (l:=l) (i:=q1.i) Q2),fun x1 hx1=>?_⟩
 have hfx:=hp2 x1 (List.mem_of_getElem? hx1)
 refine⟨hx1,Q2,hx1,Q2,Q85,Q85,Bi (j:=(⟨0⟩:Ju)) Q10 rfl (by dsimp only[G0];omega),fun (q2:Ju) hq_q2=>?_⟩
 have hi_q2:q2.k≤List.length x1.fields:=hq_q2
 refine dsp (fun h2 p2=>?_) fun h2 p2=>?_
 refine⟨(Bh (l:=x1.fields) (i:=q2.k) Q2),fun x2 hx2=>?_⟩
 refine⟨hx2,Q2,hx2,Q2,hx2,Q2,hx2,Q2,fun h3=>have q3:=Ap h3;have p3:=(Ch dT (Ch dT (Ch dT (Ch dT dF)))).1 q3;?_,fun h3=>have q3:=An h3;have p3:=(Cg dT (Cg dT (Cg dT (Cg dT dT)))).1 q3;?_⟩
 refine⟨(sB ?_),rfl⟩
 rotate_left
 exact⟨(Ae Q2 Q2),A5 (j:=(⟨q2.k+1⟩:Ju)) Q10 rfl (by dsimp only[G0];omega) (by dsimp only[G0];omega)⟩
 exact⟨(Ae Q2 Q2),A5 (j:=(⟨q1.i+1⟩:Gz)) Q10 rfl (by dsimp only[Jt];omega) (by dsimp only[Jt];omega)⟩
 exact⟨rfl,rfl⟩
 all_goals first|(rfl)|((simp;done))|((exfalso;simp_all;done))
structure Jv where
 i:Nat
def Jw (d:Dcd):Fam:=⟨Jv,fun q1=>[(2,.v (vP 0)),(3,.v (vP 1)),(5,.v (vI ((q1.i:Nat):Int)))],fun _=>[.cells (Bt d),.cells (Bt d)],fun q1=>q1.i≤List.length d.stack,fun q1=>List.length d.stack-q1.i⟩
theorem Ae1 (d:Dcd) (hp1:List.length (d).plan.shapes≤Bf) (hp2: ∀e∈(d).plan.shapes,List.length e.fields≤Bf) (hp3:List.length (d).stack≤Bf):Fun Tryz.prog 19 [.agg (Bt d),.agg (Bt d)] [] (.v (vB true)) []:=by
 have hN:Bf=274877906944:=rfl
 refine Aq Tryz.func19 Q4 Q4 (w:=let z4:=decide (d.field.number=d.field.number)&&(decide (d.field.kind=d.field.kind)&&(decide (d.field.rep=d.field.rep)&&(decide (d.field.packed=d.field.packed)&&decide (d.field.msg=d.field.msg))));let z5:=decide (d.utf.want=d.utf.want)&&(decide (d.utf.low=d.utf.low)&&decide (d.utf.high=d.utf.high));let z6:=((List.length d.stack:Nat):Int);let z7:=decide (d.scan.bits=d.scan.bits)&&decide (d.scan.have_=d.scan.have_);let z8:=(.v (vB false):S);let z9:=([]:List Blk);let z10:=Jw d;(.seg [.call [] (.v (vB true)) [],.br false,.br false,.br false,.br false,.br false,.at 0,.keep [2,3,5],.sel [0,1]] (.loop z10 fun q1=> .br (.intro (fun (x1:Lev)=>d.stack[q1.i]? =some x1) fun x1=> .seg [.ord (os 11 []) [],.el .lev x1,.el .lev x1] (.br (.leaf () []) (.seg [.as 56 (.v (vI (((q1.i:Nat):Int)+1))),.at 0,.keep [2,3,5],.sel [0,1]] (.next)))) (.seg [.br true] (.br (.seg [.br true,.br true] (.br (.seg [.br true,.br true] (.br (.leaf () []) (.leaf () []))) (.leaf () []))) (.leaf () [])))),(Fun Tryz.prog 67 [.agg [.seq .shp d.plan.shapes],.agg [.seq .shp d.plan.shapes]] [] (.v (vB true)) [])∧((!true)=false)∧((!decide (d.plan.root=d.plan.root))=false)∧((!decide (d.plan.deep=d.plan.deep))=false)∧((!decide (d.plan.most=d.plan.most))=false)∧((!decide (z6=z6))=false)∧z10.Has [(2,.v (vP 0)),(3,.v (vP 1)),(5,.v (vI 0))] [.cells (Bt d),.cells (Bt d)]∧∀q1,z10.inv q1→(let z3:=((q1.i:Nat):Int);((decide (z3<z6))=true→(∃(x1:Lev),d.stack[q1.i]? =some x1)∧∀(x1:Lev),(d.stack[q1.i]? =some x1)→(let z1:=d.stack[q1.i]? =some x1;let z2:= !(decide (x1.msg=x1.msg)&&decide (x1.left=x1.left));z1∧((0:Int)≤z3)∧z1∧((0:Int)≤z3)∧z1∧((0:Int)≤z3)∧z1∧((0:Int)≤z3)∧(z2=true→z8= .v (vB true)∧z9=[])∧(z2=false→((.v (vI (IntKind.i64.wrap (z3+1))):S)= .v (vI (z3+1)))∧z10.Nxt q1 [(2,.v (vP 0)),(3,.v (vP 1)),(5,.v (vI (z3+1)))] [.cells (Bt d),.cells (Bt d)])))∧((decide (z3<z6))=false→((decide (d.mode=d.mode))=true)∧(z7=true→((decide (d.start=d.start))=true)∧((decide (d.at_=d.at_))=true)∧(z4=true→((decide (d.wire=d.wire))=true)∧((decide (d.want=d.want))=true)∧(z5=true→(.v (vB (decide (d.end_.kind=d.end_.kind)&&(decide (d.end_.field=d.end_.field)&&(decide (d.end_.bits=d.end_.bits)&&(decide (d.end_.len=d.end_.len)&&(decide (d.end_.text=d.end_.text)&&(decide (d.end_.code=d.end_.code)&&decide (d.end_.at_=d.end_.at_)))))))):S)= .v (vB true)∧z9=[])∧(z5=false→z8= .v (vB true)∧z9=[]))∧(z4=false→z8= .v (vB true)∧z9=[]))∧(z7=false→z8= .v (vB true)∧z9=[]))))) Q4 ?_
 refine⟨(Ae0 d.plan.shapes Q2 (hp2)),Q28,Q85,Q85,Q85,Q85,Bi (j:=(⟨0⟩:Jv)) Q10 rfl (by dsimp only[Jw];omega),fun (q1:Jv) hq_q1=>?_⟩
 have hi_q1:q1.i≤List.length d.stack:=hq_q1
 refine dsp (fun h1 p1=>?_) fun h1 p1=>?_
 refine⟨(Bh (l:=d.stack) (i:=q1.i) Q2),fun x1 hx1=>?_⟩
 refine⟨hx1,Q2,hx1,Q2,hx1,Q2,hx1,Q2,fun h2=>have q2:=Ap h2;have p2:=(Ch dT dF).1 q2;?_,fun h2=>have q2:=An h2;have p2:=(Cg dT dT).1 q2;?_⟩
 refine⟨(sB ?_),rfl⟩
 rotate_left
 exact⟨(Ae Q2 Q2),A5 (j:=(⟨q1.i+1⟩:Jv)) Q10 rfl (by dsimp only[Jw];omega) (by dsimp only[Jw];omega)⟩
 refine⟨Q85,fun h2=>have p2:=(Cg dT dT).1 h2;?_,fun h2=>have p2:=(Ch dT dF).1 h2;?_⟩
 refine⟨Q85,Q85,fun h3=>have p3:=(Cg dT (Cg dT (Cg dT (Cg dT dT)))).1 h3;?_,fun h3=>have p3:=(Ch dT (Ch dT (Ch dT (Ch dT dF)))).1 h3;?_⟩
 refine⟨Q85,Q85,fun h4=>have p4:=(Cg dT (Cg dT dT)).1 h4;?_,fun h4=>have p4:=(Ch dT (Ch dT dF)).1 h4;?_⟩
 refine⟨(sB ?_),rfl⟩
 rotate_left
 refine⟨(sB ?_),rfl⟩
 rotate_left
 refine⟨(sB ?_),rfl⟩
 rotate_left
 refine⟨(sB ?_),rfl⟩
 rotate_left
 all_goals first|(rfl)|((simp;done))|((exfalso;simp_all;done))
theorem Aa2 (a:Dcd) (b:Dcd) (hp1:a=b) (hp2:List.length (a).plan.shapes≤Bf) (hp3: ∀e∈(a).plan.shapes,List.length e.fields≤Bf) (hp4:List.length (a).stack≤Bf):Fun Tryz.prog 19 [.agg (Bt a),.agg (Bt b)] [] (.v (vB true)) []:=by subst hp1;exact Ae1 a hp2 hp3 hp4
structure Cur where
 b:List Int
 i:Int
 h:Int
def Aw (c:Cur):Prop:=0≤c.i∧c.b.length≤1048576
def Ak (x:Cur):List C:=[.seq .u8 x.b,.int .i64 x.i,.int .i64 x.h]
structure L0 where
 x:Int
 c1:Cur
def Gk (c:Cur) (o:L0):Prop:=Fun Tryz.prog 104 [vP 0] [.cells (Ak c)] (.v (vI o.x)) [.cells (Ak o.c1)]
def D6 (c:Cur) (o:L0):Prop:=(((0:Int)≤o.x∧o.x≤255)∧(Aw o.c1))∧Gk c o
theorem Na (c:Cur) (hp1:Aw c): ∃o:L0,D6 c o:=by
 have hN:Bf=274877906944:=rfl
 have hcb:=hp1.1
 have hcl:=hp1.2
 refine Bv Tryz.func104 Q4 Q4 (w:=let z5:=(IntKind.i64.wrap (c.h*6364136223846793005))+1442695040888963407;let z3:=IntKind.i64.wrap z5;let z8:=(.v (vI (Int.fdiv z3 (2 ^ 33))):S)= .v (vI (z3 / 8589934592));let z10:List Blk:=[.cells [.seq .u8 c.b,.int .i64 (c.i+1),.int .i64 z3]];let z11:=decide (c.i<((List.length c.b:Nat):Int));let z12:List Blk:=[.cells [.seq .u8 c.b,.int .i64 c.i,.int .i64 z3]];let z13:=z3 / 35184372088832;let z4:=IntKind.i64.wrap (((BitVec.ofInt 64 (z3 / 8589934592) ^^^ BitVec.ofInt 64 z13).toNat:Nat));let z7:=(.v (vI (Int.fdiv z3 (2 ^ 45))):S)= .v (vI z13);let z9:=z4 % 256;let z6:=(.v (vI (IntKind.i64.wrap (((BitVec.ofInt 64 z4&&&BitVec.ofInt 64 255).toNat:Nat)))):S)= .v (vI z9);(.seg [.ord (os 13 []) [],.as 17 (.v (vI (z3 / 8589934592))),.as 22 (.v (vI z13)),.as 24 (.v (vI z9)),.ord (os 10 []) []] (.br (.intro (fun (x1:Int)=>c.b[Int.toNat c.i]? =some x1) fun x1=>let z1:=IntKind.i64.wrap (z9+(IntKind.i64.wrap (x1)));.seg [.ord (os 15 []) [],.el .u8 x1,.as 48 (.v (vI (z1 % 256))),.as 54 (.v (vI (c.i+1)))] (.leaf (⟨z1 % 256,(⟨c.b,c.i+1,IntKind.i64.wrap z5⟩:Cur)⟩:L0) [0])) (.leaf (⟨z4 % 256,(⟨c.b,c.i,IntKind.i64.wrap z5⟩:Cur)⟩:L0) [0])),((0:Int)≤33)∧((0:Int)≤33)∧z8∧z8∧((0:Int)≤45)∧((0:Int)≤45)∧z7∧z7∧z6∧z6∧(z11=true→(∃(x1:Int),c.b[Int.toNat c.i]? =some x1)∧∀(x1:Int),(c.b[Int.toNat c.i]? =some x1)→(let z2:=IntKind.i64.wrap (z9+(IntKind.i64.wrap (x1)));(c.b[Int.toNat c.i]? =some x1)∧((0:Int)≤c.i)∧(c.b[Int.toNat c.i]? =some x1)∧((0:Int)≤c.i)∧((.v (vI (IntKind.i64.wrap (((BitVec.ofInt 64 z2&&&BitVec.ofInt 64 255).toNat:Nat)))):S)= .v (vI (z2 % 256)))∧((.v (vI (IntKind.i64.wrap (((BitVec.ofInt 64 z2&&&BitVec.ofInt 64 255).toNat:Nat)))):S)= .v (vI (z2 % 256)))∧((.v (vI (IntKind.i64.wrap (c.i+1))):S)= .v (vI (c.i+1)))∧(((0:Int)≤(z2 % 256)∧(z2 % 256)≤255)∧(Aw (⟨c.b,c.i+1,IntKind.i64.wrap z5⟩:Cur)))∧(.v (vI (z2 % 256)):S)= .v (vI (z2 % 256))∧(z10:List Blk)=z10))∧(z11=false→(((0:Int)≤z9∧z9≤255)∧(Aw (⟨c.b,c.i,IntKind.i64.wrap z5⟩:Cur)))∧(.v (vI z9):S)= .v (vI z9)∧(z12:List Blk)=z12))) Q4 ?_
 refine⟨Q28,Q28,(X0 (k:=33) Q28 Q28),(X0 (k:=33) Q28 Q28),Q28,Q28,(X0 (k:=45) Q28 Q28),(X0 (k:=45) Q28 Q28),(F6 (k:=8) Q28 Q28),(F6 (k:=8) Q28 Q28),dsp (fun h1 p1=>?_) fun h1 p1=>?_⟩
 refine⟨(Bh (l:=c.b) (i:=Int.toNat c.i) Q2),fun x1 hx1=>?_⟩
 exact⟨hx1,Q2,hx1,Q2,(F6 (k:=8) Q28 Q28),(F6 (k:=8) Q28 Q28),(Ae Q2 Q2),⟨Q2,Q0⟩,rfl,rfl⟩
 exact⟨⟨Q2,Q0⟩,rfl,rfl⟩
structure Ct where
 x:Int
 c1:Cur
def Ai (c:Cur) (n:Int) (o:Ct):Prop:=Fun Tryz.prog 46 [vP 0,vI n] [.cells (Ak c)] (.v (vI o.x)) [.cells (Ak o.c1)]
def Aa (c:Cur) (n:Int) (o:Ct):Prop:=(((0:Int)≤o.x)∧((1:Int)≤n→o.x<n)∧(n≤(0:Int)→o.x=(0:Int))∧(Aw o.c1))∧Ai c n o
theorem Ao (c:Cur) (n:Int) (hp1:Aw c): ∃o:Ct,Aa c n o:=by
 have hN:Bf=274877906944:=rfl
 refine Bv Tryz.func46 Q4 Q4 (w:=let z8:=D6 c;(.br (.leaf (⟨0,c⟩:Ct) [0]) (.br (.intro z8 fun o1=> .seg [.call [0] (.v (vI o1.x)) [.cells (Ak o1.c1)]] (.leaf (⟨Int.tmod o1.x n,o1.c1⟩:Ct) [0])) (.intro z8 fun o1=> .seg [.call [0] (.v (vI o1.x)) [.cells (Ak o1.c1)]] (.intro (D6 o1.c1) fun o2=>let z6:=(o1.x*16777216)+(o2.x*65536);.seg [.call [0] (.v (vI o2.x)) [.cells (Ak o2.c1)]] (.intro (D6 o2.c1) fun o3=>let z4:=z6+(o3.x*256);.seg [.call [0] (.v (vI o3.x)) [.cells (Ak o3.c1)]] (.intro (D6 o3.c1) fun o4=>let z2:=z4+o4.x;.seg [.call [0] (.v (vI o4.x)) [.cells (Ak o4.c1)],.as 26 (.v (vI (o1.x*16777216))),.as 28 (.v (vI (o2.x*65536))),.as 29 (.v (vI z6)),.as 31 (.v (vI (o3.x*256))),.as 32 (.v (vI z4)),.as 34 (.v (vI z2))] (.leaf (⟨Int.tmod z2 n,o4.c1⟩:Ct) [0])))))),((decide (n≤0))=true→(((0:Int)≤0)∧((1:Int)≤n→0<n)∧(n≤(0:Int)→0=(0:Int))∧(Aw c))∧(.v (vI 0):S)= .v (vI 0)∧([.cells (Ak c)]:List Blk)=[.cells (Ak c)])∧((decide (n≤0))=false→((decide (n≤256))=true→In z8 fun o1=>(let z1:=Int.tmod o1.x n;(Gk c o1)∧(n≠0)∧(((0:Int)≤z1)∧((1:Int)≤n→z1<n)∧(n≤(0:Int)→z1=(0:Int))∧(Aw o1.c1))∧(.v (vI z1):S)= .v (vI z1)∧([.cells (Ak o1.c1)]:List Blk)=[.cells (Ak o1.c1)]))∧((decide (n≤256))=false→In z8 fun o1=>((Gk c o1)∧In (D6 o1.c1) fun o2=>(let z7:=(o1.x*16777216)+(o2.x*65536);(Gk o1.c1 o2)∧In (D6 o2.c1) fun o3=>(let z5:=z7+(o3.x*256);(Gk o2.c1 o3)∧In (D6 o3.c1) fun o4=>(let z3:=z5+o4.x;(Gk o3.c1 o4)∧((.v (vI (IntKind.i64.wrap (o1.x*16777216))):S)= .v (vI (o1.x*16777216)))∧((.v (vI (IntKind.i64.wrap (o2.x*65536))):S)= .v (vI (o2.x*65536)))∧((.v (vI (IntKind.i64.wrap z7)):S)= .v (vI z7))∧((.v (vI (IntKind.i64.wrap (o3.x*256))):S)= .v (vI (o3.x*256)))∧((.v (vI (IntKind.i64.wrap z5)):S)= .v (vI z5))∧((.v (vI (IntKind.i64.wrap z3)):S)= .v (vI z3))∧(n≠0)∧(((0:Int)≤(Int.tmod z3 n))∧((1:Int)≤n→(Int.tmod z3 n)<n)∧(n≤(0:Int)→(Int.tmod z3 n)=(0:Int))∧(Aw o4.c1))∧(.v (vI (Int.tmod z3 n)):S)= .v (vI (Int.tmod z3 n))∧([.cells (Ak o4.c1)]:List Blk)=[.cells (Ak o4.c1)])))))))) Q4 ?_
 refine dsp (fun h1 p1=>?_) fun h1 p1=>?_
 exact⟨⟨Q2,Q2,Q2,Q0⟩,rfl,rfl⟩
 refine dsp (fun h2 p2=>?_) fun h2 p2=>?_
 refine⟨(Na c Q0),fun o1 ho_o1=>?_⟩
 obtain ⟨⟨hp_o1_0,hp_o1_1⟩,hf_o1⟩:=ho_o1
 exact⟨hf_o1,Q2,⟨(by have:=N0 o1.x n;omega),(by have:=N0 o1.x n;omega),(by have:=N0 o1.x n;omega),Q0⟩,rfl,rfl⟩
 refine⟨(Na c Q0),fun o1 ho_o1=>?_⟩
 obtain ⟨⟨hp_o1_0,hp_o1_1⟩,hf_o1⟩:=ho_o1
 refine⟨hf_o1,(Na o1.c1 Q0),fun o2 ho_o2=>?_⟩
 obtain ⟨⟨hp_o2_0,hp_o2_1⟩,hf_o2⟩:=ho_o2
 refine⟨hf_o2,(Na o2.c1 Q0),fun o3 ho_o3=>?_⟩
 obtain ⟨⟨hp_o3_0,hp_o3_1⟩,hf_o3⟩:=ho_o3
 refine⟨hf_o3,(Na o3.c1 Q0),fun o4 ho_o4=>?_⟩
 obtain ⟨⟨hp_o4_0,hp_o4_1⟩,hf_o4⟩:=ho_o4
 exact⟨hf_o4,(Ae Q2 Q2),(Ae Q2 Q2),(Ae Q2 Q2),(Ae Q2 Q2),(Ae Q2 Q2),(Ae Q2 Q2),Q2,⟨Q73,Q73,Q73,Q0⟩,rfl,rfl⟩
structure Qm where
 p:Bool
 c1:Cur
def Bg (c:Cur) (n:Int) (o:Qm):Prop:=Fun Tryz.prog 44 [vP 0,vI n] [.cells (Ak c)] (.v (vB o.p)) [.cells (Ak o.c1)]
def Ar (c:Cur) (n:Int) (o:Qm):Prop:=((Aw o.c1))∧Bg c n o
theorem B1 (c:Cur) (n:Int) (hp1:Aw c): ∃o:Qm,Ar c n o:=by
 have hN:Bf=274877906944:=rfl
 refine Bv Tryz.func44 Q4 Q4 (w:=(.intro (Aa c n) fun o1=> .seg [.call [0] (.v (vI o1.x)) [.cells (Ak o1.c1)]] (.leaf (⟨decide (o1.x=0),o1.c1⟩:Qm) [0]),In (Aa c n) fun o1=>((Ai c n o1)∧((Aw o1.c1))∧(.v (vB (decide (o1.x=0))):S)= .v (vB (decide (o1.x=0)))∧([.cells (Ak o1.c1)]:List Blk)=[.cells (Ak o1.c1)]))) Q4 ?_
 refine⟨(Ao c n Q0),fun o1 ho_o1=>?_⟩
 obtain ⟨⟨hp_o1_0,hp_o1_1,hp_o1_2,hp_o1_3⟩,hf_o1⟩:=ho_o1
 exact⟨hf_o1,Q0,rfl,rfl⟩
structure Jx where
 x:Int
 c1:Cur
def B6 (c:Cur) (l:List Int) (o:Jx):Prop:=Fun Tryz.prog 113 [vP 0,.c (.seq .int l)] [.cells (Ak c)] (.v (vI o.x)) [.cells (Ak o.c1)]
def A6 (c:Cur) (l:List Int) (o:Jx):Prop:=((o.x∈l)∧(Aw o.c1))∧B6 c l o
theorem Cu (c:Cur) (l:List Int) (hp1:Aw c) (hp2:1≤List.length l) (hp3:List.length l≤1000): ∃o:Jx,A6 c l o:=by
 have hN:Bf=274877906944:=rfl
 refine Bv Tryz.func113 Q4 Q4 (w:=let z1:=((List.length l:Nat):Int);(.intro (Aa c z1) fun o1=> .seg [.call [0] (.v (vI o1.x)) [.cells (Ak o1.c1)]] (.intro (fun (x1:Int)=>l[Int.toNat o1.x]? =some x1) fun x1=> .seg [.el .int x1] (.leaf (⟨x1,o1.c1⟩:Jx) [0])),In (Aa c z1) fun o1=>((Ai c z1 o1)∧(∃(x1:Int),l[Int.toNat o1.x]? =some x1)∧∀(x1:Int),(l[Int.toNat o1.x]? =some x1)→((l[Int.toNat o1.x]? =some x1)∧((0:Int)≤o1.x)∧((x1∈l)∧(Aw o1.c1))∧(.v (vI x1):S)= .v (vI x1)∧([.cells (Ak o1.c1)]:List Blk)=[.cells (Ak o1.c1)])))) Q4 ?_
 refine⟨(Ao c ((List.length l:Nat):Int) Q0),fun o1 ho_o1=>?_⟩
 obtain ⟨⟨hp_o1_0,hp_o1_1,hp_o1_2,hp_o1_3⟩,hf_o1⟩:=ho_o1
 refine⟨hf_o1,(Bh (l:=l) (i:=Int.toNat o1.x) Q2),fun x1 hx1=>?_⟩
 exact⟨hx1,Q2,⟨(List.mem_of_getElem? hx1),Q0⟩,rfl,rfl⟩
structure Hg where
 x:Int
 c1:Cur
def Rx (c:Cur) (o:Hg):Prop:=Fun Tryz.prog 169 [vP 0] [.cells (Ak c)] (.v (vI o.x)) [.cells (Ak o.c1)]
def Kp (c:Cur) (o:Hg):Prop:=((Aw o.c1))∧Rx c o
theorem Aa3 (c:Cur) (hp1:Aw c): ∃o:Hg,Kp c o:=by
 have hN:Bf=274877906944:=rfl
 refine Bv Tryz.func169 Q4 Q4 (w:=let z2:= -9223372036854775808;(.intro (Aa c 3) fun o1=> .seg [.call [0] (.v (vI o1.x)) [.cells (Ak o1.c1)]] (.br (.seg [.ty .int,.pubS 8] (.intro (A6 o1.c1 [0,1,(-1),9,10,127,128,999999999,1000000000,9223372036854775807,z2]) fun o2=> .seg [.call [0] (.v (vI o2.x)) [.cells (Ak o2.c1)]] (.leaf (⟨o2.x,o2.c1⟩:Hg) [0]))) (.br (.intro (Aa o1.c1 1000000) fun o2=> .seg [.call [0] (.v (vI o2.x)) [.cells (Ak o2.c1)],.as 14 (.v (vI (o2.x-500000)))] (.leaf (⟨o2.x-500000,o2.c1⟩:Hg) [0])) (.intro (Aa o1.c1 20) fun o2=> .seg [.call [0] (.v (vI o2.x)) [.cells (Ak o2.c1)]] (.leaf (⟨o2.x,o2.c1⟩:Hg) [0])))),In (Aa c 3) fun o1=>((Ai c 3 o1)∧((decide (o1.x=0))=true→In (A6 o1.c1 [0,1,(-1),9,10,127,128,999999999,1000000000,9223372036854775807,z2]) fun o2=>((B6 o1.c1 [0,1,(-1),9,10,127,128,999999999,1000000000,9223372036854775807,z2] o2)∧((Aw o2.c1))∧(.v (vI o2.x):S)= .v (vI o2.x)∧([.cells (Ak o2.c1)]:List Blk)=[.cells (Ak o2.c1)]))∧((decide (o1.x=0))=false→((decide (o1.x=1))=true→In (Aa o1.c1 1000000) fun o2=>(let z1:=o2.x-500000;(Ai o1.c1 1000000 o2)∧((.v (vI (IntKind.i64.wrap z1)):S)= .v (vI z1))∧((Aw o2.c1))∧(.v (vI z1):S)= .v (vI z1)∧([.cells (Ak o2.c1)]:List Blk)=[.cells (Ak o2.c1)]))∧((decide (o1.x=1))=false→In (Aa o1.c1 20) fun o2=>((Ai o1.c1 20 o2)∧((Aw o2.c1))∧(.v (vI o2.x):S)= .v (vI o2.x)∧([.cells (Ak o2.c1)]:List Blk)=[.cells (Ak o2.c1)])))))) Q4 ?_
 refine⟨(Ao c 3 Q0),fun o1 ho_o1=>?_⟩
 obtain ⟨⟨hp_o1_0,hp_o1_1,hp_o1_2,hp_o1_3⟩,hf_o1⟩:=ho_o1
 refine⟨hf_o1,dsp (fun h1 p1=>?_) fun h1 p1=>?_⟩
 refine⟨(Cu o1.c1 [0,1,(-1),9,10,127,128,999999999,1000000000,9223372036854775807,(-9223372036854775808)] Q0 Q6 Q6),fun o2 ho_o2=>?_⟩
 obtain ⟨⟨hp_o2_0,hp_o2_1⟩,hf_o2⟩:=ho_o2
 exact⟨hf_o2,Q0,rfl,rfl⟩
 refine dsp (fun h2 p2=>?_) fun h2 p2=>?_
 refine⟨(Ao o1.c1 1000000 Q0),fun o2 ho_o2=>?_⟩
 obtain ⟨⟨hp_o2_0,hp_o2_1,hp_o2_2,hp_o2_3⟩,hf_o2⟩:=ho_o2
 exact⟨hf_o2,(Ae Q2 Q2),Q0,rfl,rfl⟩
 refine⟨(Ao o1.c1 20 Q0),fun o2 ho_o2=>?_⟩
 obtain ⟨⟨hp_o2_0,hp_o2_1,hp_o2_2,hp_o2_3⟩,hf_o2⟩:=ho_o2
 exact⟨hf_o2,Q0,rfl,rfl⟩
structure Pw where
 c1:Cur
def Wu (b:List Int) (o:Pw):Prop:=Fun Tryz.prog 51 [.c (.seq .u8 b)] [] (.v (vP 0)) [.cells (Ak o.c1)]
def Px (b:List Int) (o:Pw):Prop:=((Aw o.c1))∧Wu b o
structure Qn where
 h:Int
 i:Nat
def Qo (b:List Int):Fam:=⟨Qn,fun q1=>[(0,.v (.c (.seq .u8 b))),(3,.v (vI q1.h)),(4,.v (vI ((q1.i:Nat):Int)))],fun _=>[],fun q1=>q1.i≤List.length b∧(0:Int)≤q1.h∧q1.h≤1073741823,fun q1=>List.length b-q1.i⟩
theorem Aht (b:List Int) (hp1:List.length b≤1048576): ∃o:Pw,Px b o:=by
 have hN:Bf=274877906944:=rfl
 refine Bv Tryz.func51 Q4 Q4 (w:=let z4:=((List.length b:Nat):Int);let z5:=Qo b;(.seg [.as 7 (.v (vI (28433+z4))),.at 0,.keep [0,3,4],.sel []] (.loop z5 fun q1=> .br (.br (.seg [.as 19 (.v (vI (q1.h*131)))] (.intro (fun (x1:Int)=>b[q1.i]? =some x1) fun x1=> .seg [.el .u8 x1,.as 27 (.v (vI ((IntKind.i64.wrap ((IntKind.i64.wrap ((q1.h*131)+(IntKind.i64.wrap (x1))))+7)) % 1073741824))),.as 17 (.v (vI (((q1.i:Nat):Int)+1))),.at 0,.keep [0,3,4],.sel []] (.next))) (.leaf (⟨(⟨b,0,q1.h⟩:Cur)⟩:Pw) [0])) (.leaf (⟨(⟨b,0,q1.h⟩:Cur)⟩:Pw) [0])),((.v (vI (IntKind.i64.wrap (28433+z4))):S)= .v (vI (28433+z4)))∧z5.Has [(0,.v (.c (.seq .u8 b))),(3,.v (vI (28433+z4))),(4,.v (vI 0))] []∧∀q1,z5.inv q1→(let z2:List Blk:=[.cells [.seq .u8 b,.int .i64 0,.int .i64 q1.h]];let z3:=((q1.i:Nat):Int);((decide (z3<z4))=true→((decide (z3<4000))=true→((.v (vI (IntKind.i64.wrap (q1.h*131))):S)= .v (vI (q1.h*131)))∧(∃(x1:Int),b[q1.i]? =some x1)∧∀(x1:Int),(b[q1.i]? =some x1)→(let z1:=IntKind.i64.wrap ((IntKind.i64.wrap ((q1.h*131)+(IntKind.i64.wrap (x1))))+7);(b[q1.i]? =some x1)∧((0:Int)≤z3)∧((.v (vI (IntKind.i64.wrap (((BitVec.ofInt 64 z1&&&BitVec.ofInt 64 1073741823).toNat:Nat)))):S)= .v (vI (z1 % 1073741824)))∧((.v (vI (IntKind.i64.wrap (z3+1))):S)= .v (vI (z3+1)))∧z5.Nxt q1 [(0,.v (.c (.seq .u8 b))),(3,.v (vI (z1 % 1073741824))),(4,.v (vI (z3+1)))] []))∧((decide (z3<4000))=false→((Aw (⟨b,0,q1.h⟩:Cur)))∧(.v (vP 0):S)= .v (vP 0)∧(z2:List Blk)=z2))∧((decide (z3<z4))=false→((Aw (⟨b,0,q1.h⟩:Cur)))∧(.v (vP 0):S)= .v (vP 0)∧(z2:List Blk)=z2)))) Q4 ?_
 refine⟨(Ae Q2 Q2),Bi (j:=(⟨28433+((List.length b:Nat):Int),0⟩:Qn)) Q10 rfl (by dsimp only[Qo];exact⟨by omega,by omega,by omega⟩),fun (q1:Qn) hq_q1=>?_⟩
 have hi_q1:q1.i≤List.length b∧(0:Int)≤q1.h∧q1.h≤1073741823:=hq_q1
 obtain ⟨v1,v2,v3⟩:=hi_q1
 refine dsp (fun h1 p1=>?_) fun h1 p1=>?_
 refine dsp (fun h2 p2=>?_) fun h2 p2=>?_
 refine⟨(Ae Q2 Q2),(Bh (l:=b) (i:=q1.i) Q2),fun x1 hx1=>?_⟩
 exact⟨hx1,Q2,(F6 (k:=30) Q28 Q28),(Ae Q2 Q2),A5 (j:=(⟨(IntKind.i64.wrap ((IntKind.i64.wrap ((q1.h*131)+(IntKind.i64.wrap (x1))))+7)) % 1073741824,q1.i+1⟩:Qn)) Q10 rfl (by dsimp only[Qo];exact⟨by omega,by omega,by omega⟩) (by dsimp only[Qo];omega)⟩
 exact⟨(⟨by dsimp only;omega,hp1⟩),rfl,rfl⟩
 exact⟨(⟨by dsimp only;omega,hp1⟩),rfl,rfl⟩
structure Nb where
 l:List Int
 c1:Cur
def Cm (c:Cur) (n:Int) (o:Nb):Prop:=Fun Tryz.prog 89 [vP 0,vI n] [.cells (Ak c)] (.v (vO 1)) [.cells (Ak o.c1),.lst .u8 o.l]
def Bk (c:Cur) (n:Int) (o:Nb):Prop:=((List.length o.l≤Int.toNat n)∧(Aw o.c1))∧Cm c n o
structure Lh where
 c:Cur
 b:List Int
 i:Nat
def Li (n:Int):Fam:=⟨Lh,fun q1=>[(0,.v (vP 0)),(1,.v (vI n)),(5,.v (vO 1)),(6,.v (vI ((q1.i:Nat):Int)))],fun q1=>[.cells (Ak q1.c),.lst .u8 q1.b],fun q1=>Aw q1.c∧List.length q1.b=q1.i∧(q1.i=0∨((q1.i:Nat):Int)≤n),fun q1=>Int.toNat n-q1.i⟩
theorem Dw (c:Cur) (n:Int) (hp1:Aw c) (hp2:n≤100000): ∃o:Nb,Bk c n o:=by
 have hN:Bf=274877906944:=rfl
 refine Bv Tryz.func89 Q4 Q4 (w:=let z2:=Li n;(.seg [.ty .u8,.at 0,.keep [0,1,5,6],.sel [0,1]] (.loop z2 fun q1=> .br (.intro (D6 q1.c) fun o1=> .seg [.call [0] (.v (vI o1.x)) [.cells (Ak o1.c1)],.as 16 (.v (.c (.int .u8 o1.x))),.ty .u8,.ty .u8,.as 12 (.v (vI (((q1.i:Nat):Int)+1))),.at 0,.keep [0,1,5,6],.sel [0,3]] (.next)) (.leaf (⟨q1.b,q1.c⟩:Nb) [0,1])),z2.Has [(0,.v (vP 0)),(1,.v (vI n)),(5,.v (vO 1)),(6,.v (vI 0))] [.cells (Ak c),.lst .u8 ([]:List Int)]∧∀q1,z2.inv q1→(let z1:=((q1.i:Nat):Int);((decide (z1<n))=true→In (D6 q1.c) fun o1=>((Gk q1.c o1)∧((.v (.c (.int .u8 (IntKind.u8.wrap (o1.x)))):S)= .v (.c (.int .u8 o1.x)))∧(List.length q1.b+List.length [o1.x]≤Bf)∧((.v (vI (IntKind.i64.wrap (z1+1))):S)= .v (vI (z1+1)))∧z2.Nxt q1 [(0,.v (vP 0)),(1,.v (vI n)),(5,.v (vO 1)),(6,.v (vI (z1+1)))] [.cells (Ak o1.c1),.lst .u8 (q1.b++[o1.x])]))∧((decide (z1<n))=false→((List.length q1.b≤Int.toNat n)∧(Aw q1.c))∧(.v (vO 1):S)= .v (vO 1)∧([.cells (Ak q1.c),.lst .u8 q1.b]:List Blk)=[.cells (Ak q1.c),.lst .u8 q1.b])))) Q4 ?_
 refine⟨Bi (j:=(⟨c,([]:List Int),0⟩:Lh)) Q10 rfl (by dsimp only[Li];exact⟨hp1,rfl,.inl rfl⟩),fun (q1:Lh) hq_q1=>?_⟩
 have hi_q1:Aw q1.c∧List.length q1.b=q1.i∧(q1.i=0∨((q1.i:Nat):Int)≤n):=hq_q1
 obtain ⟨v1,v2,v3⟩:=hi_q1
 refine dsp (fun h1 p1=>?_) fun h1 p1=>?_
 refine⟨(Na q1.c Q0),fun o1 ho_o1=>?_⟩
 obtain ⟨⟨hp_o1_0,hp_o1_1⟩,hf_o1⟩:=ho_o1
 exact⟨hf_o1,(Lv Q2 Q2),Q6,(Ae Q2 Q2),A5 (j:=(⟨o1.c1,q1.b++[o1.x],q1.i+1⟩:Lh)) Q10 rfl (by dsimp only[Li];exact⟨by assumption,by simp;omega,by omega⟩) (by dsimp only[Li];omega)⟩
 exact⟨⟨Q2,Q0⟩,rfl,rfl⟩
structure Raw where
 msgs:List Shp
structure Vio where
 code:Int
 msg:Int
 field:Int
structure Ap1 (ids:List Int) (f:Fld):Prop where
 num:Dk f.number=true
 kd:1≤f.kind∧f.kind≤8
 pk:f.packed=true→f.rep=true∧f.kind≤5
 ref:f.kind=8→f.msg∈ids
 no:f.kind≠8→f.msg=0
def Aiy (fs:List Fld):List Int:=fs.map fun f=>f.number
def G1 (l:List Shp):List Int:=l.map fun m=>m.id
def Py (l:List Shp) (id:Int):Bool:=l.any fun m=>decide (m.id=id)
def Cx (l:List Fld) (n:Int):Bool:=l.any fun f=>decide (f.number=n)
structure FldsG (ids:List Int) (fs:List Fld):Prop where
 len:fs.length≤5
 num:(Aiy fs).Nodup
 all: ∀f∈fs,Ap1 ids f
structure RawK (n:Nat) (l:List Shp):Prop where
 len:l.length=n
 pos:1≤n∧n≤3
 ids:G1 l=[5,1,99].take n
 flds: ∀m∈l,FldsG (G1 l) m.fields
theorem Adw {l:List Fld} {n:Int} :Cx l n=false↔∀f∈l,f.number≠n:=by
 simp[Cx]
theorem Ach {l:List Shp} {x:Int} :Py l x=true↔x∈G1 l:=by
 simp[Py,G1]
theorem Ye {l:List Int} (h:l.Nodup) {i:Nat} {x:Int} (hx:l[i]? =some x):x ∉ l.take i:=by
 intro hm
 obtain ⟨j,hj,he⟩:=List.mem_take_iff_getElem.1 hm
 have hi:=(List.getElem?_eq_some_iff.1 hx)
 obtain ⟨hi1,hi2⟩:=hi
 exact List.pairwise_iff_getElem.1 h j i Q2 hi1 Q2 (by rw[hi2,he])
theorem RawK.nodup {n:Nat} {l:List Shp} (h:RawK n l):(G1 l).Nodup:=by
 rw[h.ids]
 have h2:=h.pos
 have:n=1∨n=2∨n=3:=by omega
 rcases this with rfl|rfl|rfl<;>decide
theorem RawK.noId {n:Nat} {l:List Shp} (h:RawK n l) {i:Nat} {m:Shp} (hm:l[i]? =some m):Py (l.take i) m.id=false:=by
 cases hc:Py (l.take i) m.id with
 |false=>rfl
 |true=>
  have:=Ach.1 hc
  unfold G1 at this
  rw[List.map_take] at this
  exact absurd this (Ye (l:=G1 l) h.nodup (by unfold G1;rw[List.getElem?_map,hm];rfl))
theorem FldsG.noNum {ids:List Int} {fs:List Fld} (h:FldsG ids fs) {i:Nat} {f:Fld} (hf:fs[i]? =some f):Cx (fs.take i) f.number=false:=by
 rw[Adw]
 intro g hg he
 have:f.number∈(Aiy fs).take i:=by
  unfold Aiy
  rw[←List.map_take]
  exact List.mem_map.2 ⟨g,hg,he⟩
 exact absurd this (Ye (l:=Aiy fs) h.num (by unfold Aiy;rw[List.getElem?_map,hf];rfl))
theorem RawK.id_ok {n:Nat} {l:List Shp} (h:RawK n l) {m:Shp} (hm:m∈l):1≤m.id∧m.id≤99:=by
 have hx:m.id∈G1 l:=List.mem_map.2 ⟨m,hm,rfl⟩
 rw[h.ids] at hx
 have:=List.mem_of_mem_take hx
 simp at this
 omega
theorem Ahu {l:List Shp} {i:Nat} {m:Shp} {fs:List Fld} (h:l[i]? =some m):G1 (l.set i ⟨m.id,fs⟩)=G1 l:=by
 unfold G1
 apply List.ext_getElem?
 intro j
 rw[List.getElem?_map,List.getElem?_map,List.getElem?_set]
 split
 ·rename_i hij
  subst hij
  have hl:=(List.getElem?_eq_some_iff.1 h).1
  rw[if_pos hl,h]
  rfl
 ·rfl
theorem Ajv (fs:List Fld) (f:Fld):Aiy (fs++[f])=Aiy fs++[f.number]:=by simp[Aiy]
theorem RawK.add {n:Nat} {l:List Shp} (h:RawK n l) {i:Nat} {m:Shp} {f:Fld} (hm:l[i]? =some m) (hf:Ap1 (G1 l) f) (hn:Cx m.fields f.number=false) (hk:m.fields.length≤4):RawK n (l.set i ⟨m.id,m.fields++[f]⟩):=by
 have hM:=h.flds m (List.mem_of_getElem? hm)
 refine⟨by rw[List.length_set];exact h.len,h.pos,by rw[Ahu hm];exact h.ids,fun x hx=>?_⟩
 rw[Ahu hm]
 rcases List.mem_or_eq_of_mem_set hx with hx|rfl
 ·exact h.flds x hx
 ·refine⟨by rw[List.length_append];simp;omega,?_,fun g hg=>?_⟩
  ·show (Aiy (m.fields++[f])).Nodup
   rw[Ajv,List.nodup_append]
   refine⟨hM.num,by simp,fun a ha b hb=>?_⟩
   simp at hb
   subst hb
   intro e
   subst e
   obtain ⟨g,hg,he⟩:=List.mem_map.1 ha
   exact Adw.1 hn g hg he
  ·rcases List.mem_append.1 hg with hg|hg
   ·exact hM.all g hg
   ·simp at hg;subst hg;exact hf
def Vg (l:List Shp) (id:Int):Nat:=(l.filter fun m=>decide (m.id<id)).length
theorem Aa4 {l:List Shp} {i:Nat} {m:Shp} {id:Int} (h:l[i]? =some m):Vg (l.take (i+1)) id=Vg (l.take i) id+(if m.id<id then 1 else 0):=by
 have ht:l.take (i+1)=l.take i++[m]:=by rw[List.take_add_one,h];rfl
 unfold Vg
 rw[ht,List.filter_append,List.length_append]
 split<;>simp[*]
theorem Am7 (l:List Shp) (id:Int):Vg l id≤l.length:=List.length_filter_le _ _
theorem Ahv {l:List Shp} {id:Int} (h:id∈G1 l):Vg l id<l.length:=by
 obtain ⟨m,hm,rfl⟩:=List.mem_map.1 h
 unfold Vg
 rcases Nat.lt_or_ge (l.filter fun x=>decide (x.id<m.id)).length l.length with h|h
 ·exact h
 ·have:=List.length_filter_eq_length_iff.1 (Nat.le_antisymm (List.length_filter_le _ _) h) m hm
  simp at this
def Ame (n:Nat) (fs:List Fld):Prop:=fs.length≤5∧∀f∈fs,1≤f.kind∧f.kind≤8∧(f.kind=8→0≤f.msg∧f.msg<(n:Int))
def SchG (l:List Shp):Prop:=(1≤l.length∧l.length≤3)∧∀e∈l,Ame l.length e.fields
structure PlnG (p:Pln):Prop where
 sch:SchG p.shapes
 root:0≤p.root∧p.root<(p.shapes.length:Int)
 deep:1≤p.deep∧p.deep≤4
 most:0≤p.most∧p.most≤2000
def Ap7 (p:Pln):Prop:=p.shapes.length≤7∧∀e∈p.shapes,e.fields.length≤6
theorem PlnG.b {p:Pln} (h:PlnG p):Ap7 p:=⟨by have:=h.sch.1;omega,fun e he=>by have:=(h.sch.2 e he).1;omega⟩
theorem Aa5 {α:Type} {l:List α} {i:Nat} {x:α} (h:l[i]? =some x):l.take (i+1)=l.take i++[x]:=by rw[List.take_add_one,h];rfl
theorem Ae2 {l:List Shp} {i:Nat} {m:Shp} {id:Int} (h:l[i]? =some m):Py (l.take (i+1)) id=(Py (l.take i) id||decide (m.id=id)):=by
 rw[Aa5 h];simp[Py]
theorem Aci {l:List Fld} {i:Nat} {f:Fld} {n:Int} (h:l[i]? =some f):Cx (l.take (i+1)) n=(Cx (l.take i) n||decide (f.number=n)):=by
 rw[Aa5 h];simp[Cx]
theorem Ae3 {l:List Shp} {i:Nat} {m:Shp} {id:Int} {k:Nat} (h:l[i]? =some m) (hi:i<k) (he:m.id=id):Py (l.take k) id=true:=by
 rw[Py,List.any_eq_true]
 exact⟨m,List.mem_of_getElem? (by rw[List.getElem?_take,if_pos hi];exact h),by simpa using he⟩
theorem Acj {l:List Fld} {i:Nat} {f:Fld} {n:Int} (h:l[i]? =some f) (he:f.number=n):Cx l n=true:=by
 rw[Cx,List.any_eq_true]
 exact⟨f,List.mem_of_getElem? h,by simpa using he⟩
structure Qp where
 i:Nat
def Qq (r:Raw) (id:Int) (n:Int):Fam:=⟨Qp,fun q1=>[(1,.v (vI id)),(2,.v (vI n)),(3,.v (vP 0)),(7,.v (vI ((q1.i:Nat):Int)))],fun _=>[.cells [.seq .shp r.msgs]],fun q1=>((q1.i:Nat):Int)≤n∧Py (List.take q1.i r.msgs) id=false,fun q1=>Int.toNat n-q1.i⟩
theorem Ack (r:Raw) (id:Int) (n:Int) (hp1:(0:Int)≤n∧n≤((List.length (r).msgs:Nat):Int)) (hp2:List.length (r).msgs≤1000):Fun Tryz.prog 224 [.agg [.seq .shp r.msgs],vI id,vI n] [] (.v (vB (Py (List.take (Int.toNat n) (r).msgs) id))) []:=by
 have hN:Bf=274877906944:=rfl
 refine Aq Tryz.func224 Q4 Q4 (w:=let z2:=Qq r id n;let z3:=vB (Py (List.take (Int.toNat n) (r).msgs) id);(.seg [.at 0,.keep [1,2,3,7],.sel [0]] (.loop z2 fun q1=> .br (.intro (fun (x1:Shp)=>r.msgs[q1.i]? =some x1) fun x1=> .seg [.el .shp x1] (.br (.leaf () []) (.seg [.as 12 (.v (vI (((q1.i:Nat):Int)+1))),.at 0,.keep [1,2,3,7],.sel [0]] (.next)))) (.leaf () [])),z2.Has [(1,.v (vI id)),(2,.v (vI n)),(3,.v (vP 0)),(7,.v (vI 0))] [.cells [.seq .shp r.msgs]]∧∀q1,z2.inv q1→(let z1:=((q1.i:Nat):Int);((decide (z1<n))=true→(∃(x1:Shp),r.msgs[q1.i]? =some x1)∧∀(x1:Shp),(r.msgs[q1.i]? =some x1)→((r.msgs[q1.i]? =some x1)∧((0:Int)≤z1)∧((decide (x1.id=id))=true→(.v (vB true):S)= .v z3∧([]:List Blk)=[])∧((decide (x1.id=id))=false→((.v (vI (IntKind.i64.wrap (z1+1))):S)= .v (vI (z1+1)))∧z2.Nxt q1 [(1,.v (vI id)),(2,.v (vI n)),(3,.v (vP 0)),(7,.v (vI (z1+1)))] [.cells [.seq .shp r.msgs]])))∧((decide (z1<n))=false→(.v (vB false):S)= .v z3∧([]:List Blk)=[])))) Q4 ?_
 refine⟨Bi (j:=(⟨0⟩:Qp)) Q10 rfl (by dsimp only[Qq];exact⟨by omega,rfl⟩),fun (q1:Qp) hq_q1=>?_⟩
 have hi_q1:((q1.i:Nat):Int)≤n∧Py (List.take q1.i r.msgs) id=false:=hq_q1
 obtain ⟨v1,v2⟩:=hi_q1
 refine dsp (fun h1 p1=>?_) fun h1 p1=>?_
 refine⟨(Bh (l:=r.msgs) (i:=q1.i) Q2),fun x1 hx1=>?_⟩
 refine⟨hx1,Q2,dsp (fun h2 p2=>?_) fun h2 p2=>?_⟩
 refine⟨(sB ?_),rfl⟩
 rotate_left
 exact⟨(Ae Q2 Q2),A5 (j:=(⟨q1.i+1⟩:Qp)) Q10 rfl (by dsimp only[Qq];exact⟨by omega,by rw[Ae2 hx1,v2];simpa using by assumption⟩) (by dsimp only[Qq];omega)⟩
 have hin:Int.toNat n=q1.i:=by omega
 refine⟨(sB ?_),rfl⟩
 rotate_left
 all_goals first|((rw[hin,v2];done))|((rw[Ae3 hx1 (by omega) (by assumption)];done))|(grind)
structure Nc where
 i:Nat
def Nd (l:List Fld) (n:Int):Fam:=⟨Nc,fun q1=>[(0,.v (.c (.seq .fld l))),(1,.v (vI n)),(5,.v (vI ((q1.i:Nat):Int)))],fun _=>[],fun q1=>q1.i≤List.length l∧Cx (List.take q1.i l) n=false,fun q1=>List.length l-q1.i⟩
theorem Fp (l:List Fld) (n:Int) (hp1:List.length l≤1000):Fun Tryz.prog 212 [.c (.seq .fld l),vI n] [] (.v (vB (Cx l n))) []:=by
 have hN:Bf=274877906944:=rfl
 refine Aq Tryz.func212 Q4 Q4 (w:=let z2:=Nd l n;(.seg [.at 0,.keep [0,1,5],.sel []] (.loop z2 fun q1=> .br (.intro (fun (x1:Fld)=>l[q1.i]? =some x1) fun x1=> .seg [.el .fld x1] (.br (.leaf () []) (.seg [.as 11 (.v (vI (((q1.i:Nat):Int)+1))),.at 0,.keep [0,1,5],.sel []] (.next)))) (.leaf () [])),z2.Has [(0,.v (.c (.seq .fld l))),(1,.v (vI n)),(5,.v (vI 0))] []∧∀q1,z2.inv q1→(let z1:=((q1.i:Nat):Int);((decide (z1<((List.length l:Nat):Int)))=true→(∃(x1:Fld),l[q1.i]? =some x1)∧∀(x1:Fld),(l[q1.i]? =some x1)→((l[q1.i]? =some x1)∧((0:Int)≤z1)∧((decide (x1.number=n))=true→(.v (vB true):S)= .v (vB (Cx l n))∧([]:List Blk)=[])∧((decide (x1.number=n))=false→((.v (vI (IntKind.i64.wrap (z1+1))):S)= .v (vI (z1+1)))∧z2.Nxt q1 [(0,.v (.c (.seq .fld l))),(1,.v (vI n)),(5,.v (vI (z1+1)))] [])))∧((decide (z1<((List.length l:Nat):Int)))=false→(.v (vB false):S)= .v (vB (Cx l n))∧([]:List Blk)=[])))) Q4 ?_
 refine⟨Bi (j:=(⟨0⟩:Nc)) Q10 rfl (by dsimp only[Nd];exact⟨by omega,rfl⟩),fun (q1:Nc) hq_q1=>?_⟩
 have hi_q1:q1.i≤List.length l∧Cx (List.take q1.i l) n=false:=hq_q1
 obtain ⟨v1,v2⟩:=hi_q1
 refine dsp (fun h1 p1=>?_) fun h1 p1=>?_
 refine⟨(Bh (l:=l) (i:=q1.i) Q2),fun x1 hx1=>?_⟩
 refine⟨hx1,Q2,dsp (fun h2 p2=>?_) fun h2 p2=>?_⟩
 refine⟨(sB ?_),rfl⟩
 rotate_left
 exact⟨(Ae Q2 Q2),A5 (j:=(⟨q1.i+1⟩:Nc)) Q10 rfl (by dsimp only[Nd];exact⟨by omega,by rw[Aci hx1,v2];simpa using by assumption⟩) (by dsimp only[Nd];omega)⟩
 have hin:List.take q1.i l=l:=List.take_of_length_le (by omega)
 rw[hin] at v2
 refine⟨(sB ?_),rfl⟩
 rotate_left
 all_goals first|((rw[v2];done))|((rw[Acj hx1 (by assumption)];done))|(grind)
theorem Ahw (r:Raw) (msg:Int) (hp1:RawK (List.length (r).msgs) (r).msgs) (hp2:(0:Int)≤msg∧msg<((List.length (r).msgs:Nat):Int)):Fun Tryz.prog 220 [.agg [.seq .shp r.msgs],vI msg] [] (.v (vI 0)) []:=by
 have hN:Bf=274877906944:=rfl
 have hpos:=hp1.pos
 refine Aq Tryz.func220 Q4 Q4 (w:=let z3:=((List.length r.msgs:Nat):Int)-1;let z4:=Am msg 0 z3;let z5:=List.take (Int.toNat msg) (r).msgs;(.seg [.as 10 (.v (vI z3)),.call [] (.v (vB z4)) []] (.br (.leaf () []) (.intro (fun (x1:Shp)=>r.msgs[Int.toNat msg]? =some x1) fun x1=> .seg [.el .shp x1,.call [] (.v (vB (Am x1.id 1 99))) []] (.br (.leaf () []) (.seg [.call [] (.v (vB (Py z5 x1.id))) [],.br false,.br false] (.leaf () []))))),((.v (vI (IntKind.i64.wrap z3)):S)= .v (vI z3))∧(Fun Tryz.prog 59 [vI msg,vI 0,vI z3] [] (.v (vB z4)) [])∧((!z4)=true→(.v (vI 0):S)= .v (vI 0)∧([]:List Blk)=[])∧((!z4)=false→(∃(x1:Shp),r.msgs[Int.toNat msg]? =some x1)∧∀(x1:Shp),(r.msgs[Int.toNat msg]? =some x1)→(let z1:=Py z5 x1.id;let z2:=Am x1.id 1 99;(r.msgs[Int.toNat msg]? =some x1)∧((0:Int)≤msg)∧(Fun Tryz.prog 59 [vI x1.id,vI 1,vI 99] [] (.v (vB z2)) [])∧((!z2)=true→(.v (vI 2):S)= .v (vI 0)∧([]:List Blk)=[])∧((!z2)=false→(Fun Tryz.prog 224 [.agg [.seq .shp r.msgs],vI x1.id,vI msg] [] (.v (vB z1)) [])∧(z1=false)∧((decide (8<((List.length x1.fields:Nat):Int)))=false)∧(.v (vI 0):S)= .v (vI 0)∧([]:List Blk)=[]))))) Q4 ?_
 refine⟨(Ae Q2 Q2),(Be _ _ _),fun h1=>have q1:=Ap h1;have p1:=A0 q1;?_,fun h1=>have q1:=An h1;have p1:=As q1;?_⟩
 exact⟨rfl,rfl⟩
 refine⟨(Bh (l:=r.msgs) (i:=Int.toNat msg) Q2),fun x1 hx1=>?_⟩
 have hid:=hp1.id_ok (List.mem_of_getElem? hx1)
 have hfl:=(hp1.flds _ (List.mem_of_getElem? hx1)).len
 have hno:=hp1.noId hx1
 refine⟨hx1,Q2,(Be _ _ _),fun h2=>have q2:=Ap h2;have p2:=A0 q2;?_,fun h2=>have q2:=An h2;have p2:=As q2;?_⟩
 refine⟨(sI ?_),rfl⟩
 rotate_left
 exact⟨(Ack r _ _ Q2 Q2),hno,(decide_eq_false Q2),rfl,rfl⟩
 all_goals first|(rfl)|((exfalso;omega))|((exfalso;simp_all;done))|(grind)
theorem Acm (r:Raw) (msg:Int) (field:Int) (hp1:RawK (List.length (r).msgs) (r).msgs) (hp2:(0:Int)≤msg∧msg<((List.length (r).msgs:Nat):Int)) (hp3: ∀m,(r).msgs[Int.toNat msg]? =some m→(0:Int)≤field∧field<((List.length m.fields:Nat):Int)):Fun Tryz.prog 221 [.agg [.seq .shp r.msgs],vI msg,vI field] [] (.v (vI 0)) []:=by
 have hN:Bf=274877906944:=rfl
 have hpos:=hp1.pos
 refine Aq Tryz.func221 Q4 Q4 (w:=let z12:=((List.length r.msgs:Nat):Int);let z13:=([]:List Blk);let z14:=Am msg 0 (z12-1);let z15:=(.v (vI 0):S);let z16:=List.take (Int.toNat z12) (r).msgs;let z17:=(0:Int)≤field;(.seg [.as 13 (.v (vI (z12-1))),.call [] (.v (vB z14)) []] (.br (.leaf () []) (.intro (fun (x1:Shp)=>r.msgs[Int.toNat msg]? =some x1) fun x1=>let z8:=((List.length x1.fields:Nat):Int)-1;.seg [.el .shp x1,.as 25 (.v (vI z8)),.call [] (.v (vB (Am field 0 z8))) []] (.br (.leaf () []) (.seg [.el .shp x1] (.intro (fun (x2:Fld)=>x1.fields[Int.toNat field]? =some x2) fun x2=>let z1:=vB (Py z16 x2.msg);.seg [.el .fld x2,.call [] (.v (vB (Dk x2.number))) []] (.br (.leaf () []) (.seg [.ord (os 7 [5]) [],.call [] (.v (vB (Cx (List.take (Int.toNat field) x1.fields) x2.number))) [],.br false,.call [] (.v (vB (Ey x2.kind))) []] (.br (.leaf () []) (.br (.br (.leaf () []) (.seg [.call [] (.v (vB (C6 x2.kind))) []] (.br (.leaf () []) (.br (.seg [.call [] (.v z1) []] (.br (.leaf () []) (.br (.br (.leaf () []) (.leaf () [])) (.leaf () [])))) (.br (.br (.leaf () []) (.leaf () [])) (.leaf () [])))))) (.br (.seg [.call [] (.v z1) []] (.br (.leaf () []) (.br (.br (.leaf () []) (.leaf () [])) (.leaf () [])))) (.br (.br (.leaf () []) (.leaf () [])) (.leaf () [])))))))))))),((.v (vI (IntKind.i64.wrap (z12-1))):S)= .v (vI (z12-1)))∧(Fun Tryz.prog 59 [vI msg,vI 0,vI (z12-1)] [] (.v (vB z14)) [])∧((!z14)=true→z15= .v (vI 0)∧z13=[])∧((!z14)=false→(∃(x1:Shp),r.msgs[Int.toNat msg]? =some x1)∧∀(x1:Shp),(r.msgs[Int.toNat msg]? =some x1)→(let z9:=((List.length x1.fields:Nat):Int);let z10:=List.take (Int.toNat field) x1.fields;let z11:=r.msgs[Int.toNat msg]? =some x1;z11∧((0:Int)≤msg)∧((.v (vI (IntKind.i64.wrap (z9-1))):S)= .v (vI (z9-1)))∧(Fun Tryz.prog 59 [vI field,vI 0,vI (z9-1)] [] (.v (vB (Am field 0 (z9-1)))) [])∧((!(Am field 0 (z9-1)))=true→z15= .v (vI 0)∧z13=[])∧((!(Am field 0 (z9-1)))=false→z11∧((0:Int)≤msg)∧(∃(x2:Fld),x1.fields[Int.toNat field]? =some x2)∧∀(x2:Fld),(x1.fields[Int.toNat field]? =some x2)→(let z2:=(!decide (x2.kind=8))=true→((!decide (x2.msg=0))=true→(.v (vI 9):S)= .v (vI 0)∧z13=[])∧((!decide (x2.msg=0))=false→z15= .v (vI 0)∧z13=[]);let z3:=Py z16 x2.msg;let z4:=(!decide (x2.kind=8))=false→z15= .v (vI 0)∧z13=[];let z5:=decide (x2.kind=8);let z6:=Cx z10 x2.number;let z7:=Dk x2.number;(x1.fields[Int.toNat field]? =some x2)∧z17∧(Fun Tryz.prog 191 [vI x2.number] [] (.v (vB z7)) [])∧((!z7)=true→(.v (vI 5):S)= .v (vI 0)∧z13=[])∧((!z7)=false→(field≤z9)∧z17∧(field≤z9)∧z17∧(Fun Tryz.prog 212 [.c (.seq .fld z10),vI x2.number] [] (.v (vB z6)) [])∧(z6=false)∧(Fun Tryz.prog 134 [vI x2.kind] [] (.v (vB (Ey x2.kind))) [])∧((!(Ey x2.kind))=true→(.v (vI 7):S)= .v (vI 0)∧z13=[])∧((!(Ey x2.kind))=false→(x2.packed=true→((!x2.rep)=true→(.v (vI 8):S)= .v (vI 0)∧z13=[])∧((!x2.rep)=false→(Fun Tryz.prog 135 [vI x2.kind] [] (.v (vB (C6 x2.kind))) [])∧((!(C6 x2.kind))=true→(.v (vI 8):S)= .v (vI 0)∧z13=[])∧((!(C6 x2.kind))=false→(z5=true→(Fun Tryz.prog 224 [.agg [.seq .shp r.msgs],vI x2.msg,vI z12] [] (.v (vB z3)) [])∧((!z3)=true→(.v (vI 9):S)= .v (vI 0)∧z13=[])∧((!z3)=false→z2∧z4))∧(z5=false→z2∧z4))))∧(x2.packed=false→(z5=true→(Fun Tryz.prog 224 [.agg [.seq .shp r.msgs],vI x2.msg,vI z12] [] (.v (vB z3)) [])∧((!z3)=true→(.v (vI 9):S)= .v (vI 0)∧z13=[])∧((!z3)=false→z2∧z4))∧(z5=false→z2∧z4)))))))))) Q4 ?_
 refine⟨(Ae Q2 Q2),(Be _ _ _),fun h1=>have q1:=Ap h1;have p1:=A0 q1;?_,fun h1=>have q1:=An h1;have p1:=As q1;?_⟩
 exact⟨rfl,rfl⟩
 refine⟨(Bh (l:=r.msgs) (i:=Int.toNat msg) Q2),fun x1 hx1=>?_⟩
 have hfb:=hp3 _ hx1
 have hfg:=hp1.flds _ (List.mem_of_getElem? hx1)
 have hfl:=hfg.len
 refine⟨hx1,Q2,(Ae Q2 Q2),(Be _ _ _),fun h2=>have q2:=Ap h2;have p2:=A0 q2;?_,fun h2=>have q2:=An h2;have p2:=As q2;?_⟩
 exact⟨rfl,rfl⟩
 refine⟨hx1,Q2,(Bh (l:=x1.fields) (i:=Int.toNat field) Q2),fun x2 hx2=>?_⟩
 have hg:=hfg.all _ (List.mem_of_getElem? hx2)
 have hnn:=hfg.noNum hx2
 have hgk:=hg.kd
 have hgm:=hg.num
 have hgo:Ey x2.kind=true:=by simp only[Ey,Am,Bool.and_eq_true,decide_eq_true_eq];omega
 have hgp:=hg.pk
 have hgn:=hg.no
 refine⟨hx2,Q2,(X7 _),fun h3=>have q3:=Ap h3;?_,fun h3=>have q3:=An h3;?_⟩
 refine⟨(sI ?_),rfl⟩
 rotate_left
 refine⟨Q2,Q2,Q2,Q2,(Fp _ _ (by simp only[List.length_take];omega)),hnn,(Va _),fun h4=>have q4:=Ap h4;have p4:=A0 q4;?_,fun h4=>have q4:=An h4;have p4:=As q4;?_⟩
 refine⟨(sI ?_),rfl⟩
 rotate_left
 refine⟨fun h5=>?_,fun h5=>?_⟩
 refine⟨fun h6=>have q6:=Ap h6;?_,fun h6=>have q6:=An h6;?_⟩
 refine⟨(sI ?_),rfl⟩
 rotate_left
 refine⟨(Lx _),fun h7=>have q7:=Ap h7;have p7:=A0 q7;?_,fun h7=>have q7:=An h7;have p7:=As q7;?_⟩
 refine⟨(sI ?_),rfl⟩
 rotate_left
 refine dsp (fun h8 p8=>?_) fun h8 p8=>?_
 have hir:=(Ach (l:=r.msgs)).2 (hg.ref (by omega))
 refine⟨(Ack r _ _ Q2 Q2),fun h9=>have q9:=Ap h9;?_,fun h9=>have q9:=An h9;?_⟩
 refine⟨(sI ?_),rfl⟩
 rotate_left
 refine⟨fun h10=>have q10:=Ap h10;have p10:=of_decide_eq_false q10;?_,fun h10=>have q10:=An h10;have p10:=of_decide_eq_true q10;?_⟩
 refine⟨fun h11=>have q11:=Ap h11;have p11:=of_decide_eq_false q11;?_,fun h11=>have q11:=An h11;have p11:=of_decide_eq_true q11;?_⟩
 refine⟨(sI ?_),rfl⟩
 rotate_left
 exact⟨rfl,rfl⟩
 exact⟨rfl,rfl⟩
 refine⟨fun h9=>have q9:=Ap h9;have p9:=of_decide_eq_false q9;?_,fun h9=>have q9:=An h9;have p9:=of_decide_eq_true q9;?_⟩
 refine⟨fun h10=>have q10:=Ap h10;have p10:=of_decide_eq_false q10;?_,fun h10=>have q10:=An h10;have p10:=of_decide_eq_true q10;?_⟩
 refine⟨(sI ?_),rfl⟩
 rotate_left
 exact⟨rfl,rfl⟩
 exact⟨rfl,rfl⟩
 refine dsp (fun h6 p6=>?_) fun h6 p6=>?_
 have hir:=(Ach (l:=r.msgs)).2 (hg.ref (by omega))
 refine⟨(Ack r _ _ Q2 Q2),fun h7=>have q7:=Ap h7;?_,fun h7=>have q7:=An h7;?_⟩
 refine⟨(sI ?_),rfl⟩
 rotate_left
 refine⟨fun h8=>have q8:=Ap h8;have p8:=of_decide_eq_false q8;?_,fun h8=>have q8:=An h8;have p8:=of_decide_eq_true q8;?_⟩
 refine⟨fun h9=>have q9:=Ap h9;have p9:=of_decide_eq_false q9;?_,fun h9=>have q9:=An h9;have p9:=of_decide_eq_true q9;?_⟩
 refine⟨(sI ?_),rfl⟩
 rotate_left
 exact⟨rfl,rfl⟩
 exact⟨rfl,rfl⟩
 refine⟨fun h7=>have q7:=Ap h7;have p7:=of_decide_eq_false q7;?_,fun h7=>have q7:=An h7;have p7:=of_decide_eq_true q7;?_⟩
 refine⟨fun h8=>have q8:=Ap h8;have p8:=of_decide_eq_false q8;?_,fun h8=>have q8:=An h8;have p8:=of_decide_eq_true q8;?_⟩
 refine⟨(sI ?_),rfl⟩
 rotate_left
 exact⟨rfl,rfl⟩
 exact⟨rfl,rfl⟩
 all_goals first|(rfl)|((exfalso;simp_all[C6,Am];omega))|((exfalso;simp_all[C6,Am];done))|((exfalso;omega))|(grind)
structure L3 where
 i:Nat
def Qr (r:Raw):Fam:=⟨L3,fun q1=>[(1,.v (vP 0)),(2,.v (vP 1)),(3,.v (vI ((q1.i:Nat):Int)))],fun _=>[.cells [.seq .shp r.msgs],.cells [.int .i64 0,.int .i64 0,.int .i64 0]],fun q1=>q1.i≤List.length r.msgs,fun q1=>List.length r.msgs-q1.i⟩
structure Qs where
 k:Nat
def Hh (r:Raw) (q1:L3):Fam:=⟨Qs,fun q2=>[(1,.v (vP 0)),(2,.v (vP 1)),(3,.v (vI ((q1.i:Nat):Int))),(5,.v (vI ((q2.k:Nat):Int)))],fun _=>[.cells [.seq .shp r.msgs],.cells [.int .i64 0,.int .i64 0,.int .i64 0]],fun q2=>q2.k≤5,fun q2=>5-q2.k⟩
theorem Am8 (r:Raw) (hp1:RawK (List.length (r).msgs) (r).msgs):Fun Tryz.prog 209 [.agg [.seq .shp r.msgs]] [] (.v (.agg [.int .i64 0,.int .i64 0,.int .i64 0])) []:=by
 have hN:Bf=274877906944:=rfl
 have hpos:=hp1.pos
 refine Aq Tryz.func209 Q4 Q4 (w:=let zi:Int→C:= .int .i64;let z4:List Blk:=[.cells [.seq .shp r.msgs],.cells [zi 0,zi 0,zi 0]];let z5:=((List.length r.msgs:Nat):Int);let z6:=Qr r;(.br (.leaf () []) (.seg [.at 0,.keep [1,2,3],.sel [0,1]] (.loop z6 fun q1=> .br (.seg [.call [] (.v (vI 0)) [],.br false,.at 0,.keep [1,2,3,5],.sel [0,1]] (.loop (Hh r q1) fun q2=> .intro (fun (x1:Shp)=>r.msgs[q1.i]? =some x1) fun x1=> .seg [.el .shp x1] (.br (.seg [.call [] (.v (vI 0)) [],.br false,.as 36 (.v (vI (((q2.k:Nat):Int)+1))),.at 0,.keep [1,2,3,5],.sel [0,1]] (.next)) (.seg [.as 17 (.v (vI (((q1.i:Nat):Int)+1))),.at 0,.keep [1,2,3],.sel [0,1]] (.next))))) (.leaf () []))),((decide (6<z5))=true→(.v (.agg [zi 1,zi 6,zi (-1)]):S)= .v (.agg [zi 0,zi 0,zi 0])∧([]:List Blk)=[])∧((decide (6<z5))=false→z6.Has [(1,.v (vP 0)),(2,.v (vP 1)),(3,.v (vI 0))] z4∧∀q1,z6.inv q1→(let z3:=((q1.i:Nat):Int);((decide (z3<z5))=true→(Fun Tryz.prog 220 [.agg [.seq .shp r.msgs],vI z3] [] (.v (vI 0)) [])∧((!decide (0=0))=false)∧(Hh r q1).Has [(1,.v (vP 0)),(2,.v (vP 1)),(3,.v (vI z3)),(5,.v (vI 0))] z4∧∀q2,(Hh r q1).inv q2→(let z2:=((q2.k:Nat):Int);(∃(x1:Shp),r.msgs[q1.i]? =some x1)∧∀(x1:Shp),(r.msgs[q1.i]? =some x1)→(let z1:=decide (z2<((List.length x1.fields:Nat):Int));(r.msgs[q1.i]? =some x1)∧((0:Int)≤z3)∧(z1=true→(Fun Tryz.prog 221 [.agg [.seq .shp r.msgs],vI z3,vI z2] [] (.v (vI 0)) [])∧((!decide (0=0))=false)∧((.v (vI (IntKind.i64.wrap (z2+1))):S)= .v (vI (z2+1)))∧(Hh r q1).Nxt q2 [(1,.v (vP 0)),(2,.v (vP 1)),(3,.v (vI z3)),(5,.v (vI (z2+1)))] z4)∧(z1=false→((.v (vI (IntKind.i64.wrap (z3+1))):S)= .v (vI (z3+1)))∧z6.Nxt q1 [(1,.v (vP 0)),(2,.v (vP 1)),(3,.v (vI (z3+1)))] z4))))∧((decide (z3<z5))=false→(.v (.agg [zi 0,zi 0,zi 0]):S)= .v (.agg [zi 0,zi 0,zi 0])∧([]:List Blk)=[]))))) Q4 ?_
 refine dsp (fun h1 p1=>?_) fun h1 p1=>?_
 refine⟨(congrArg S.v (congrArg V.agg (Ah (congrArg (C.int .i64) ?_) (Ah (congrArg (C.int .i64) ?_) (Ah (congrArg (C.int .i64) ?_) rfl))))),rfl⟩
 rotate_left 3
 refine⟨Bi (j:=(⟨0⟩:L3)) Q10 rfl (by dsimp only[Qr];omega),fun (q1:L3) hq_q1=>?_⟩
 have hi_q1:q1.i≤List.length r.msgs:=hq_q1
 have v1:=hi_q1
 refine dsp (fun h2 p2=>?_) fun h2 p2=>?_
 refine⟨(Ahw r _ Q2 Q2),Q28,Bi (j:=(⟨0⟩:Qs)) Q10 rfl (by dsimp only[Hh];omega),fun (q2:Qs) hq_q2=>?_⟩
 have hi_q2:q2.k≤5:=hq_q2
 have w1:=hi_q2
 refine⟨(Bh (l:=r.msgs) (i:=q1.i) Q2),fun x1 hx1=>?_⟩
 have hfl:=(hp1.flds _ (List.mem_of_getElem? hx1)).len
 refine⟨hx1,Q2,dsp (fun h3 p3=>?_) fun h3 p3=>?_⟩
 exact⟨(Acm r _ _ Q2 Q2 (fun m hm=>by (try simp only[Int.toNat_natCast] at hm);rw[hx1] at hm;cases hm;omega)),Q28,(Ae Q2 Q2),A5 (j:=(⟨q2.k+1⟩:Qs)) Q10 rfl (by dsimp only[Hh];omega) (by dsimp only[Hh];omega)⟩
 exact⟨(Ae Q2 Q2),A5 (j:=(⟨q1.i+1⟩:L3)) Q10 rfl (by dsimp only[Qr];omega) (by dsimp only[Qr];omega)⟩
 exact⟨rfl,rfl⟩
 all_goals first|(rfl)|((exfalso;simp_all[C6,Am];omega))|((exfalso;simp_all[C6,Am];done))|((exfalso;omega))|(grind)
structure Pz where
 n:Int
 i:Nat
def L4 (r:Raw) (id:Int):Fam:=⟨Pz,fun q1=>[(1,.v (vI id)),(2,.v (vP 0)),(5,.v (vI q1.n)),(6,.v (vI ((q1.i:Nat):Int)))],fun _=>[.cells [.seq .shp r.msgs]],fun q1=>q1.i≤List.length r.msgs∧q1.n=((Vg (List.take q1.i r.msgs) id:Nat):Int),fun q1=>List.length r.msgs-q1.i⟩
theorem Amf (r:Raw) (id:Int) (hp1:List.length (r).msgs≤1000):Fun Tryz.prog 210 [.agg [.seq .shp r.msgs],vI id] [] (.v (vI ((Vg (r).msgs id:Nat):Int))) []:=by
 have hN:Bf=274877906944:=rfl
 refine Aq Tryz.func210 Q4 Q4 (w:=let z2:=L4 r id;let z3:List Blk:=[.cells [.seq .shp r.msgs]];let z4:=((List.length r.msgs:Nat):Int);(.seg [.at 0,.keep [1,2,5,6],.sel [0]] (.loop z2 fun q1=> .br (.intro (fun (x1:Shp)=>r.msgs[q1.i]? =some x1) fun x1=> .seg [.el .shp x1] (.br (.seg [.as 23 (.v (vI (q1.n+1))),.as 13 (.v (vI (((q1.i:Nat):Int)+1))),.at 0,.keep [1,2,5,6],.sel [0]] (.next)) (.seg [.as 13 (.v (vI (((q1.i:Nat):Int)+1))),.at 0,.keep [1,2,5,6],.sel [0]] (.next)))) (.leaf () [])),z2.Has [(1,.v (vI id)),(2,.v (vP 0)),(5,.v (vI 0)),(6,.v (vI 0))] z3∧∀q1,z2.inv q1→(let z1:=((q1.i:Nat):Int);((decide (z1<z4))=true→(∃(x1:Shp),r.msgs[q1.i]? =some x1)∧∀(x1:Shp),(r.msgs[q1.i]? =some x1)→((r.msgs[q1.i]? =some x1)∧((0:Int)≤z1)∧((decide (x1.id<id))=true→((.v (vI (IntKind.i64.wrap (q1.n+1))):S)= .v (vI (q1.n+1)))∧((.v (vI (IntKind.i64.wrap (z1+1))):S)= .v (vI (z1+1)))∧z2.Nxt q1 [(1,.v (vI id)),(2,.v (vP 0)),(5,.v (vI (q1.n+1))),(6,.v (vI (z1+1)))] z3)∧((decide (x1.id<id))=false→((.v (vI (IntKind.i64.wrap (z1+1))):S)= .v (vI (z1+1)))∧z2.Nxt q1 [(1,.v (vI id)),(2,.v (vP 0)),(5,.v (vI q1.n)),(6,.v (vI (z1+1)))] z3)))∧((decide (z1<z4))=false→(.v (vI q1.n):S)= .v (vI ((Vg (r).msgs id:Nat):Int))∧([]:List Blk)=[])))) Q4 ?_
 refine⟨Bi (j:=(⟨0,0⟩:Pz)) Q10 rfl (by dsimp only[L4];exact⟨by omega,by simp[Vg]⟩),fun (q1:Pz) hq_q1=>?_⟩
 have hi_q1:q1.i≤List.length r.msgs∧q1.n=((Vg (List.take q1.i r.msgs) id:Nat):Int):=hq_q1
 obtain ⟨v1,v2⟩:=hi_q1
 refine dsp (fun h1 p1=>?_) fun h1 p1=>?_
 refine⟨(Bh (l:=r.msgs) (i:=q1.i) Q2),fun x1 hx1=>?_⟩
 have hrk:=Am7 (List.take q1.i r.msgs) id
 have hrl:(List.take q1.i r.msgs).length≤q1.i:=by rw[List.length_take];omega
 refine⟨hx1,Q2,dsp (fun h2 p2=>?_) fun h2 p2=>?_⟩
 exact⟨(Ae Q2 Q2),(Ae Q2 Q2),A5 (j:=(⟨q1.n+1,q1.i+1⟩:Pz)) Q10 rfl (by dsimp only[L4];exact⟨by omega,by rw[Aa4 hx1];split<;>omega⟩) (by dsimp only[L4];omega)⟩
 exact⟨(Ae Q2 Q2),A5 (j:=(⟨q1.n,q1.i+1⟩:Pz)) Q10 rfl (by dsimp only[L4];exact⟨by omega,by rw[Aa4 hx1];split<;>omega⟩) (by dsimp only[L4];omega)⟩
 have hin:List.take q1.i r.msgs=r.msgs:=List.take_of_length_le (by omega)
 rw[hin] at v2
 refine⟨(sI ?_),rfl⟩
 rotate_left
 all_goals first|((rw[v2];done))|((exact v2))|(omega)
theorem Ahx {l:List Fld} {f g:Fld} {k:Nat} (h:g∈(([]++List.take k l)++[f])++List.drop k l):g=f∨g∈l:=by
 simp only[List.nil_append,List.mem_append,List.mem_singleton] at h
 rcases h with (h|h)|h
 ·exact .inr (List.mem_of_mem_take h)
 ·exact .inl h
 ·exact .inr (List.mem_of_mem_drop h)
structure Wv where
 o:List Fld
def Acn (l:List Fld) (f:Fld) (o:Wv):Prop:=Fun Tryz.prog 211 [.c (.seq .fld l),.agg (F2 f)] [] (.v (vO 0)) [.lst .fld o.o]
def Ww (l:List Fld) (f:Fld) (o:Wv):Prop:=((List.length o.o=List.length l+1)∧(∀g∈o.o,g=f∨g∈l))∧Acn l f o
structure Vh where
 k:Nat
def Vi (l:List Fld) (f:Fld):Fam:=⟨Vh,fun q1=>[(0,.v (.c (.seq .fld l))),(3,.v (vP 0)),(5,.v (vI ((q1.k:Nat):Int)))],fun _=>[.cells (F2 f)],fun q1=>q1.k≤List.length l,fun q1=>List.length l-q1.k⟩
theorem Aov (l:List Fld) (f:Fld) (hp1:List.length l≤1000): ∃o:Wv,Ww l f o:=by
 have hN:Bf=274877906944:=rfl
 refine Bv Tryz.func211 Q4 Q4 (w:=let z7:=((List.length l:Nat):Int);let z8:=Vi l f;(.seg [.at 0,.keep [0,3,5],.sel [0]] (.loop z8 fun q1=>let z1:=(([]:List Fld)++(List.take q1.k l))++[f];.case (decide (((q1.k:Nat):Int)<z7)) (.intro (fun (x1:Fld)=>l[q1.k]? =some x1) fun x1=> .seg [.ord (os 14 []) [],.br true,.el .fld x1] (.br (.seg [.as 22 (.v (vI (((q1.k:Nat):Int)+1))),.at 0,.keep [0,3,5],.sel [0]] (.next)) (.seg [.ty .fld,.ty .fld,.ord [(0,true),(1,true),(4,true),(5,true),(6,true),(2,false),(3,false),(7,false),(8,true)] [2],.ty .fld,.ty .fld,.ty .fld] (.leaf (⟨z1++(List.drop q1.k l)⟩:Wv) [5])))) (.seg [.ord (os 14 []) [],.br false,.ty .fld,.ty .fld,.ord [(0,true),(1,true),(4,true),(5,true),(6,true),(2,false),(3,false),(7,false),(8,true)] [2],.ty .fld,.ty .fld,.ty .fld] (.leaf (⟨z1++(List.drop q1.k l)⟩:Wv) [5]))),z8.Has [(0,.v (.c (.seq .fld l))),(3,.v (vP 0)),(5,.v (vI 0))] [.cells (F2 f)]∧∀q1,z8.inv q1→(let z3:=((q1.k:Nat):Int);let z4:=([]:List Fld)++(List.take q1.k l);let z2:=(z4++[f])++(List.drop q1.k l);let z5:=List.length ([]:List Fld)+List.length (List.take q1.k l)≤Bf;let z6:=List.length (z4++[f])+List.length (List.drop q1.k l)≤Bf;((decide (z3<z7))=true→(∃(x1:Fld),l[q1.k]? =some x1)∧∀(x1:Fld),(l[q1.k]? =some x1)→(((decide (z3<z7))=true)∧(l[q1.k]? =some x1)∧((0:Int)≤z3)∧(l[q1.k]? =some x1)∧((0:Int)≤z3)∧((decide (x1.number<f.number))=true→((.v (vI (IntKind.i64.wrap (z3+1))):S)= .v (vI (z3+1)))∧z8.Nxt q1 [(0,.v (.c (.seq .fld l))),(3,.v (vP 0)),(5,.v (vI (z3+1)))] [.cells (F2 f)])∧((decide (x1.number<f.number))=false→(z3≤z7)∧((0:Int)≤z3)∧z5∧(z3≤z7)∧((0:Int)≤z3)∧(z3≤z7)∧((0:Int)≤z3)∧(List.length z4+List.length [f]≤Bf)∧z6∧((List.length z2=List.length l+1)∧(∀g∈z2,g=f∨g∈l))∧(.v (vO 0):S)= .v (vO 0)∧([.lst .fld z2]:List Blk)=[.lst .fld z2])))∧((decide (z3<z7))=false→((decide (z3<z7))=false)∧(z3≤z7)∧((0:Int)≤z3)∧z5∧(z3≤z7)∧((0:Int)≤z3)∧(z3≤z7)∧((0:Int)≤z3)∧(List.length z4+List.length [f]≤Bf)∧z6∧((List.length z2=List.length l+1)∧(∀g∈z2,g=f∨g∈l))∧(.v (vO 0):S)= .v (vO 0)∧([.lst .fld z2]:List Blk)=[.lst .fld z2])))) Q4 ?_
 refine⟨Bi (j:=(⟨0⟩:Vh)) Q10 rfl (by dsimp only[Vi];omega),fun (q1:Vh) hq_q1=>?_⟩
 have hi_q1:q1.k≤List.length l:=hq_q1
 have v1:=hi_q1
 refine dsp (fun h1 p1=>?_) fun h1 p1=>?_
 refine⟨(Bh (l:=l) (i:=q1.k) Q2),fun x1 hx1=>?_⟩
 refine⟨h1,hx1,Q2,hx1,Q2,dsp (fun h2 p2=>?_) fun h2 p2=>?_⟩
 exact⟨(Ae Q2 Q2),A5 (j:=(⟨q1.k+1⟩:Vh)) Q10 rfl (by dsimp only[Vi];omega) (by dsimp only[Vi];omega)⟩
 exact⟨Q2,Q2,(by simp only[List.length_take,List.length_cons,List.length_nil];omega),Q2,Q2,Q2,Q2,(by simp;omega),(by simp;omega),⟨(by simp;omega),(fun g hg=>Ahx hg)⟩,rfl,rfl⟩
 exact⟨h1,Q2,Q2,(by simp only[List.length_take,List.length_cons,List.length_nil];omega),Q2,Q2,Q2,Q2,(by simp;omega),(by simp;omega),⟨(by simp;omega),(fun g hg=>Ahx hg)⟩,rfl,rfl⟩
end Go.Proofs.YtcmnedgnppnhoaaGreat.Ax
