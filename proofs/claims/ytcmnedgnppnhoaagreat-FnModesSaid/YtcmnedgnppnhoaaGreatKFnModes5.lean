/- The reference: bytes of numbers. A byte: the reference. Whole inputs: the reference. Models: modes. Modes after each byte. The law FnModes. -/
import Derived.Test.YtcmnedgnppnhoaaGreatKFnModes4
import Derived.Test.YtcmnedgnppnhoaaGreatKS4
import Derived.Test.YtcmnedgnppnhoaaGreatKS2
set_option linter.unusedSimpArgs false
set_option linter.unusedVariables false
namespace Go.Proofs.YtcmnedgnppnhoaaGreat.Ax
open Go.RowKit
set_option maxHeartbeats 1600000 in
theorem Wo (d:Dcd) (b:Int) (a:Int) (hp1:MW d) (hp2:(0:Int)≤b∧b≤255):Fun Tryz.prog 66 [.agg (Ak 0 1 d),vI b,vI a] [.tree d.plan.shapes,.lst .lev d.stack] (.tup [.agg (Ak 2 3 (B0 ⟨d,[]⟩ b a).d),vO 4]) [.dead,.dead,.tree (B0 ⟨d,[]⟩ b a).d.plan.shapes,.lst .lev (B0 ⟨d,[]⟩ b a).d.stack,.lst .ev (B0 ⟨d,[]⟩ b a).out]:=by
 have hN:Be=274877906944:=rfl
 have hlv:=Cb hp1.lv
 have hpt:=By hlv.1
 have htb:=H9 hp1.lv
 have hbb:=hp1.b0
 have hat:=hp1.at_
 have hwt:=hp1.want
 have hwd:=Kx d
 have hsb:=U2 (b:=b) hbb.1 hbb.2
 refine Ar Tryz.func66 Q4 Q4 (w:=let zi:Int→C:= .int .i64;let z1:List C:=[zi d.at_,zi d.field.number,zi d.field.kind,.bool d.field.rep,.bool d.field.packed,zi d.field.msg,zi d.wire,zi d.want,zi d.utf.want,zi d.utf.low,zi d.utf.high,zi d.end_.kind,zi d.end_.field,.int .u64 d.end_.bits,zi d.end_.len,.str d.end_.text,zi d.end_.code,zi d.end_.at_];let z4:=(⟨d.plan,d.mode,d.stack,(⟨0,0⟩:Scn),d.start,d.at_,d.field,d.wire,d.want,d.utf,d.end_⟩:Dcd);let z6:=Aj d.scan b;let z2:=A8 (⟨d.plan,d.mode,d.stack,z6.1,a,d.at_,d.field,d.wire,d.want,d.utf,d.end_⟩:Dcd) 9 d.at_;let z3:=A8 (⟨d.plan,d.mode,d.stack,z6.1,d.start,d.at_,d.field,d.wire,d.want,d.utf,d.end_⟩:Dcd) 9 d.at_;let z7:=(⟨d.plan,d.mode,d.stack,(⟨0,0⟩:Scn),a,d.at_,d.field,d.wire,d.want,d.utf,d.end_⟩:Dcd);let z8:=A8 (⟨d.plan,d.mode,d.stack,d.scan,a,d.at_,d.field,d.wire,d.want,d.utf,d.end_⟩:Dcd) 1 a;let z9:=(.tup [.agg (.own 2::zi d.plan.root::zi d.plan.deep::zi d.plan.most::zi d.mode:: .own 3:: .int .u64 z6.1.bits::zi z6.1.have_::zi a::z1),vO 4]:S);let z10:List Blk:=[.dead,.dead,.tree z2.plan.shapes,.lst .lev z2.stack,.lst .ev [Aw 9 d.at_]];let z11:=([.dead,.dead,.tree d.plan.shapes,.lst .lev d.stack,.lst .ev ([]:List Ev)]:List Blk);let z13:=(.tup [.agg (.own 2::zi d.plan.root::zi d.plan.deep::zi d.plan.most::zi d.mode:: .own 3:: .int .u64 z6.1.bits::zi z6.1.have_::zi d.start::z1),vO 4]:S);let z14:List Blk:=[.dead,.dead,.tree z3.plan.shapes,.lst .lev z3.stack,.lst .ev [Aw 9 d.at_]];let z16:List Blk:=[.dead,.dead,.tree z8.plan.shapes,.lst .lev z8.stack,.lst .ev [Aw 1 a]];let z17:List Blk:=[.dead,.dead,.tree (A8 d 1 a).plan.shapes,.lst .lev (A8 d 1 a).stack,.lst .ev [Aw 1 a]];let z18:=decide (d.mode=8);let z19:=decide (d.want=0);let z20:=Ak 2 3 z2;let z21:=Af (Bz ⟨z4,[]⟩ z6.1.bits);let z15:List Blk:=[.dead,.dead,.tree z21.d.plan.shapes,.lst .lev z21.d.stack,.lst .ev z21.out];let z22:=Db ⟨z7,[]⟩ z6.1.bits;let z23:=Db ⟨z4,[]⟩ z6.1.bits;let z24:=Cv ⟨z7,[]⟩ z6.1.bits;let z25:=Cv ⟨z4,[]⟩ z6.1.bits;let z28:=Fc ⟨z7,[]⟩ z6.1.bits;let z29:=Fc ⟨z4,[]⟩ z6.1.bits;let z30:=Ak 2 3 z3;let z31:=(.tup [.agg z20,vO 4]:S);let z32:= !decide (d.mode=1);let z33:=decide (Ef d=0);let z36:=decide (z6.2=2);let z37:=decide (z6.2=0);let z38:=decide (d.mode=1);let z39:=Ak 2 3 (A8 d 1 a);let z40:=(.tup [.agg z30,vO 4]:S);let z41:=decide (d.mode=2);let z42:=Ak 2 3 z8;let z43:=vI (Ef d);let z44:=decide (d.mode=4);let z45:=Ak 2 3 z21.d;let z46:=Qb z6.1;let z47:=(.tup [.agg z42,vO 4]:S);let z48:=B0 ⟨d,[]⟩ b a;let z5:List Blk:=[.dead,.dead,.tree z48.d.plan.shapes,.lst .lev z48.d.stack,.lst .ev z48.out];let z12:=Ak 2 3 z48.d;let z26:=z19=false→z9= .tup [.agg z12,vO 4]∧z11=z5;let z27:=z18=false→z9= .tup [.agg z12,vO 4]∧z11=z5;let z34:=z19=false→z13= .tup [.agg z12,vO 4]∧z11=z5;let z35:=z18=false→z13= .tup [.agg z12,vO 4]∧z11=z5;let z49:=Qb d.scan;(.br (.br (.seg [.call [] (.tup [.agg z46,vI z6.2]) []] (.br (.seg [.call [0,1] (.tup [.agg z42,vO 4]) z16] (.leaf () [0,1,5,6,7])) (.br (.br (.seg [.call [] (.v z43) []] (.br (.seg [.call [0,1] (.tup [.agg z20,vO 4]) z10] (.leaf () [0,1,5,6,7])) (.br (.br (.seg [.call [0,1] (.tup [.agg z20,vO 4]) z10] (.leaf () [0,1,5,6,7])) (.seg [.ty .ev,.at 0,.cut 3 0,.cut 3 5] (.leaf () [0,1,6,7,5]))) (.seg [.ty .ev,.at 0,.cut 3 0,.cut 3 5] (.leaf () [0,1,6,7,5]))))) (.br (.br (.seg [.call [0,1] (.tup [.agg z20,vO 4]) z10] (.leaf () [0,1,5,6,7])) (.seg [.ty .ev,.at 0,.cut 3 0,.cut 3 5] (.leaf () [0,1,6,7,5]))) (.seg [.ty .ev,.at 0,.cut 3 0,.cut 3 5] (.leaf () [0,1,6,7,5])))) (.seg [.br true,.call [] (.tup [.agg (Ak 0 1 z22.d),vO 2]) [.tree z22.d.plan.shapes,.lst .lev z22.d.stack,.lst .ev z22.out],.at 0,.kill 0,.kill 1] (.leaf () [0,1,5,6,7]))))) (.br (.seg [.call [] (.tup [.agg z46,vI z6.2]) []] (.br (.seg [.call [0,1] (.tup [.agg z42,vO 4]) z16] (.leaf () [0,1,5,6,7])) (.br (.br (.seg [.call [] (.v z43) []] (.br (.seg [.call [0,1] (.tup [.agg z20,vO 4]) z10] (.leaf () [0,1,5,6,7])) (.br (.br (.seg [.call [0,1] (.tup [.agg z20,vO 4]) z10] (.leaf () [0,1,5,6,7])) (.seg [.ty .ev,.at 0,.cut 3 0,.cut 3 5] (.leaf () [0,1,6,7,5]))) (.seg [.ty .ev,.at 0,.cut 3 0,.cut 3 5] (.leaf () [0,1,6,7,5]))))) (.br (.br (.seg [.call [0,1] (.tup [.agg z20,vO 4]) z10] (.leaf () [0,1,5,6,7])) (.seg [.ty .ev,.at 0,.cut 3 0,.cut 3 5] (.leaf () [0,1,6,7,5]))) (.seg [.ty .ev,.at 0,.cut 3 0,.cut 3 5] (.leaf () [0,1,6,7,5])))) (.seg [.br false,.br true,.call [] (.tup [.agg (Ak 0 1 z28.d),vO 2]) [.tree z28.d.plan.shapes,.lst .lev z28.d.stack,.lst .ev z28.out],.at 0,.kill 0,.kill 1] (.leaf () [0,1,5,6,7]))))) (.br (.seg [.call [] (.tup [.agg z46,vI z6.2]) []] (.br (.seg [.call [0,1] (.tup [.agg z42,vO 4]) z16] (.leaf () [0,1,5,6,7])) (.br (.br (.seg [.call [] (.v z43) []] (.br (.seg [.call [0,1] (.tup [.agg z20,vO 4]) z10] (.leaf () [0,1,5,6,7])) (.br (.br (.seg [.call [0,1] (.tup [.agg z20,vO 4]) z10] (.leaf () [0,1,5,6,7])) (.seg [.ty .ev,.at 0,.cut 3 0,.cut 3 5] (.leaf () [0,1,6,7,5]))) (.seg [.ty .ev,.at 0,.cut 3 0,.cut 3 5] (.leaf () [0,1,6,7,5]))))) (.br (.br (.seg [.call [0,1] (.tup [.agg z20,vO 4]) z10] (.leaf () [0,1,5,6,7])) (.seg [.ty .ev,.at 0,.cut 3 0,.cut 3 5] (.leaf () [0,1,6,7,5]))) (.seg [.ty .ev,.at 0,.cut 3 0,.cut 3 5] (.leaf () [0,1,6,7,5])))) (.seg [.br false,.br false,.br true,.call [] (.tup [.agg (Ak 0 1 z24.d),vO 2]) [.tree z24.d.plan.shapes,.lst .lev z24.d.stack,.lst .ev z24.out],.at 0,.kill 0,.kill 1] (.leaf () [0,1,5,6,7]))))) (.seg [.call [] (.tup [.agg z46,vI z6.2]) []] (.br (.seg [.call [0,1] (.tup [.agg z39,vO 4]) z17] (.leaf () [0,1,5,6,7])) (.br (.br (.seg [.call [] (.v z43) []] (.br (.seg [.call [0,1] (.tup [.agg z30,vO 4]) z14] (.leaf () [0,1,5,6,7])) (.br (.br (.seg [.call [0,1] (.tup [.agg z30,vO 4]) z14] (.leaf () [0,1,5,6,7])) (.seg [.ty .ev,.at 0,.cut 3 0,.cut 3 5] (.leaf () [0,1,6,7,5]))) (.seg [.ty .ev,.at 0,.cut 3 0,.cut 3 5] (.leaf () [0,1,6,7,5]))))) (.br (.br (.seg [.call [0,1] (.tup [.agg z30,vO 4]) z14] (.leaf () [0,1,5,6,7])) (.seg [.ty .ev,.at 0,.cut 3 0,.cut 3 5] (.leaf () [0,1,6,7,5]))) (.seg [.ty .ev,.at 0,.cut 3 0,.cut 3 5] (.leaf () [0,1,6,7,5])))) (.seg [.br false,.br false,.br false,.call [0,1] (.tup [.agg z45,vO 4]) z15] (.leaf () [0,1,5,6,7])))))))) (.seg [.call [] (.tup [.agg z46,vI z6.2]) []] (.br (.seg [.call [0,1] (.tup [.agg z39,vO 4]) z17] (.leaf () [0,1,5,6,7])) (.br (.br (.seg [.call [] (.v z43) []] (.br (.seg [.call [0,1] (.tup [.agg z30,vO 4]) z14] (.leaf () [0,1,5,6,7])) (.br (.br (.seg [.call [0,1] (.tup [.agg z30,vO 4]) z14] (.leaf () [0,1,5,6,7])) (.seg [.ty .ev,.at 0,.cut 3 0,.cut 3 5] (.leaf () [0,1,6,7,5]))) (.seg [.ty .ev,.at 0,.cut 3 0,.cut 3 5] (.leaf () [0,1,6,7,5]))))) (.br (.br (.seg [.call [0,1] (.tup [.agg z30,vO 4]) z14] (.leaf () [0,1,5,6,7])) (.seg [.ty .ev,.at 0,.cut 3 0,.cut 3 5] (.leaf () [0,1,6,7,5]))) (.seg [.ty .ev,.at 0,.cut 3 0,.cut 3 5] (.leaf () [0,1,6,7,5])))) (.br (.seg [.call [] (.tup [.agg (Ak 0 1 z23.d),vO 2]) [.tree z23.d.plan.shapes,.lst .lev z23.d.stack,.lst .ev z23.out],.at 0,.kill 0,.kill 1] (.leaf () [0,1,5,6,7])) (.br (.seg [.call [] (.tup [.agg (Ak 0 1 z29.d),vO 2]) [.tree z29.d.plan.shapes,.lst .lev z29.d.stack,.lst .ev z29.out],.at 0,.kill 0,.kill 1] (.leaf () [0,1,5,6,7])) (.br (.seg [.call [] (.tup [.agg (Ak 0 1 z25.d),vO 2]) [.tree z25.d.plan.shapes,.lst .lev z25.d.stack,.lst .ev z25.out],.at 0,.kill 0,.kill 1] (.leaf () [0,1,5,6,7])) (.seg [.call [0,1] (.tup [.agg z45,vO 4]) z15] (.leaf () [0,1,5,6,7])))))))),((decide (d.scan.have_=0))=true→(z38=true→(Fun Tryz.prog 129 [.agg z49,vI b] [] (.tup [.agg z46,vI z6.2]) [])∧(z36=true→(Fun Tryz.prog 63 [.agg (.own 0::zi d.plan.root::zi d.plan.deep::zi d.plan.most::zi d.mode:: .own 1:: .int .u64 d.scan.bits::zi d.scan.have_::zi a::z1),vI 1,vI a] [.tree d.plan.shapes,.lst .lev d.stack] (.tup [.agg z42,vO 4]) z16)∧z47= .tup [.agg z12,vO 4]∧(z16:List Blk)=z5)∧(z36=false→(z37=true→(z32=true→(Fun Tryz.prog 73 [.agg (.seq .shp d.plan.shapes::zi d.plan.root::zi d.plan.deep::zi d.plan.most::zi d.mode:: .seq .lev d.stack:: .int .u64 z6.1.bits::zi z6.1.have_::zi a::z1)] [] (.v z43) [])∧(z33=true→(Fun Tryz.prog 63 [.agg (.own 0::zi d.plan.root::zi d.plan.deep::zi d.plan.most::zi d.mode:: .own 1:: .int .u64 z6.1.bits::zi z6.1.have_::zi a::z1),vI 9,vI d.at_] [.tree d.plan.shapes,.lst .lev d.stack] (.tup [.agg z20,vO 4]) z10)∧z31= .tup [.agg z12,vO 4]∧(z10:List Blk)=z5)∧(z33=false→(z18=true→(z19=true→(Fun Tryz.prog 63 [.agg (.own 0::zi d.plan.root::zi d.plan.deep::zi d.plan.most::zi d.mode:: .own 1:: .int .u64 z6.1.bits::zi z6.1.have_::zi a::z1),vI 9,vI d.at_] [.tree d.plan.shapes,.lst .lev d.stack] (.tup [.agg z20,vO 4]) z10)∧z31= .tup [.agg z12,vO 4]∧(z10:List Blk)=z5)∧z26)∧z27))∧(z32=false→(z18=true→(z19=true→(Fun Tryz.prog 63 [.agg (.own 0::zi d.plan.root::zi d.plan.deep::zi d.plan.most::zi d.mode:: .own 1:: .int .u64 z6.1.bits::zi z6.1.have_::zi a::z1),vI 9,vI d.at_] [.tree d.plan.shapes,.lst .lev d.stack] (.tup [.agg z20,vO 4]) z10)∧z31= .tup [.agg z12,vO 4]∧(z10:List Blk)=z5)∧z26)∧z27))∧(z37=false→(z38=true)∧(Fun Tryz.prog 130 [.agg (.seq .shp d.plan.shapes::zi d.plan.root::zi d.plan.deep::zi d.plan.most::zi d.mode:: .seq .lev d.stack:: .int .u64 0::zi 0::zi a::z1),.c (.int .u64 z6.1.bits)] [] (.tup [.agg (Ak 0 1 z22.d),vO 2]) [.tree z22.d.plan.shapes,.lst .lev z22.d.stack,.lst .ev z22.out])∧(.tup [.agg (Ak 2 3 z22.d),vO 4]:S)= .tup [.agg z12,vO 4]∧([.dead,.dead,.tree z22.d.plan.shapes,.lst .lev z22.d.stack,.lst .ev z22.out]:List Blk)=z5)))∧(z38=false→(z41=true→(Fun Tryz.prog 129 [.agg z49,vI b] [] (.tup [.agg z46,vI z6.2]) [])∧(z36=true→(Fun Tryz.prog 63 [.agg (.own 0::zi d.plan.root::zi d.plan.deep::zi d.plan.most::zi d.mode:: .own 1:: .int .u64 d.scan.bits::zi d.scan.have_::zi a::z1),vI 1,vI a] [.tree d.plan.shapes,.lst .lev d.stack] (.tup [.agg z42,vO 4]) z16)∧z47= .tup [.agg z12,vO 4]∧(z16:List Blk)=z5)∧(z36=false→(z37=true→(z32=true→(Fun Tryz.prog 73 [.agg (.seq .shp d.plan.shapes::zi d.plan.root::zi d.plan.deep::zi d.plan.most::zi d.mode:: .seq .lev d.stack:: .int .u64 z6.1.bits::zi z6.1.have_::zi a::z1)] [] (.v z43) [])∧(z33=true→(Fun Tryz.prog 63 [.agg (.own 0::zi d.plan.root::zi d.plan.deep::zi d.plan.most::zi d.mode:: .own 1:: .int .u64 z6.1.bits::zi z6.1.have_::zi a::z1),vI 9,vI d.at_] [.tree d.plan.shapes,.lst .lev d.stack] (.tup [.agg z20,vO 4]) z10)∧z31= .tup [.agg z12,vO 4]∧(z10:List Blk)=z5)∧(z33=false→(z18=true→(z19=true→(Fun Tryz.prog 63 [.agg (.own 0::zi d.plan.root::zi d.plan.deep::zi d.plan.most::zi d.mode:: .own 1:: .int .u64 z6.1.bits::zi z6.1.have_::zi a::z1),vI 9,vI d.at_] [.tree d.plan.shapes,.lst .lev d.stack] (.tup [.agg z20,vO 4]) z10)∧z31= .tup [.agg z12,vO 4]∧(z10:List Blk)=z5)∧z26)∧z27))∧(z32=false→(z18=true→(z19=true→(Fun Tryz.prog 63 [.agg (.own 0::zi d.plan.root::zi d.plan.deep::zi d.plan.most::zi d.mode:: .own 1:: .int .u64 z6.1.bits::zi z6.1.have_::zi a::z1),vI 9,vI d.at_] [.tree d.plan.shapes,.lst .lev d.stack] (.tup [.agg z20,vO 4]) z10)∧z31= .tup [.agg z12,vO 4]∧(z10:List Blk)=z5)∧z26)∧z27))∧(z37=false→(z38=false)∧(z41=true)∧(Fun Tryz.prog 131 [.agg (.seq .shp d.plan.shapes::zi d.plan.root::zi d.plan.deep::zi d.plan.most::zi d.mode:: .seq .lev d.stack:: .int .u64 0::zi 0::zi a::z1),.c (.int .u64 z6.1.bits)] [] (.tup [.agg (Ak 0 1 z28.d),vO 2]) [.tree z28.d.plan.shapes,.lst .lev z28.d.stack,.lst .ev z28.out])∧(.tup [.agg (Ak 2 3 z28.d),vO 4]:S)= .tup [.agg z12,vO 4]∧([.dead,.dead,.tree z28.d.plan.shapes,.lst .lev z28.d.stack,.lst .ev z28.out]:List Blk)=z5)))∧(z41=false→(z44=true→(Fun Tryz.prog 129 [.agg z49,vI b] [] (.tup [.agg z46,vI z6.2]) [])∧(z36=true→(Fun Tryz.prog 63 [.agg (.own 0::zi d.plan.root::zi d.plan.deep::zi d.plan.most::zi d.mode:: .own 1:: .int .u64 d.scan.bits::zi d.scan.have_::zi a::z1),vI 1,vI a] [.tree d.plan.shapes,.lst .lev d.stack] (.tup [.agg z42,vO 4]) z16)∧z47= .tup [.agg z12,vO 4]∧(z16:List Blk)=z5)∧(z36=false→(z37=true→(z32=true→(Fun Tryz.prog 73 [.agg (.seq .shp d.plan.shapes::zi d.plan.root::zi d.plan.deep::zi d.plan.most::zi d.mode:: .seq .lev d.stack:: .int .u64 z6.1.bits::zi z6.1.have_::zi a::z1)] [] (.v z43) [])∧(z33=true→(Fun Tryz.prog 63 [.agg (.own 0::zi d.plan.root::zi d.plan.deep::zi d.plan.most::zi d.mode:: .own 1:: .int .u64 z6.1.bits::zi z6.1.have_::zi a::z1),vI 9,vI d.at_] [.tree d.plan.shapes,.lst .lev d.stack] (.tup [.agg z20,vO 4]) z10)∧z31= .tup [.agg z12,vO 4]∧(z10:List Blk)=z5)∧(z33=false→(z18=true→(z19=true→(Fun Tryz.prog 63 [.agg (.own 0::zi d.plan.root::zi d.plan.deep::zi d.plan.most::zi d.mode:: .own 1:: .int .u64 z6.1.bits::zi z6.1.have_::zi a::z1),vI 9,vI d.at_] [.tree d.plan.shapes,.lst .lev d.stack] (.tup [.agg z20,vO 4]) z10)∧z31= .tup [.agg z12,vO 4]∧(z10:List Blk)=z5)∧z26)∧z27))∧(z32=false→(z18=true→(z19=true→(Fun Tryz.prog 63 [.agg (.own 0::zi d.plan.root::zi d.plan.deep::zi d.plan.most::zi d.mode:: .own 1:: .int .u64 z6.1.bits::zi z6.1.have_::zi a::z1),vI 9,vI d.at_] [.tree d.plan.shapes,.lst .lev d.stack] (.tup [.agg z20,vO 4]) z10)∧z31= .tup [.agg z12,vO 4]∧(z10:List Blk)=z5)∧z26)∧z27))∧(z37=false→(z38=false)∧(z41=false)∧(z44=true)∧(Fun Tryz.prog 132 [.agg (.seq .shp d.plan.shapes::zi d.plan.root::zi d.plan.deep::zi d.plan.most::zi d.mode:: .seq .lev d.stack:: .int .u64 0::zi 0::zi a::z1),.c (.int .u64 z6.1.bits)] [] (.tup [.agg (Ak 0 1 z24.d),vO 2]) [.tree z24.d.plan.shapes,.lst .lev z24.d.stack,.lst .ev z24.out])∧(.tup [.agg (Ak 2 3 z24.d),vO 4]:S)= .tup [.agg z12,vO 4]∧([.dead,.dead,.tree z24.d.plan.shapes,.lst .lev z24.d.stack,.lst .ev z24.out]:List Blk)=z5)))∧(z44=false→(Fun Tryz.prog 129 [.agg z49,vI b] [] (.tup [.agg z46,vI z6.2]) [])∧(z36=true→(Fun Tryz.prog 63 [.agg (Ak 0 1 d),vI 1,vI a] [.tree d.plan.shapes,.lst .lev d.stack] (.tup [.agg z39,vO 4]) z17)∧(.tup [.agg z39,vO 4]:S)= .tup [.agg z12,vO 4]∧(z17:List Blk)=z5)∧(z36=false→(z37=true→(z32=true→(Fun Tryz.prog 73 [.agg (.seq .shp d.plan.shapes::zi d.plan.root::zi d.plan.deep::zi d.plan.most::zi d.mode:: .seq .lev d.stack:: .int .u64 z6.1.bits::zi z6.1.have_::zi d.start::z1)] [] (.v z43) [])∧(z33=true→(Fun Tryz.prog 63 [.agg (.own 0::zi d.plan.root::zi d.plan.deep::zi d.plan.most::zi d.mode:: .own 1:: .int .u64 z6.1.bits::zi z6.1.have_::zi d.start::z1),vI 9,vI d.at_] [.tree d.plan.shapes,.lst .lev d.stack] (.tup [.agg z30,vO 4]) z14)∧z40= .tup [.agg z12,vO 4]∧(z14:List Blk)=z5)∧(z33=false→(z18=true→(z19=true→(Fun Tryz.prog 63 [.agg (.own 0::zi d.plan.root::zi d.plan.deep::zi d.plan.most::zi d.mode:: .own 1:: .int .u64 z6.1.bits::zi z6.1.have_::zi d.start::z1),vI 9,vI d.at_] [.tree d.plan.shapes,.lst .lev d.stack] (.tup [.agg z30,vO 4]) z14)∧z40= .tup [.agg z12,vO 4]∧(z14:List Blk)=z5)∧z34)∧z35))∧(z32=false→(z18=true→(z19=true→(Fun Tryz.prog 63 [.agg (.own 0::zi d.plan.root::zi d.plan.deep::zi d.plan.most::zi d.mode:: .own 1:: .int .u64 z6.1.bits::zi z6.1.have_::zi d.start::z1),vI 9,vI d.at_] [.tree d.plan.shapes,.lst .lev d.stack] (.tup [.agg z30,vO 4]) z14)∧z40= .tup [.agg z12,vO 4]∧(z14:List Blk)=z5)∧z34)∧z35))∧(z37=false→(z38=false)∧(z41=false)∧(z44=false)∧(Fun Tryz.prog 128 [.agg (.own 0::zi d.plan.root::zi d.plan.deep::zi d.plan.most::zi d.mode:: .own 1:: .int .u64 0::zi 0::zi d.start::z1),.c (.int .u64 z6.1.bits)] [.tree d.plan.shapes,.lst .lev d.stack] (.tup [.agg z45,vO 4]) z15)∧(.tup [.agg z45,vO 4]:S)= .tup [.agg z12,vO 4]∧(z15:List Blk)=z5))))))∧((decide (d.scan.have_=0))=false→(Fun Tryz.prog 129 [.agg z49,vI b] [] (.tup [.agg z46,vI z6.2]) [])∧(z36=true→(Fun Tryz.prog 63 [.agg (Ak 0 1 d),vI 1,vI a] [.tree d.plan.shapes,.lst .lev d.stack] (.tup [.agg z39,vO 4]) z17)∧(.tup [.agg z39,vO 4]:S)= .tup [.agg z12,vO 4]∧(z17:List Blk)=z5)∧(z36=false→(z37=true→(z32=true→(Fun Tryz.prog 73 [.agg (.seq .shp d.plan.shapes::zi d.plan.root::zi d.plan.deep::zi d.plan.most::zi d.mode:: .seq .lev d.stack:: .int .u64 z6.1.bits::zi z6.1.have_::zi d.start::z1)] [] (.v z43) [])∧(z33=true→(Fun Tryz.prog 63 [.agg (.own 0::zi d.plan.root::zi d.plan.deep::zi d.plan.most::zi d.mode:: .own 1:: .int .u64 z6.1.bits::zi z6.1.have_::zi d.start::z1),vI 9,vI d.at_] [.tree d.plan.shapes,.lst .lev d.stack] (.tup [.agg z30,vO 4]) z14)∧z40= .tup [.agg z12,vO 4]∧(z14:List Blk)=z5)∧(z33=false→(z18=true→(z19=true→(Fun Tryz.prog 63 [.agg (.own 0::zi d.plan.root::zi d.plan.deep::zi d.plan.most::zi d.mode:: .own 1:: .int .u64 z6.1.bits::zi z6.1.have_::zi d.start::z1),vI 9,vI d.at_] [.tree d.plan.shapes,.lst .lev d.stack] (.tup [.agg z30,vO 4]) z14)∧z40= .tup [.agg z12,vO 4]∧(z14:List Blk)=z5)∧z34)∧z35))∧(z32=false→(z18=true→(z19=true→(Fun Tryz.prog 63 [.agg (.own 0::zi d.plan.root::zi d.plan.deep::zi d.plan.most::zi d.mode:: .own 1:: .int .u64 z6.1.bits::zi z6.1.have_::zi d.start::z1),vI 9,vI d.at_] [.tree d.plan.shapes,.lst .lev d.stack] (.tup [.agg z30,vO 4]) z14)∧z40= .tup [.agg z12,vO 4]∧(z14:List Blk)=z5)∧z34)∧z35))∧(z37=false→(z38=true→(Fun Tryz.prog 130 [.agg (.seq .shp d.plan.shapes::zi d.plan.root::zi d.plan.deep::zi d.plan.most::zi d.mode:: .seq .lev d.stack:: .int .u64 0::zi 0::zi d.start::z1),.c (.int .u64 z6.1.bits)] [] (.tup [.agg (Ak 0 1 z23.d),vO 2]) [.tree z23.d.plan.shapes,.lst .lev z23.d.stack,.lst .ev z23.out])∧(.tup [.agg (Ak 2 3 z23.d),vO 4]:S)= .tup [.agg z12,vO 4]∧([.dead,.dead,.tree z23.d.plan.shapes,.lst .lev z23.d.stack,.lst .ev z23.out]:List Blk)=z5)∧(z38=false→(z41=true→(Fun Tryz.prog 131 [.agg (.seq .shp d.plan.shapes::zi d.plan.root::zi d.plan.deep::zi d.plan.most::zi d.mode:: .seq .lev d.stack:: .int .u64 0::zi 0::zi d.start::z1),.c (.int .u64 z6.1.bits)] [] (.tup [.agg (Ak 0 1 z29.d),vO 2]) [.tree z29.d.plan.shapes,.lst .lev z29.d.stack,.lst .ev z29.out])∧(.tup [.agg (Ak 2 3 z29.d),vO 4]:S)= .tup [.agg z12,vO 4]∧([.dead,.dead,.tree z29.d.plan.shapes,.lst .lev z29.d.stack,.lst .ev z29.out]:List Blk)=z5)∧(z41=false→(z44=true→(Fun Tryz.prog 132 [.agg (.seq .shp d.plan.shapes::zi d.plan.root::zi d.plan.deep::zi d.plan.most::zi d.mode:: .seq .lev d.stack:: .int .u64 0::zi 0::zi d.start::z1),.c (.int .u64 z6.1.bits)] [] (.tup [.agg (Ak 0 1 z25.d),vO 2]) [.tree z25.d.plan.shapes,.lst .lev z25.d.stack,.lst .ev z25.out])∧(.tup [.agg (Ak 2 3 z25.d),vO 4]:S)= .tup [.agg z12,vO 4]∧([.dead,.dead,.tree z25.d.plan.shapes,.lst .lev z25.d.stack,.lst .ev z25.out]:List Blk)=z5)∧(z44=false→(Fun Tryz.prog 128 [.agg (.own 0::zi d.plan.root::zi d.plan.deep::zi d.plan.most::zi d.mode:: .own 1:: .int .u64 0::zi 0::zi d.start::z1),.c (.int .u64 z6.1.bits)] [.tree d.plan.shapes,.lst .lev d.stack] (.tup [.agg z45,vO 4]) z15)∧(.tup [.agg z45,vO 4]:S)= .tup [.agg z12,vO 4]∧(z15:List Blk)=z5)))))))) Q4 ?_
 refine dsp (fun h1 p1=>?_) fun h1 p1=>?_
 refine dsp (fun h2 p2=>?_) fun h2 p2=>?_
 refine⟨(Nf d.scan _ Q2),dsp (fun h3 p3=>?_) fun h3 p3=>?_⟩
 refine⟨(Do (⟨d.plan,d.mode,d.stack,d.scan,a,d.at_,d.field,d.wire,d.want,d.utf,d.end_⟩:Dcd) _ _),?_⟩
 refine have hm1:(B0 ⟨d,[]⟩ b a).d=(A8 (⟨d.plan,d.mode,d.stack,d.scan,a,d.at_,d.field,d.wire,d.want,d.utf,d.end_⟩:Dcd) 1 a):=?_;?_
 rotate_left
 refine have hm2:(B0 ⟨d,[]⟩ b a).out=[Aw 1 a]:=?_;?_
 rotate_left
 exact⟨Q5,Q11⟩
 refine dsp (fun h4 p4=>?_) fun h4 p4=>?_
 refine⟨fun h5=>have q5:=Ap h5;have p5:=of_decide_eq_false q5;?_,fun h5=>have q5:=Ao h5;have p5:=of_decide_eq_true q5;?_⟩
 refine⟨(P5 (⟨d.plan,d.mode,d.stack,(Aj d.scan b).1,a,d.at_,d.field,d.wire,d.want,d.utf,d.end_⟩:Dcd) Q7),dsp (fun h6 p6=>?_) fun h6 p6=>?_⟩
 refine⟨(Do (⟨d.plan,d.mode,d.stack,(Aj d.scan b).1,a,d.at_,d.field,d.wire,d.want,d.utf,d.end_⟩:Dcd) _ _),?_⟩
 refine have hm1:(B0 ⟨d,[]⟩ b a).d=(A8 (⟨d.plan,d.mode,d.stack,(Aj d.scan b).1,a,d.at_,d.field,d.wire,d.want,d.utf,d.end_⟩:Dcd) 9 d.at_):=?_;?_
 rotate_left
 refine have hm2:(B0 ⟨d,[]⟩ b a).out=[Aw 9 d.at_]:=?_;?_
 rotate_left
 exact⟨Q5,Q11⟩
 refine dsp (fun h7 p7=>?_) fun h7 p7=>?_
 refine dsp (fun h8 p8=>?_) fun h8 p8=>?_
 refine⟨(Do (⟨d.plan,d.mode,d.stack,(Aj d.scan b).1,a,d.at_,d.field,d.wire,d.want,d.utf,d.end_⟩:Dcd) _ _),?_⟩
 refine have hm1:(B0 ⟨d,[]⟩ b a).d=(A8 (⟨d.plan,d.mode,d.stack,(Aj d.scan b).1,a,d.at_,d.field,d.wire,d.want,d.utf,d.end_⟩:Dcd) 9 d.at_):=?_;?_
 rotate_left
 refine have hm2:(B0 ⟨d,[]⟩ b a).out=[Aw 9 d.at_]:=?_;?_
 rotate_left
 exact⟨Q5,Q11⟩
 refine have hm1:(B0 ⟨d,[]⟩ b a).d=(⟨d.plan,d.mode,d.stack,(Aj d.scan b).1,a,d.at_,d.field,d.wire,d.want,d.utf,d.end_⟩:Dcd):=?_;?_
 rotate_left
 refine have hm2:(B0 ⟨d,[]⟩ b a).out=([]:List Ev):=?_;?_
 rotate_left
 exact⟨Q5,Q11⟩
 refine have hm1:(B0 ⟨d,[]⟩ b a).d=(⟨d.plan,d.mode,d.stack,(Aj d.scan b).1,a,d.at_,d.field,d.wire,d.want,d.utf,d.end_⟩:Dcd):=?_;?_
 rotate_left
 refine have hm2:(B0 ⟨d,[]⟩ b a).out=([]:List Ev):=?_;?_
 rotate_left
 exact⟨Q5,Q11⟩
 refine dsp (fun h6 p6=>?_) fun h6 p6=>?_
 refine dsp (fun h7 p7=>?_) fun h7 p7=>?_
 refine⟨(Do (⟨d.plan,d.mode,d.stack,(Aj d.scan b).1,a,d.at_,d.field,d.wire,d.want,d.utf,d.end_⟩:Dcd) _ _),?_⟩
 refine have hm1:(B0 ⟨d,[]⟩ b a).d=(A8 (⟨d.plan,d.mode,d.stack,(Aj d.scan b).1,a,d.at_,d.field,d.wire,d.want,d.utf,d.end_⟩:Dcd) 9 d.at_):=?_;?_
 rotate_left
 refine have hm2:(B0 ⟨d,[]⟩ b a).out=[Aw 9 d.at_]:=?_;?_
 rotate_left
 exact⟨Q5,Q11⟩
 refine have hm1:(B0 ⟨d,[]⟩ b a).d=(⟨d.plan,d.mode,d.stack,(Aj d.scan b).1,a,d.at_,d.field,d.wire,d.want,d.utf,d.end_⟩:Dcd):=?_;?_
 rotate_left
 refine have hm2:(B0 ⟨d,[]⟩ b a).out=([]:List Ev):=?_;?_
 rotate_left
 exact⟨Q5,Q11⟩
 refine have hm1:(B0 ⟨d,[]⟩ b a).d=(⟨d.plan,d.mode,d.stack,(Aj d.scan b).1,a,d.at_,d.field,d.wire,d.want,d.utf,d.end_⟩:Dcd):=?_;?_
 rotate_left
 refine have hm2:(B0 ⟨d,[]⟩ b a).out=([]:List Ev):=?_;?_
 rotate_left
 exact⟨Q5,Q11⟩
 refine⟨h2,(Ai7 (⟨d.plan,d.mode,d.stack,(⟨0,0⟩:Scn),a,d.at_,d.field,d.wire,d.want,d.utf,d.end_⟩:Dcd) _ (Q19) Q2),?_⟩
 refine have hm1:(B0 ⟨d,[]⟩ b a).d=(Db ⟨(⟨d.plan,d.mode,d.stack,(⟨0,0⟩:Scn),a,d.at_,d.field,d.wire,d.want,d.utf,d.end_⟩:Dcd),[]⟩ (Aj d.scan b).1.bits).d:=?_;?_
 rotate_left
 refine have hm2:(B0 ⟨d,[]⟩ b a).out=(Db ⟨(⟨d.plan,d.mode,d.stack,(⟨0,0⟩:Scn),a,d.at_,d.field,d.wire,d.want,d.utf,d.end_⟩:Dcd),[]⟩ (Aj d.scan b).1.bits).out:=?_;?_
 rotate_left
 exact⟨Q5,Q11⟩
 refine dsp (fun h3 p3=>?_) fun h3 p3=>?_
 refine⟨(Nf d.scan _ Q2),dsp (fun h4 p4=>?_) fun h4 p4=>?_⟩
 refine⟨(Do (⟨d.plan,d.mode,d.stack,d.scan,a,d.at_,d.field,d.wire,d.want,d.utf,d.end_⟩:Dcd) _ _),?_⟩
 refine have hm1:(B0 ⟨d,[]⟩ b a).d=(A8 (⟨d.plan,d.mode,d.stack,d.scan,a,d.at_,d.field,d.wire,d.want,d.utf,d.end_⟩:Dcd) 1 a):=?_;?_
 rotate_left
 refine have hm2:(B0 ⟨d,[]⟩ b a).out=[Aw 1 a]:=?_;?_
 rotate_left
 exact⟨Q5,Q11⟩
 refine dsp (fun h5 p5=>?_) fun h5 p5=>?_
 refine⟨fun h6=>have q6:=Ap h6;have p6:=of_decide_eq_false q6;?_,fun h6=>have q6:=Ao h6;have p6:=of_decide_eq_true q6;?_⟩
 refine⟨(P5 (⟨d.plan,d.mode,d.stack,(Aj d.scan b).1,a,d.at_,d.field,d.wire,d.want,d.utf,d.end_⟩:Dcd) Q7),dsp (fun h7 p7=>?_) fun h7 p7=>?_⟩
 refine⟨(Do (⟨d.plan,d.mode,d.stack,(Aj d.scan b).1,a,d.at_,d.field,d.wire,d.want,d.utf,d.end_⟩:Dcd) _ _),?_⟩
 refine have hm1:(B0 ⟨d,[]⟩ b a).d=(A8 (⟨d.plan,d.mode,d.stack,(Aj d.scan b).1,a,d.at_,d.field,d.wire,d.want,d.utf,d.end_⟩:Dcd) 9 d.at_):=?_;?_
 rotate_left
 refine have hm2:(B0 ⟨d,[]⟩ b a).out=[Aw 9 d.at_]:=?_;?_
 rotate_left
 exact⟨Q5,Q11⟩
 refine dsp (fun h8 p8=>?_) fun h8 p8=>?_
 refine dsp (fun h9 p9=>?_) fun h9 p9=>?_
 refine⟨(Do (⟨d.plan,d.mode,d.stack,(Aj d.scan b).1,a,d.at_,d.field,d.wire,d.want,d.utf,d.end_⟩:Dcd) _ _),?_⟩
 refine have hm1:(B0 ⟨d,[]⟩ b a).d=(A8 (⟨d.plan,d.mode,d.stack,(Aj d.scan b).1,a,d.at_,d.field,d.wire,d.want,d.utf,d.end_⟩:Dcd) 9 d.at_):=?_;?_
 rotate_left
 refine have hm2:(B0 ⟨d,[]⟩ b a).out=[Aw 9 d.at_]:=?_;?_
 rotate_left
 exact⟨Q5,Q11⟩
 refine have hm1:(B0 ⟨d,[]⟩ b a).d=(⟨d.plan,d.mode,d.stack,(Aj d.scan b).1,a,d.at_,d.field,d.wire,d.want,d.utf,d.end_⟩:Dcd):=?_;?_
 rotate_left
 refine have hm2:(B0 ⟨d,[]⟩ b a).out=([]:List Ev):=?_;?_
 rotate_left
 exact⟨Q5,Q11⟩
 refine have hm1:(B0 ⟨d,[]⟩ b a).d=(⟨d.plan,d.mode,d.stack,(Aj d.scan b).1,a,d.at_,d.field,d.wire,d.want,d.utf,d.end_⟩:Dcd):=?_;?_
 rotate_left
 refine have hm2:(B0 ⟨d,[]⟩ b a).out=([]:List Ev):=?_;?_
 rotate_left
 exact⟨Q5,Q11⟩
 refine dsp (fun h7 p7=>?_) fun h7 p7=>?_
 refine dsp (fun h8 p8=>?_) fun h8 p8=>?_
 refine⟨(Do (⟨d.plan,d.mode,d.stack,(Aj d.scan b).1,a,d.at_,d.field,d.wire,d.want,d.utf,d.end_⟩:Dcd) _ _),?_⟩
 refine have hm1:(B0 ⟨d,[]⟩ b a).d=(A8 (⟨d.plan,d.mode,d.stack,(Aj d.scan b).1,a,d.at_,d.field,d.wire,d.want,d.utf,d.end_⟩:Dcd) 9 d.at_):=?_;?_
 rotate_left
 refine have hm2:(B0 ⟨d,[]⟩ b a).out=[Aw 9 d.at_]:=?_;?_
 rotate_left
 exact⟨Q5,Q11⟩
 refine have hm1:(B0 ⟨d,[]⟩ b a).d=(⟨d.plan,d.mode,d.stack,(Aj d.scan b).1,a,d.at_,d.field,d.wire,d.want,d.utf,d.end_⟩:Dcd):=?_;?_
 rotate_left
 refine have hm2:(B0 ⟨d,[]⟩ b a).out=([]:List Ev):=?_;?_
 rotate_left
 exact⟨Q5,Q11⟩
 refine have hm1:(B0 ⟨d,[]⟩ b a).d=(⟨d.plan,d.mode,d.stack,(Aj d.scan b).1,a,d.at_,d.field,d.wire,d.want,d.utf,d.end_⟩:Dcd):=?_;?_
 rotate_left
 refine have hm2:(B0 ⟨d,[]⟩ b a).out=([]:List Ev):=?_;?_
 rotate_left
 exact⟨Q5,Q11⟩
 refine⟨h2,h3,(Ap7 (⟨d.plan,d.mode,d.stack,(⟨0,0⟩:Scn),a,d.at_,d.field,d.wire,d.want,d.utf,d.end_⟩:Dcd) _ (Q19) Q2),?_⟩
 refine have hm1:(B0 ⟨d,[]⟩ b a).d=(Fc ⟨(⟨d.plan,d.mode,d.stack,(⟨0,0⟩:Scn),a,d.at_,d.field,d.wire,d.want,d.utf,d.end_⟩:Dcd),[]⟩ (Aj d.scan b).1.bits).d:=?_;?_
 rotate_left
 refine have hm2:(B0 ⟨d,[]⟩ b a).out=(Fc ⟨(⟨d.plan,d.mode,d.stack,(⟨0,0⟩:Scn),a,d.at_,d.field,d.wire,d.want,d.utf,d.end_⟩:Dcd),[]⟩ (Aj d.scan b).1.bits).out:=?_;?_
 rotate_left
 exact⟨Q5,Q11⟩
 refine dsp (fun h4 p4=>?_) fun h4 p4=>?_
 refine⟨(Nf d.scan _ Q2),dsp (fun h5 p5=>?_) fun h5 p5=>?_⟩
 refine⟨(Do (⟨d.plan,d.mode,d.stack,d.scan,a,d.at_,d.field,d.wire,d.want,d.utf,d.end_⟩:Dcd) _ _),?_⟩
 refine have hm1:(B0 ⟨d,[]⟩ b a).d=(A8 (⟨d.plan,d.mode,d.stack,d.scan,a,d.at_,d.field,d.wire,d.want,d.utf,d.end_⟩:Dcd) 1 a):=?_;?_
 rotate_left
 refine have hm2:(B0 ⟨d,[]⟩ b a).out=[Aw 1 a]:=?_;?_
 rotate_left
 exact⟨Q5,Q11⟩
 refine dsp (fun h6 p6=>?_) fun h6 p6=>?_
 refine⟨fun h7=>have q7:=Ap h7;have p7:=of_decide_eq_false q7;?_,fun h7=>have q7:=Ao h7;have p7:=of_decide_eq_true q7;?_⟩
 refine⟨(P5 (⟨d.plan,d.mode,d.stack,(Aj d.scan b).1,a,d.at_,d.field,d.wire,d.want,d.utf,d.end_⟩:Dcd) Q7),dsp (fun h8 p8=>?_) fun h8 p8=>?_⟩
 refine⟨(Do (⟨d.plan,d.mode,d.stack,(Aj d.scan b).1,a,d.at_,d.field,d.wire,d.want,d.utf,d.end_⟩:Dcd) _ _),?_⟩
 refine have hm1:(B0 ⟨d,[]⟩ b a).d=(A8 (⟨d.plan,d.mode,d.stack,(Aj d.scan b).1,a,d.at_,d.field,d.wire,d.want,d.utf,d.end_⟩:Dcd) 9 d.at_):=?_;?_
 rotate_left
 refine have hm2:(B0 ⟨d,[]⟩ b a).out=[Aw 9 d.at_]:=?_;?_
 rotate_left
 exact⟨Q5,Q11⟩
 refine dsp (fun h9 p9=>?_) fun h9 p9=>?_
 refine dsp (fun h10 p10=>?_) fun h10 p10=>?_
 refine⟨(Do (⟨d.plan,d.mode,d.stack,(Aj d.scan b).1,a,d.at_,d.field,d.wire,d.want,d.utf,d.end_⟩:Dcd) _ _),?_⟩
 refine have hm1:(B0 ⟨d,[]⟩ b a).d=(A8 (⟨d.plan,d.mode,d.stack,(Aj d.scan b).1,a,d.at_,d.field,d.wire,d.want,d.utf,d.end_⟩:Dcd) 9 d.at_):=?_;?_
 rotate_left
 refine have hm2:(B0 ⟨d,[]⟩ b a).out=[Aw 9 d.at_]:=?_;?_
 rotate_left
 exact⟨Q5,Q11⟩
 refine have hm1:(B0 ⟨d,[]⟩ b a).d=(⟨d.plan,d.mode,d.stack,(Aj d.scan b).1,a,d.at_,d.field,d.wire,d.want,d.utf,d.end_⟩:Dcd):=?_;?_
 rotate_left
 refine have hm2:(B0 ⟨d,[]⟩ b a).out=([]:List Ev):=?_;?_
 rotate_left
 exact⟨Q5,Q11⟩
 refine have hm1:(B0 ⟨d,[]⟩ b a).d=(⟨d.plan,d.mode,d.stack,(Aj d.scan b).1,a,d.at_,d.field,d.wire,d.want,d.utf,d.end_⟩:Dcd):=?_;?_
 rotate_left
 refine have hm2:(B0 ⟨d,[]⟩ b a).out=([]:List Ev):=?_;?_
 rotate_left
 exact⟨Q5,Q11⟩
 refine dsp (fun h8 p8=>?_) fun h8 p8=>?_
 refine dsp (fun h9 p9=>?_) fun h9 p9=>?_
 refine⟨(Do (⟨d.plan,d.mode,d.stack,(Aj d.scan b).1,a,d.at_,d.field,d.wire,d.want,d.utf,d.end_⟩:Dcd) _ _),?_⟩
 refine have hm1:(B0 ⟨d,[]⟩ b a).d=(A8 (⟨d.plan,d.mode,d.stack,(Aj d.scan b).1,a,d.at_,d.field,d.wire,d.want,d.utf,d.end_⟩:Dcd) 9 d.at_):=?_;?_
 rotate_left
 refine have hm2:(B0 ⟨d,[]⟩ b a).out=[Aw 9 d.at_]:=?_;?_
 rotate_left
 exact⟨Q5,Q11⟩
 refine have hm1:(B0 ⟨d,[]⟩ b a).d=(⟨d.plan,d.mode,d.stack,(Aj d.scan b).1,a,d.at_,d.field,d.wire,d.want,d.utf,d.end_⟩:Dcd):=?_;?_
 rotate_left
 refine have hm2:(B0 ⟨d,[]⟩ b a).out=([]:List Ev):=?_;?_
 rotate_left
 exact⟨Q5,Q11⟩
 refine have hm1:(B0 ⟨d,[]⟩ b a).d=(⟨d.plan,d.mode,d.stack,(Aj d.scan b).1,a,d.at_,d.field,d.wire,d.want,d.utf,d.end_⟩:Dcd):=?_;?_
 rotate_left
 refine have hm2:(B0 ⟨d,[]⟩ b a).out=([]:List Ev):=?_;?_
 rotate_left
 exact⟨Q5,Q11⟩
 refine⟨h2,h3,h4,(Anj (⟨d.plan,d.mode,d.stack,(⟨0,0⟩:Scn),a,d.at_,d.field,d.wire,d.want,d.utf,d.end_⟩:Dcd) _ (Q19) Q2 (hp1.kn)),?_⟩
 refine have hm1:(B0 ⟨d,[]⟩ b a).d=(Cv ⟨(⟨d.plan,d.mode,d.stack,(⟨0,0⟩:Scn),a,d.at_,d.field,d.wire,d.want,d.utf,d.end_⟩:Dcd),[]⟩ (Aj d.scan b).1.bits).d:=?_;?_
 rotate_left
 refine have hm2:(B0 ⟨d,[]⟩ b a).out=(Cv ⟨(⟨d.plan,d.mode,d.stack,(⟨0,0⟩:Scn),a,d.at_,d.field,d.wire,d.want,d.utf,d.end_⟩:Dcd),[]⟩ (Aj d.scan b).1.bits).out:=?_;?_
 rotate_left
 exact⟨Q5,Q11⟩
 refine⟨(Nf d.scan _ Q2),dsp (fun h5 p5=>?_) fun h5 p5=>?_⟩
 refine⟨(Do d _ _),?_⟩
 refine have hm1:(B0 ⟨d,[]⟩ b a).d=(A8 d 1 a):=?_;?_
 rotate_left
 refine have hm2:(B0 ⟨d,[]⟩ b a).out=[Aw 1 a]:=?_;?_
 rotate_left
 exact⟨Q5,Q11⟩
 refine dsp (fun h6 p6=>?_) fun h6 p6=>?_
 refine⟨fun h7=>have q7:=Ap h7;have p7:=of_decide_eq_false q7;?_,fun h7=>have q7:=Ao h7;have p7:=of_decide_eq_true q7;?_⟩
 refine⟨(P5 (⟨d.plan,d.mode,d.stack,(Aj d.scan b).1,d.start,d.at_,d.field,d.wire,d.want,d.utf,d.end_⟩:Dcd) Q7),dsp (fun h8 p8=>?_) fun h8 p8=>?_⟩
 refine⟨(Do (⟨d.plan,d.mode,d.stack,(Aj d.scan b).1,d.start,d.at_,d.field,d.wire,d.want,d.utf,d.end_⟩:Dcd) _ _),?_⟩
 refine have hm1:(B0 ⟨d,[]⟩ b a).d=(A8 (⟨d.plan,d.mode,d.stack,(Aj d.scan b).1,d.start,d.at_,d.field,d.wire,d.want,d.utf,d.end_⟩:Dcd) 9 d.at_):=?_;?_
 rotate_left
 refine have hm2:(B0 ⟨d,[]⟩ b a).out=[Aw 9 d.at_]:=?_;?_
 rotate_left
 exact⟨Q5,Q11⟩
 refine dsp (fun h9 p9=>?_) fun h9 p9=>?_
 refine dsp (fun h10 p10=>?_) fun h10 p10=>?_
 refine⟨(Do (⟨d.plan,d.mode,d.stack,(Aj d.scan b).1,d.start,d.at_,d.field,d.wire,d.want,d.utf,d.end_⟩:Dcd) _ _),?_⟩
 refine have hm1:(B0 ⟨d,[]⟩ b a).d=(A8 (⟨d.plan,d.mode,d.stack,(Aj d.scan b).1,d.start,d.at_,d.field,d.wire,d.want,d.utf,d.end_⟩:Dcd) 9 d.at_):=?_;?_
 rotate_left
 refine have hm2:(B0 ⟨d,[]⟩ b a).out=[Aw 9 d.at_]:=?_;?_
 rotate_left
 exact⟨Q5,Q11⟩
 refine have hm1:(B0 ⟨d,[]⟩ b a).d=(⟨d.plan,d.mode,d.stack,(Aj d.scan b).1,d.start,d.at_,d.field,d.wire,d.want,d.utf,d.end_⟩:Dcd):=?_;?_
 rotate_left
 refine have hm2:(B0 ⟨d,[]⟩ b a).out=([]:List Ev):=?_;?_
 rotate_left
 exact⟨Q5,Q11⟩
 refine have hm1:(B0 ⟨d,[]⟩ b a).d=(⟨d.plan,d.mode,d.stack,(Aj d.scan b).1,d.start,d.at_,d.field,d.wire,d.want,d.utf,d.end_⟩:Dcd):=?_;?_
 rotate_left
 refine have hm2:(B0 ⟨d,[]⟩ b a).out=([]:List Ev):=?_;?_
 rotate_left
 exact⟨Q5,Q11⟩
 refine dsp (fun h8 p8=>?_) fun h8 p8=>?_
 refine dsp (fun h9 p9=>?_) fun h9 p9=>?_
 refine⟨(Do (⟨d.plan,d.mode,d.stack,(Aj d.scan b).1,d.start,d.at_,d.field,d.wire,d.want,d.utf,d.end_⟩:Dcd) _ _),?_⟩
 refine have hm1:(B0 ⟨d,[]⟩ b a).d=(A8 (⟨d.plan,d.mode,d.stack,(Aj d.scan b).1,d.start,d.at_,d.field,d.wire,d.want,d.utf,d.end_⟩:Dcd) 9 d.at_):=?_;?_
 rotate_left
 refine have hm2:(B0 ⟨d,[]⟩ b a).out=[Aw 9 d.at_]:=?_;?_
 rotate_left
 exact⟨Q5,Q11⟩
 refine have hm1:(B0 ⟨d,[]⟩ b a).d=(⟨d.plan,d.mode,d.stack,(Aj d.scan b).1,d.start,d.at_,d.field,d.wire,d.want,d.utf,d.end_⟩:Dcd):=?_;?_
 rotate_left
 refine have hm2:(B0 ⟨d,[]⟩ b a).out=([]:List Ev):=?_;?_
 rotate_left
 exact⟨Q5,Q11⟩
 refine have hm1:(B0 ⟨d,[]⟩ b a).d=(⟨d.plan,d.mode,d.stack,(Aj d.scan b).1,d.start,d.at_,d.field,d.wire,d.want,d.utf,d.end_⟩:Dcd):=?_;?_
 rotate_left
 refine have hm2:(B0 ⟨d,[]⟩ b a).out=([]:List Ev):=?_;?_
 rotate_left
 exact⟨Q5,Q11⟩
 refine⟨h2,h3,h4,(X4 (⟨d.plan,d.mode,d.stack,(⟨0,0⟩:Scn),d.start,d.at_,d.field,d.wire,d.want,d.utf,d.end_⟩:Dcd) _ Q7 Q2),?_⟩
 refine have hm1:(B0 ⟨d,[]⟩ b a).d=(Af (Bz ⟨(⟨d.plan,d.mode,d.stack,(⟨0,0⟩:Scn),d.start,d.at_,d.field,d.wire,d.want,d.utf,d.end_⟩:Dcd),[]⟩ (Aj d.scan b).1.bits)).d:=?_;?_
 rotate_left
 refine have hm2:(B0 ⟨d,[]⟩ b a).out=(Af (Bz ⟨(⟨d.plan,d.mode,d.stack,(⟨0,0⟩:Scn),d.start,d.at_,d.field,d.wire,d.want,d.utf,d.end_⟩:Dcd),[]⟩ (Aj d.scan b).1.bits)).out:=?_;?_
 rotate_left
 exact⟨Q5,Q11⟩
 refine⟨(Nf d.scan _ Q2),dsp (fun h2 p2=>?_) fun h2 p2=>?_⟩
 refine⟨(Do d _ _),?_⟩
 refine have hm1:(B0 ⟨d,[]⟩ b a).d=(A8 d 1 a):=?_;?_
 rotate_left
 refine have hm2:(B0 ⟨d,[]⟩ b a).out=[Aw 1 a]:=?_;?_
 rotate_left
 exact⟨Q5,Q11⟩
 refine dsp (fun h3 p3=>?_) fun h3 p3=>?_
 refine⟨fun h4=>have q4:=Ap h4;have p4:=of_decide_eq_false q4;?_,fun h4=>have q4:=Ao h4;have p4:=of_decide_eq_true q4;?_⟩
 refine⟨(P5 (⟨d.plan,d.mode,d.stack,(Aj d.scan b).1,d.start,d.at_,d.field,d.wire,d.want,d.utf,d.end_⟩:Dcd) Q7),dsp (fun h5 p5=>?_) fun h5 p5=>?_⟩
 refine⟨(Do (⟨d.plan,d.mode,d.stack,(Aj d.scan b).1,d.start,d.at_,d.field,d.wire,d.want,d.utf,d.end_⟩:Dcd) _ _),?_⟩
 refine have hm1:(B0 ⟨d,[]⟩ b a).d=(A8 (⟨d.plan,d.mode,d.stack,(Aj d.scan b).1,d.start,d.at_,d.field,d.wire,d.want,d.utf,d.end_⟩:Dcd) 9 d.at_):=?_;?_
 rotate_left
 refine have hm2:(B0 ⟨d,[]⟩ b a).out=[Aw 9 d.at_]:=?_;?_
 rotate_left
 exact⟨Q5,Q11⟩
 refine dsp (fun h6 p6=>?_) fun h6 p6=>?_
 refine dsp (fun h7 p7=>?_) fun h7 p7=>?_
 refine⟨(Do (⟨d.plan,d.mode,d.stack,(Aj d.scan b).1,d.start,d.at_,d.field,d.wire,d.want,d.utf,d.end_⟩:Dcd) _ _),?_⟩
 refine have hm1:(B0 ⟨d,[]⟩ b a).d=(A8 (⟨d.plan,d.mode,d.stack,(Aj d.scan b).1,d.start,d.at_,d.field,d.wire,d.want,d.utf,d.end_⟩:Dcd) 9 d.at_):=?_;?_
 rotate_left
 refine have hm2:(B0 ⟨d,[]⟩ b a).out=[Aw 9 d.at_]:=?_;?_
 rotate_left
 exact⟨Q5,Q11⟩
 refine have hm1:(B0 ⟨d,[]⟩ b a).d=(⟨d.plan,d.mode,d.stack,(Aj d.scan b).1,d.start,d.at_,d.field,d.wire,d.want,d.utf,d.end_⟩:Dcd):=?_;?_
 rotate_left
 refine have hm2:(B0 ⟨d,[]⟩ b a).out=([]:List Ev):=?_;?_
 rotate_left
 exact⟨Q5,Q11⟩
 refine have hm1:(B0 ⟨d,[]⟩ b a).d=(⟨d.plan,d.mode,d.stack,(Aj d.scan b).1,d.start,d.at_,d.field,d.wire,d.want,d.utf,d.end_⟩:Dcd):=?_;?_
 rotate_left
 refine have hm2:(B0 ⟨d,[]⟩ b a).out=([]:List Ev):=?_;?_
 rotate_left
 exact⟨Q5,Q11⟩
 refine dsp (fun h5 p5=>?_) fun h5 p5=>?_
 refine dsp (fun h6 p6=>?_) fun h6 p6=>?_
 refine⟨(Do (⟨d.plan,d.mode,d.stack,(Aj d.scan b).1,d.start,d.at_,d.field,d.wire,d.want,d.utf,d.end_⟩:Dcd) _ _),?_⟩
 refine have hm1:(B0 ⟨d,[]⟩ b a).d=(A8 (⟨d.plan,d.mode,d.stack,(Aj d.scan b).1,d.start,d.at_,d.field,d.wire,d.want,d.utf,d.end_⟩:Dcd) 9 d.at_):=?_;?_
 rotate_left
 refine have hm2:(B0 ⟨d,[]⟩ b a).out=[Aw 9 d.at_]:=?_;?_
 rotate_left
 exact⟨Q5,Q11⟩
 refine have hm1:(B0 ⟨d,[]⟩ b a).d=(⟨d.plan,d.mode,d.stack,(Aj d.scan b).1,d.start,d.at_,d.field,d.wire,d.want,d.utf,d.end_⟩:Dcd):=?_;?_
 rotate_left
 refine have hm2:(B0 ⟨d,[]⟩ b a).out=([]:List Ev):=?_;?_
 rotate_left
 exact⟨Q5,Q11⟩
 refine have hm1:(B0 ⟨d,[]⟩ b a).d=(⟨d.plan,d.mode,d.stack,(Aj d.scan b).1,d.start,d.at_,d.field,d.wire,d.want,d.utf,d.end_⟩:Dcd):=?_;?_
 rotate_left
 refine have hm2:(B0 ⟨d,[]⟩ b a).out=([]:List Ev):=?_;?_
 rotate_left
 exact⟨Q5,Q11⟩
 refine dsp (fun h4 p4=>?_) fun h4 p4=>?_
 refine⟨(Ai7 (⟨d.plan,d.mode,d.stack,(⟨0,0⟩:Scn),d.start,d.at_,d.field,d.wire,d.want,d.utf,d.end_⟩:Dcd) _ (Q19) Q2),?_⟩
 refine have hm1:(B0 ⟨d,[]⟩ b a).d=(Db ⟨(⟨d.plan,d.mode,d.stack,(⟨0,0⟩:Scn),d.start,d.at_,d.field,d.wire,d.want,d.utf,d.end_⟩:Dcd),[]⟩ (Aj d.scan b).1.bits).d:=?_;?_
 rotate_left
 refine have hm2:(B0 ⟨d,[]⟩ b a).out=(Db ⟨(⟨d.plan,d.mode,d.stack,(⟨0,0⟩:Scn),d.start,d.at_,d.field,d.wire,d.want,d.utf,d.end_⟩:Dcd),[]⟩ (Aj d.scan b).1.bits).out:=?_;?_
 rotate_left
 exact⟨Q5,Q11⟩
 refine dsp (fun h5 p5=>?_) fun h5 p5=>?_
 refine⟨(Ap7 (⟨d.plan,d.mode,d.stack,(⟨0,0⟩:Scn),d.start,d.at_,d.field,d.wire,d.want,d.utf,d.end_⟩:Dcd) _ (Q19) Q2),?_⟩
 refine have hm1:(B0 ⟨d,[]⟩ b a).d=(Fc ⟨(⟨d.plan,d.mode,d.stack,(⟨0,0⟩:Scn),d.start,d.at_,d.field,d.wire,d.want,d.utf,d.end_⟩:Dcd),[]⟩ (Aj d.scan b).1.bits).d:=?_;?_
 rotate_left
 refine have hm2:(B0 ⟨d,[]⟩ b a).out=(Fc ⟨(⟨d.plan,d.mode,d.stack,(⟨0,0⟩:Scn),d.start,d.at_,d.field,d.wire,d.want,d.utf,d.end_⟩:Dcd),[]⟩ (Aj d.scan b).1.bits).out:=?_;?_
 rotate_left
 exact⟨Q5,Q11⟩
 refine dsp (fun h6 p6=>?_) fun h6 p6=>?_
 refine⟨(Anj (⟨d.plan,d.mode,d.stack,(⟨0,0⟩:Scn),d.start,d.at_,d.field,d.wire,d.want,d.utf,d.end_⟩:Dcd) _ (Q19) Q2 (hp1.kn)),?_⟩
 refine have hm1:(B0 ⟨d,[]⟩ b a).d=(Cv ⟨(⟨d.plan,d.mode,d.stack,(⟨0,0⟩:Scn),d.start,d.at_,d.field,d.wire,d.want,d.utf,d.end_⟩:Dcd),[]⟩ (Aj d.scan b).1.bits).d:=?_;?_
 rotate_left
 refine have hm2:(B0 ⟨d,[]⟩ b a).out=(Cv ⟨(⟨d.plan,d.mode,d.stack,(⟨0,0⟩:Scn),d.start,d.at_,d.field,d.wire,d.want,d.utf,d.end_⟩:Dcd),[]⟩ (Aj d.scan b).1.bits).out:=?_;?_
 rotate_left
 exact⟨Q5,Q11⟩
 refine⟨(X4 (⟨d.plan,d.mode,d.stack,(⟨0,0⟩:Scn),d.start,d.at_,d.field,d.wire,d.want,d.utf,d.end_⟩:Dcd) _ Q7 Q2),?_⟩
 refine have hm1:(B0 ⟨d,[]⟩ b a).d=(Af (Bz ⟨(⟨d.plan,d.mode,d.stack,(⟨0,0⟩:Scn),d.start,d.at_,d.field,d.wire,d.want,d.utf,d.end_⟩:Dcd),[]⟩ (Aj d.scan b).1.bits)).d:=?_;?_
 rotate_left
 refine have hm2:(B0 ⟨d,[]⟩ b a).out=(Af (Bz ⟨(⟨d.plan,d.mode,d.stack,(⟨0,0⟩:Scn),d.start,d.at_,d.field,d.wire,d.want,d.utf,d.end_⟩:Dcd),[]⟩ (Aj d.scan b).1.bits)).out:=?_;?_
 rotate_left
 exact⟨Q5,Q11⟩
 all_goals first|(simp_all[B0,Nb,Kd,Aar,A7,A8,scn0];done)|((unfold B0;simp_all[Nb,Kd,Aar,A7,A8,scn0];done))|(grind[B0,Nb,Kd,Aar,A7,A8,scn0])
set_option maxHeartbeats 1600000 in
theorem Aay (d:Dcd) (b:Int) (w:Int) (hp1:MW d) (hp2:(0:Int)≤b∧b≤255) (hp3:w=B1 d) (hp4:(d).mode=8→Ta (d).field=true):Fun Tryz.prog 65 [.agg (Ak 0 1 d),vI b,vI w] [.tree d.plan.shapes,.lst .lev d.stack] (.tup [.agg (Ak 2 3 (D0 ⟨d,[]⟩ b).d),vO 4]) [.dead,.dead,.tree (D0 ⟨d,[]⟩ b).d.plan.shapes,.lst .lev (D0 ⟨d,[]⟩ b).d.stack,.lst .ev (D0 ⟨d,[]⟩ b).out]:=by
 have hN:Be=274877906944:=rfl
 have hlv:=Cb hp1.lv
 have hpt:=By hlv.1
 have htb:=H9 hp1.lv
 have hbb:=hp1.b0
 have hat:=hp1.at_
 have hwt:=hp1.want
 have hwd:=Kx d
 have hfb:=Aca (b:=b) hbb
 refine Ar Tryz.func65 Q4 Q4 (w:=let zi:Int→C:= .int .i64;let z1:List C:=[zi d.start,zi d.at_,zi d.field.number,zi d.field.kind,.bool d.field.rep,.bool d.field.packed,zi d.field.msg,zi d.wire,zi d.want,zi d.utf.want,zi d.utf.low,zi d.utf.high,zi d.end_.kind,zi d.end_.field,.int .u64 d.end_.bits,zi d.end_.len,.str d.end_.text,zi d.end_.code,zi d.end_.at_];let z6:=B6 d.scan b;let z9:=(⟨d.plan,d.mode,d.stack,(⟨0,0⟩:Scn),d.start,d.at_,d.field,d.wire,d.want,d.utf,d.end_⟩:Dcd);let z2:=Af (Bz ⟨z9,[]⟩ z6.bits);let z3:=A8 z9 9 d.at_;let z4:List Blk:=[.dead,.dead,.tree z2.d.plan.shapes,.lst .lev z2.d.stack,.lst .ev z2.out];let z7:=Ak 2 3 z2.d;let z10:List Blk:=[.dead,.dead,.tree z3.plan.shapes,.lst .lev z3.stack,.lst .ev [Aw 9 d.at_]];let z11:=D1 d.field z6.bits;let z12:=(.tup [.agg z7,vO 4]:S);let z13:=D0 ⟨d,[]⟩ b;let z5:List Blk:=[.dead,.dead,.tree z13.d.plan.shapes,.lst .lev z13.d.stack,.lst .ev z13.out];let z8:=Ak 2 3 z13.d;(.seg [.call [] (.v (.agg (Qb z6))) []] (.br (.seg [.ty .ev,.at 0,.cut 3 0,.cut 3 5] (.leaf () [0,1,6,7,5])) (.br (.br (.br (.seg [.call [] (.v (.agg (cEv z11))) [],.call [0,1] (.tup [.agg (Ak 2 3 z3),vO 4]) z10,.tree (.first 0 (.first 1 (.first 3 (.one 2 (.one 4 (.one 5 (.first 6 (.done)))))))) 5 [8],.ty .ev,.ty .ev] (.leaf () [0,1,6,7,11])) (.seg [.call [0,1] (.tup [.agg z7,vO 4]) z4] (.leaf () [0,1,5,6,7]))) (.seg [.call [0,1] (.tup [.agg z7,vO 4]) z4] (.leaf () [0,1,5,6,7]))) (.seg [.call [0,1] (.tup [.agg z7,vO 4]) z4] (.leaf () [0,1,5,6,7])))),(Fun Tryz.prog 126 [.agg (Qb d.scan),vI b] [] (.v (.agg (Qb z6))) [])∧((decide (z6.have_<w))=true→(.tup [.agg (.own 2::zi d.plan.root::zi d.plan.deep::zi d.plan.most::zi d.mode:: .own 3:: .int .u64 z6.bits::zi z6.have_::z1),vO 4]:S)= .tup [.agg z8,vO 4]∧([.dead,.dead,.tree d.plan.shapes,.lst .lev d.stack,.lst .ev ([]:List Ev)]:List Blk)=z5)∧((decide (z6.have_<w))=false→((decide (d.mode=8))=true→((decide (0<d.want))=true→((decide (d.want<w))=true→(Fun Tryz.prog 127 [.agg (Ej d.field),.c (.int .u64 z6.bits)] [] (.v (.agg (cEv z11))) [])∧(Fun Tryz.prog 63 [.agg (.own 0::zi d.plan.root::zi d.plan.deep::zi d.plan.most::zi d.mode:: .own 1:: .int .u64 0::zi 0::z1),vI 9,vI d.at_] [.tree d.plan.shapes,.lst .lev d.stack] (.tup [.agg (Ak 2 3 z3),vO 4]) z10)∧(List.length [z11]+List.length [Aw 9 d.at_]≤Be)∧(.tup [.agg (Ak 2 3 z3),vO 4]:S)= .tup [.agg z8,vO 4]∧([.dead,.dead,.tree z3.plan.shapes,.lst .lev z3.stack,.lst .ev ([z11]++[Aw 9 d.at_])]:List Blk)=z5)∧((decide (d.want<w))=false→(Fun Tryz.prog 128 [.agg (.own 0::zi d.plan.root::zi d.plan.deep::zi d.plan.most::zi d.mode:: .own 1:: .int .u64 0::zi 0::z1),.c (.int .u64 z6.bits)] [.tree d.plan.shapes,.lst .lev d.stack] (.tup [.agg z7,vO 4]) z4)∧z12= .tup [.agg z8,vO 4]∧(z4:List Blk)=z5))∧((decide (0<d.want))=false→(Fun Tryz.prog 128 [.agg (.own 0::zi d.plan.root::zi d.plan.deep::zi d.plan.most::zi d.mode:: .own 1:: .int .u64 0::zi 0::z1),.c (.int .u64 z6.bits)] [.tree d.plan.shapes,.lst .lev d.stack] (.tup [.agg z7,vO 4]) z4)∧z12= .tup [.agg z8,vO 4]∧(z4:List Blk)=z5))∧((decide (d.mode=8))=false→(Fun Tryz.prog 128 [.agg (.own 0::zi d.plan.root::zi d.plan.deep::zi d.plan.most::zi d.mode:: .own 1:: .int .u64 0::zi 0::z1),.c (.int .u64 z6.bits)] [.tree d.plan.shapes,.lst .lev d.stack] (.tup [.agg z7,vO 4]) z4)∧z12= .tup [.agg z8,vO 4]∧(z4:List Blk)=z5)))) Q4 ?_
 refine⟨(Aiz d.scan _),dsp (fun h1 p1=>?_) fun h1 p1=>?_⟩
 refine have hm1:(D0 ⟨d,[]⟩ b).d=(⟨d.plan,d.mode,d.stack,(B6 d.scan b),d.start,d.at_,d.field,d.wire,d.want,d.utf,d.end_⟩:Dcd):=?_;?_
 rotate_left
 refine have hm2:(D0 ⟨d,[]⟩ b).out=([]:List Ev):=?_;?_
 rotate_left
 exact⟨Q5,Q11⟩
 refine dsp (fun h2 p2=>?_) fun h2 p2=>?_
 refine dsp (fun h3 p3=>?_) fun h3 p3=>?_
 refine dsp (fun h4 p4=>?_) fun h4 p4=>?_
 refine⟨(M1 d.field _ Q2),(Do (⟨d.plan,d.mode,d.stack,(⟨0,0⟩:Scn),d.start,d.at_,d.field,d.wire,d.want,d.utf,d.end_⟩:Dcd) _ _),Q6,?_⟩
 refine have hm1:(D0 ⟨d,[]⟩ b).d=(A8 (⟨d.plan,d.mode,d.stack,(⟨0,0⟩:Scn),d.start,d.at_,d.field,d.wire,d.want,d.utf,d.end_⟩:Dcd) 9 d.at_):=?_;?_
 rotate_left
 refine have hm2:(D0 ⟨d,[]⟩ b).out=[(D1 d.field (B6 d.scan b).bits)]++[Aw 9 d.at_]:=?_;?_
 rotate_left
 exact⟨Q5,Q11⟩
 refine⟨(X4 (⟨d.plan,d.mode,d.stack,(⟨0,0⟩:Scn),d.start,d.at_,d.field,d.wire,d.want,d.utf,d.end_⟩:Dcd) _ Q7 Q2),?_⟩
 refine have hm1:(D0 ⟨d,[]⟩ b).d=(Af (Bz ⟨(⟨d.plan,d.mode,d.stack,(⟨0,0⟩:Scn),d.start,d.at_,d.field,d.wire,d.want,d.utf,d.end_⟩:Dcd),[]⟩ (B6 d.scan b).bits)).d:=?_;?_
 rotate_left
 refine have hm2:(D0 ⟨d,[]⟩ b).out=(Af (Bz ⟨(⟨d.plan,d.mode,d.stack,(⟨0,0⟩:Scn),d.start,d.at_,d.field,d.wire,d.want,d.utf,d.end_⟩:Dcd),[]⟩ (B6 d.scan b).bits)).out:=?_;?_
 rotate_left
 exact⟨Q5,Q11⟩
 refine⟨(X4 (⟨d.plan,d.mode,d.stack,(⟨0,0⟩:Scn),d.start,d.at_,d.field,d.wire,d.want,d.utf,d.end_⟩:Dcd) _ Q7 Q2),?_⟩
 refine have hm1:(D0 ⟨d,[]⟩ b).d=(Af (Bz ⟨(⟨d.plan,d.mode,d.stack,(⟨0,0⟩:Scn),d.start,d.at_,d.field,d.wire,d.want,d.utf,d.end_⟩:Dcd),[]⟩ (B6 d.scan b).bits)).d:=?_;?_
 rotate_left
 refine have hm2:(D0 ⟨d,[]⟩ b).out=(Af (Bz ⟨(⟨d.plan,d.mode,d.stack,(⟨0,0⟩:Scn),d.start,d.at_,d.field,d.wire,d.want,d.utf,d.end_⟩:Dcd),[]⟩ (B6 d.scan b).bits)).out:=?_;?_
 rotate_left
 exact⟨Q5,Q11⟩
 refine⟨(X4 (⟨d.plan,d.mode,d.stack,(⟨0,0⟩:Scn),d.start,d.at_,d.field,d.wire,d.want,d.utf,d.end_⟩:Dcd) _ Q7 Q2),?_⟩
 refine have hm1:(D0 ⟨d,[]⟩ b).d=(Af (Bz ⟨(⟨d.plan,d.mode,d.stack,(⟨0,0⟩:Scn),d.start,d.at_,d.field,d.wire,d.want,d.utf,d.end_⟩:Dcd),[]⟩ (B6 d.scan b).bits)).d:=?_;?_
 rotate_left
 refine have hm2:(D0 ⟨d,[]⟩ b).out=(Af (Bz ⟨(⟨d.plan,d.mode,d.stack,(⟨0,0⟩:Scn),d.start,d.at_,d.field,d.wire,d.want,d.utf,d.end_⟩:Dcd),[]⟩ (B6 d.scan b).bits)).out:=?_;?_
 rotate_left
 exact⟨Q5,Q11⟩
 all_goals first|(simp_all[D0,Kd,A7,A8,scn0,Tw,Ps];done)|((have hne:d.field≠fld0:=Aoe (hp4 (by assumption));have hff:D0 ⟨d,[]⟩ b=A7 (Bz ⟨Kd d scn0,[]⟩ (B6 d.scan b).bits) 9 d.at_:=(by unfold D0;simp only;rw[if_neg (by omega),if_pos ⟨by assumption,by assumption,by omega⟩]);rw[hff];simp[A7,A8,Bz,Kd,scn0,hne];done))|(grind[D0,Kd,A7,A8,scn0,Bz,Tw,Ps])
set_option maxHeartbeats 3200000 in
theorem Aos (d:Dcd) (b:Int) (hp1:List.length (d).plan.shapes≤1048576) (hp2: ∀e∈(d).plan.shapes,List.length e.fields≤1048576) (hp3:List.length (d).stack≤1048576) (hp4:(0:Int)≤(d).scan.bits∧(d).scan.bits≤18446744073709551615):Fun Tryz.prog 18 [.agg (Cd d),vI b] [] (.tup [.agg (Ak 0 1 (Cf d b).d),vO 2]) [.tree (Cf d b).d.plan.shapes,.lst .lev (Cf d b).d.stack,.lst .ev (Cf d b).out]:=by
 have hN:Be=274877906944:=rfl
 refine Ar Tryz.func18 Q4 Q4 (w:=let zi:Int→C:= .int .i64;let z15:List C:=[zi 4,zi 0,.int .u64 0,zi 0,.str (List.map Bv [b]),zi 0,zi 0];let z16:List C:=[zi d.end_.kind,zi d.end_.field,.int .u64 d.end_.bits,zi d.end_.len,.str d.end_.text,zi d.end_.code,zi d.end_.at_];let z17:=(⟨d.plan,d.mode,d.stack,d.scan,d.start,d.at_+1,d.field,d.wire,d.want-1,d.utf,d.end_⟩:Dcd);let z18:=(⟨d.plan,d.mode,d.stack,d.scan,d.start,d.at_+1,d.field,d.wire,d.want,d.utf,d.end_⟩:Dcd);let z20:=((List.length d.stack:Nat):Int);let z21:=Cf d b;let z22:=Af ⟨z17,[]⟩;let z23:=(⟨4,0,0,0,List.map Bv [b],0,0⟩:Ev);let z24:=Ak 0 1 z21.d;let z27:=decide (d.mode=7);let z28:=B0 ⟨z17,[]⟩ b d.at_;let z29:=B0 ⟨z18,[]⟩ b d.at_;let z30:=([.tree d.plan.shapes,.lst .lev d.stack,.lst .ev ([]:List Ev)]:List Blk);let z31:List Blk:=[.dead,.dead,.tree z22.d.plan.shapes,.lst .lev z22.d.stack,.lst .ev z22.out];let z32:=(.v (.c (.int .u8 (IntKind.u8.wrap (b)))):S)= .v (.c (.int .u8 b));let z33:=(.v (vI (IntKind.i64.wrap (z20-1))):S)= .v (vI (z20-1));let z34:=vI (B1 d);let z35:=D0 ⟨z17,[]⟩ b;let z36:=D0 ⟨z18,[]⟩ b;let z37:=decide (d.mode=6);let z38:=decide (0<B1 d);let z39:=A8 z17 5 d.at_;let z40:=Bi d.utf b;let z26:=z40.getD d.utf;let z19:=Af ⟨(⟨d.plan,d.mode,d.stack,d.scan,d.start,d.at_+1,d.field,d.wire,d.want-1,z26,d.end_⟩:Dcd),[]⟩;let z41:=Int.toNat (z20-1);let z42:=(.tup [.agg (Ak 0 1 d),vO 2]:S);let z43:=vI (d.want-1);let z25:=(.v (vI (IntKind.i64.wrap (d.want-1))):S)= .v z43;let z44:=Ak 2 3 z22.d;let z45:=(.tup [.agg (Ak 0 1 z22.d),vO 2]:S);let z46:List Blk:=[.dead,.dead,.tree z19.d.plan.shapes,.lst .lev z19.d.stack,.lst .ev (z23::z19.out)];let z47:List Blk:=[.dead,.dead,.tree z22.d.plan.shapes,.lst .lev z22.d.stack,.lst .ev (z23::z22.out)];let z48:=([.tree z22.d.plan.shapes,.lst .lev z22.d.stack,.lst .ev z22.out]:List Blk);let z49:List Blk:=[.dead,.dead,.tree z39.plan.shapes,.lst .lev z39.stack,.lst .ev [Aw 5 d.at_]];let z50:=decide (d.field.kind=6);let z51:List Blk:=[.dead,.dead,.tree z35.d.plan.shapes,.lst .lev z35.d.stack,.lst .ev z35.out];let z52:List Blk:=[.dead,.dead,.tree z28.d.plan.shapes,.lst .lev z28.d.stack,.lst .ev z28.out];let z53:List Blk:=[.dead,.dead,.tree z36.d.plan.shapes,.lst .lev z36.d.stack,.lst .ev z36.out];let z54:List Blk:=[.dead,.dead,.tree z29.d.plan.shapes,.lst .lev z29.d.stack,.lst .ev z29.out];let z55:=(0:Int)≤z20-1;let z56:=decide (d.mode=8);let z57:=d.at_+1;let z12:List C:= .own 0::zi d.plan.root::zi d.plan.deep::zi d.plan.most::zi d.mode:: .own 1:: .int .u64 d.scan.bits::zi d.scan.have_::zi d.start::zi z57::zi d.field.number::zi d.field.kind:: .bool d.field.rep:: .bool d.field.packed::zi d.field.msg::zi d.wire::zi (d.want-1)::zi d.utf.want::zi d.utf.low::zi d.utf.high::z16;let z13:List C:= .own 0::zi d.plan.root::zi d.plan.deep::zi d.plan.most::zi d.mode:: .own 1:: .int .u64 d.scan.bits::zi d.scan.have_::zi d.start::zi z57::zi d.field.number::zi d.field.kind:: .bool d.field.rep:: .bool d.field.packed::zi d.field.msg::zi d.wire::zi d.want::zi d.utf.want::zi d.utf.low::zi d.utf.high::z16;let z14:List C:= .own 0::zi d.plan.root::zi d.plan.deep::zi d.plan.most::zi d.mode:: .own 1:: .int .u64 d.scan.bits::zi d.scan.have_::zi d.start::zi z57::zi d.field.number::zi d.field.kind:: .bool d.field.rep:: .bool d.field.packed::zi d.field.msg::zi d.wire::zi (d.want-1)::zi z26.want::zi z26.low::zi z26.high::z16;let z58:=Aq b 0 255;let z59:=z20-1<z20;let z60:= !z40.isSome;let z61:=z27=false;let z62:=z37=false;(.seg [.call [] (.v (.agg (Ak 0 1 d))) [.tree d.plan.shapes,.lst .lev d.stack],.call [] (.v (vB (Dr d))) []] (.br (.seg [.ty .ev] (.leaf () [2,3,5])) (.br (.seg [.ty .ev] (.leaf () [2,3,5])) (.seg [.call [] (.v (vB z58)) []] (.br (.seg [.ty .ev] (.leaf () [2,3,5])) (.br (.seg [.ty .ev] (.leaf () [2,3,5])) (.seg [.as 35 (.v (vI z57))] (.br (.intro (fun (x1:Lev)=>d.stack[Int.toNat (z20-1)]? =some x1) fun x1=>let z4:=(⟨x1.msg,x1.left-1⟩:Lev);let z1:=(⟨d.plan,d.mode,List.set d.stack z41 z4,d.scan,d.start,d.at_+1,d.field,d.wire,d.want-1,d.utf,d.end_⟩:Dcd);let z2:=(⟨d.plan,d.mode,List.set d.stack z41 z4,d.scan,d.start,d.at_+1,d.field,d.wire,d.want,d.utf,d.end_⟩:Dcd);let z3:=Af ⟨(⟨d.plan,d.mode,List.set d.stack z41 z4,d.scan,d.start,d.at_+1,d.field,d.wire,d.want-1,z26,d.end_⟩:Dcd),[]⟩;.seg [.ord (os 15 [14]) [],.as 45 (.v (vI (z20-1))),.as 49 (.v (vI (z20-1))),.el .lev x1,.as 53 (.v (vI (x1.left-1))),.el .lev x1] (.br (.seg [.as 71 (.v z43),.call [] (.v z34) []] (.br (.seg [.call [2,3] (.tup [.agg (Ak 2 3 (Af ⟨z1,[]⟩).d),vO 4]) [.dead,.dead,.tree (Af ⟨z1,[]⟩).d.plan.shapes,.lst .lev (Af ⟨z1,[]⟩).d.stack,.lst .ev (Af ⟨z1,[]⟩).out]] (.leaf () [5,6,7])) (.seg [.br true] (.br (.seg [.call [] (.tup [.agg (Hn z26),vB z40.isSome]) []] (.br (.seg [.call [2,3] (.tup [.agg (Ak 2 3 (A8 z1 5 d.at_)),vO 4]) [.dead,.dead,.tree (A8 z1 5 d.at_).plan.shapes,.lst .lev (A8 z1 5 d.at_).stack,.lst .ev [Aw 5 d.at_]]] (.leaf () [6,7,8])) (.seg [.as 110 (.v (.c (.int .u8 b))),.ty .u8,.call [2,3] (.tup [.agg (Ak 2 3 z3.d),vO 4]) [.dead,.dead,.tree z3.d.plan.shapes,.lst .lev z3.d.stack,.lst .ev (z23::z3.out)]] (.leaf () [7,8,9])))) (.seg [.as 110 (.v (.c (.int .u8 b))),.ty .u8,.call [2,3] (.tup [.agg (Ak 2 3 (Af ⟨z1,[]⟩).d),vO 4]) [.dead,.dead,.tree (Af ⟨z1,[]⟩).d.plan.shapes,.lst .lev (Af ⟨z1,[]⟩).d.stack,.lst .ev (z23::(Af ⟨z1,[]⟩).out)]] (.leaf () [6,7,8])))))) (.br (.seg [.as 71 (.v z43),.call [] (.v z34) [],.br true,.call [2,3] (.tup [.agg (Ak 2 3 (Af ⟨z1,[]⟩).d),vO 4]) [.dead,.dead,.tree (Af ⟨z1,[]⟩).d.plan.shapes,.lst .lev (Af ⟨z1,[]⟩).d.stack,.lst .ev (Af ⟨z1,[]⟩).out]] (.leaf () [5,6,7])) (.br (.seg [.as 71 (.v z43),.call [] (.v z34) [],.br false,.br false] (.br (.seg [.call [2,3] (.tup [.agg (Ak 2 3 (D0 ⟨z1,[]⟩ b).d),vO 4]) [.dead,.dead,.tree (D0 ⟨z1,[]⟩ b).d.plan.shapes,.lst .lev (D0 ⟨z1,[]⟩ b).d.stack,.lst .ev (D0 ⟨z1,[]⟩ b).out]] (.leaf () [5,6,7])) (.seg [.call [2,3] (.tup [.agg (Ak 2 3 (B0 ⟨z1,[]⟩ b d.at_).d),vO 4]) [.dead,.dead,.tree (B0 ⟨z1,[]⟩ b d.at_).d.plan.shapes,.lst .lev (B0 ⟨z1,[]⟩ b d.at_).d.stack,.lst .ev (B0 ⟨z1,[]⟩ b d.at_).out]] (.leaf () [5,6,7])))) (.seg [.call [] (.v z34) [],.br false,.br false] (.br (.seg [.call [2,3] (.tup [.agg (Ak 2 3 (D0 ⟨z2,[]⟩ b).d),vO 4]) [.dead,.dead,.tree (D0 ⟨z2,[]⟩ b).d.plan.shapes,.lst .lev (D0 ⟨z2,[]⟩ b).d.stack,.lst .ev (D0 ⟨z2,[]⟩ b).out]] (.leaf () [5,6,7])) (.seg [.call [2,3] (.tup [.agg (Ak 2 3 (B0 ⟨z2,[]⟩ b d.at_).d),vO 4]) [.dead,.dead,.tree (B0 ⟨z2,[]⟩ b d.at_).d.plan.shapes,.lst .lev (B0 ⟨z2,[]⟩ b d.at_).d.stack,.lst .ev (B0 ⟨z2,[]⟩ b d.at_).out]] (.leaf () [5,6,7])))))))) (.br (.seg [.as 71 (.v z43),.call [] (.v z34) []] (.br (.seg [.call [2,3] (.tup [.agg z44,vO 4]) z31] (.leaf () [5,6,7])) (.seg [.br true] (.br (.seg [.call [] (.tup [.agg (Hn z26),vB z40.isSome]) []] (.br (.seg [.call [2,3] (.tup [.agg (Ak 2 3 z39),vO 4]) z49] (.leaf () [6,7,8])) (.seg [.as 110 (.v (.c (.int .u8 b))),.ty .u8,.call [2,3] (.tup [.agg (Ak 2 3 z19.d),vO 4]) z46] (.leaf () [7,8,9])))) (.seg [.as 110 (.v (.c (.int .u8 b))),.ty .u8,.call [2,3] (.tup [.agg z44,vO 4]) z47] (.leaf () [6,7,8])))))) (.br (.seg [.as 71 (.v z43),.call [] (.v z34) [],.br true,.call [2,3] (.tup [.agg z44,vO 4]) z31] (.leaf () [5,6,7])) (.br (.seg [.as 71 (.v z43),.call [] (.v z34) [],.br false,.br false] (.br (.seg [.call [2,3] (.tup [.agg (Ak 2 3 z35.d),vO 4]) z51] (.leaf () [5,6,7])) (.seg [.call [2,3] (.tup [.agg (Ak 2 3 z28.d),vO 4]) z52] (.leaf () [5,6,7])))) (.seg [.call [] (.v z34) [],.br false,.br false] (.br (.seg [.call [2,3] (.tup [.agg (Ak 2 3 z36.d),vO 4]) z53] (.leaf () [5,6,7])) (.seg [.call [2,3] (.tup [.agg (Ak 2 3 z29.d),vO 4]) z54] (.leaf () [5,6,7])))))))))))))),(Fun Tryz.prog 58 [.agg (Cd d)] [] (.v (.agg (Ak 0 1 d))) [.tree d.plan.shapes,.lst .lev d.stack])∧(Fun Tryz.prog 20 [.agg (Cd d)] [] (.v (vB (Dr d))) [])∧((!(Dr d))=true→z42= .tup [.agg z24,vO 2]∧z30=[.tree z21.d.plan.shapes,.lst .lev z21.d.stack,.lst .ev z21.out])∧((!(Dr d))=false→((decide (d.mode=9))=true→z42= .tup [.agg z24,vO 2]∧z30=[.tree z21.d.plan.shapes,.lst .lev z21.d.stack,.lst .ev z21.out])∧((decide (d.mode=9))=false→(Fun Tryz.prog 59 [vI b,vI 0,vI 255] [] (.v (vB z58)) [])∧((!z58)=true→z42= .tup [.agg z24,vO 2]∧z30=[.tree z21.d.plan.shapes,.lst .lev z21.d.stack,.lst .ev z21.out])∧((!z58)=false→((decide (d.at_=1000000000))=true→z42= .tup [.agg z24,vO 2]∧z30=[.tree z21.d.plan.shapes,.lst .lev z21.d.stack,.lst .ev z21.out])∧((decide (d.at_=1000000000))=false→((.v (vI (IntKind.i64.wrap z57)):S)= .v (vI z57))∧((decide (0<z20))=true→(∃(x1:Lev),d.stack[Int.toNat (z20-1)]? =some x1)∧∀(x1:Lev),(d.stack[Int.toNat (z20-1)]? =some x1)→(let z9:=d.stack[Int.toNat (z20-1)]? =some x1;let z10:=(⟨x1.msg,x1.left-1⟩:Lev);let z5:=(⟨d.plan,d.mode,List.set d.stack z41 z10,d.scan,d.start,d.at_+1,d.field,d.wire,d.want-1,d.utf,d.end_⟩:Dcd);let z6:=(⟨d.plan,d.mode,List.set d.stack z41 z10,d.scan,d.start,d.at_+1,d.field,d.wire,d.want,d.utf,d.end_⟩:Dcd);let z7:=Af ⟨(⟨d.plan,d.mode,List.set d.stack z41 z10,d.scan,d.start,d.at_+1,d.field,d.wire,d.want-1,z26,d.end_⟩:Dcd),[]⟩;let z8:=List.set d.stack z41 z10;let z11:=(.v (vI (IntKind.i64.wrap (x1.left-1))):S)= .v (vI (x1.left-1));z33∧z33∧z33∧z33∧z59∧z55∧z59∧z55∧z9∧z9∧z11∧z11∧z59∧z55∧z59∧z55∧z9∧(z37=true→z25∧(Fun Tryz.prog 60 [.agg (Cd d)] [] (.v z34) [])∧(z27=true→(Fun Tryz.prog 61 [.agg z12] [.tree d.plan.shapes,.lst .lev z8] (.tup [.agg (Ak 2 3 (Af ⟨z5,[]⟩).d),vO 4]) [.dead,.dead,.tree (Af ⟨z5,[]⟩).d.plan.shapes,.lst .lev (Af ⟨z5,[]⟩).d.stack,.lst .ev (Af ⟨z5,[]⟩).out])∧(.tup [.agg (Ak 0 1 (Af ⟨z5,[]⟩).d),vO 2]:S)= .tup [.agg z24,vO 2]∧([.tree (Af ⟨z5,[]⟩).d.plan.shapes,.lst .lev (Af ⟨z5,[]⟩).d.stack,.lst .ev (Af ⟨z5,[]⟩).out]:List Blk)=[.tree z21.d.plan.shapes,.lst .lev z21.d.stack,.lst .ev z21.out])∧(z27=false→(z37=true)∧(z50=true→(Fun Tryz.prog 62 [.agg (Hn d.utf),vI b] [] (.tup [.agg (Hn z26),vB z40.isSome]) [])∧(z60=true→(Fun Tryz.prog 63 [.agg z12,vI 5,vI d.at_] [.tree d.plan.shapes,.lst .lev z8] (.tup [.agg (Ak 2 3 (A8 z5 5 d.at_)),vO 4]) [.dead,.dead,.tree (A8 z5 5 d.at_).plan.shapes,.lst .lev (A8 z5 5 d.at_).stack,.lst .ev [Aw 5 d.at_]])∧(.tup [.agg (Ak 0 1 (A8 z5 5 d.at_)),vO 2]:S)= .tup [.agg z24,vO 2]∧([.tree (A8 z5 5 d.at_).plan.shapes,.lst .lev (A8 z5 5 d.at_).stack,.lst .ev [Aw 5 d.at_]]:List Blk)=[.tree z21.d.plan.shapes,.lst .lev z21.d.stack,.lst .ev z21.out])∧(z60=false→z32∧(Fun Tryz.prog 64 [.agg z14,.agg z15] [.tree d.plan.shapes,.lst .lev z8] (.tup [.agg (Ak 2 3 z7.d),vO 4]) [.dead,.dead,.tree z7.d.plan.shapes,.lst .lev z7.d.stack,.lst .ev (z23::z7.out)])∧(.tup [.agg (Ak 0 1 z7.d),vO 2]:S)= .tup [.agg z24,vO 2]∧([.tree z7.d.plan.shapes,.lst .lev z7.d.stack,.lst .ev (z23::z7.out)]:List Blk)=[.tree z21.d.plan.shapes,.lst .lev z21.d.stack,.lst .ev z21.out]))∧(z50=false→z32∧(Fun Tryz.prog 64 [.agg z12,.agg z15] [.tree d.plan.shapes,.lst .lev z8] (.tup [.agg (Ak 2 3 (Af ⟨z5,[]⟩).d),vO 4]) [.dead,.dead,.tree (Af ⟨z5,[]⟩).d.plan.shapes,.lst .lev (Af ⟨z5,[]⟩).d.stack,.lst .ev (z23::(Af ⟨z5,[]⟩).out)])∧(.tup [.agg (Ak 0 1 (Af ⟨z5,[]⟩).d),vO 2]:S)= .tup [.agg z24,vO 2]∧([.tree (Af ⟨z5,[]⟩).d.plan.shapes,.lst .lev (Af ⟨z5,[]⟩).d.stack,.lst .ev (z23::(Af ⟨z5,[]⟩).out)]:List Blk)=[.tree z21.d.plan.shapes,.lst .lev z21.d.stack,.lst .ev z21.out])))∧(z37=false→(z27=true→z25∧(Fun Tryz.prog 60 [.agg (Cd d)] [] (.v z34) [])∧(z27=true)∧(Fun Tryz.prog 61 [.agg z12] [.tree d.plan.shapes,.lst .lev z8] (.tup [.agg (Ak 2 3 (Af ⟨z5,[]⟩).d),vO 4]) [.dead,.dead,.tree (Af ⟨z5,[]⟩).d.plan.shapes,.lst .lev (Af ⟨z5,[]⟩).d.stack,.lst .ev (Af ⟨z5,[]⟩).out])∧(.tup [.agg (Ak 0 1 (Af ⟨z5,[]⟩).d),vO 2]:S)= .tup [.agg z24,vO 2]∧([.tree (Af ⟨z5,[]⟩).d.plan.shapes,.lst .lev (Af ⟨z5,[]⟩).d.stack,.lst .ev (Af ⟨z5,[]⟩).out]:List Blk)=[.tree z21.d.plan.shapes,.lst .lev z21.d.stack,.lst .ev z21.out])∧(z27=false→(z56=true→z25∧(Fun Tryz.prog 60 [.agg (Cd d)] [] (.v z34) [])∧z61∧z62∧(z38=true→(Fun Tryz.prog 65 [.agg z12,vI b,vI (B1 d)] [.tree d.plan.shapes,.lst .lev z8] (.tup [.agg (Ak 2 3 (D0 ⟨z5,[]⟩ b).d),vO 4]) [.dead,.dead,.tree (D0 ⟨z5,[]⟩ b).d.plan.shapes,.lst .lev (D0 ⟨z5,[]⟩ b).d.stack,.lst .ev (D0 ⟨z5,[]⟩ b).out])∧(.tup [.agg (Ak 0 1 (D0 ⟨z5,[]⟩ b).d),vO 2]:S)= .tup [.agg z24,vO 2]∧([.tree (D0 ⟨z5,[]⟩ b).d.plan.shapes,.lst .lev (D0 ⟨z5,[]⟩ b).d.stack,.lst .ev (D0 ⟨z5,[]⟩ b).out]:List Blk)=[.tree z21.d.plan.shapes,.lst .lev z21.d.stack,.lst .ev z21.out])∧(z38=false→(Fun Tryz.prog 66 [.agg z12,vI b,vI d.at_] [.tree d.plan.shapes,.lst .lev z8] (.tup [.agg (Ak 2 3 (B0 ⟨z5,[]⟩ b d.at_).d),vO 4]) [.dead,.dead,.tree (B0 ⟨z5,[]⟩ b d.at_).d.plan.shapes,.lst .lev (B0 ⟨z5,[]⟩ b d.at_).d.stack,.lst .ev (B0 ⟨z5,[]⟩ b d.at_).out])∧(.tup [.agg (Ak 0 1 (B0 ⟨z5,[]⟩ b d.at_).d),vO 2]:S)= .tup [.agg z24,vO 2]∧([.tree (B0 ⟨z5,[]⟩ b d.at_).d.plan.shapes,.lst .lev (B0 ⟨z5,[]⟩ b d.at_).d.stack,.lst .ev (B0 ⟨z5,[]⟩ b d.at_).out]:List Blk)=[.tree z21.d.plan.shapes,.lst .lev z21.d.stack,.lst .ev z21.out]))∧(z56=false→(Fun Tryz.prog 60 [.agg (Cd d)] [] (.v z34) [])∧z61∧z62∧(z38=true→(Fun Tryz.prog 65 [.agg z13,vI b,vI (B1 d)] [.tree d.plan.shapes,.lst .lev z8] (.tup [.agg (Ak 2 3 (D0 ⟨z6,[]⟩ b).d),vO 4]) [.dead,.dead,.tree (D0 ⟨z6,[]⟩ b).d.plan.shapes,.lst .lev (D0 ⟨z6,[]⟩ b).d.stack,.lst .ev (D0 ⟨z6,[]⟩ b).out])∧(.tup [.agg (Ak 0 1 (D0 ⟨z6,[]⟩ b).d),vO 2]:S)= .tup [.agg z24,vO 2]∧([.tree (D0 ⟨z6,[]⟩ b).d.plan.shapes,.lst .lev (D0 ⟨z6,[]⟩ b).d.stack,.lst .ev (D0 ⟨z6,[]⟩ b).out]:List Blk)=[.tree z21.d.plan.shapes,.lst .lev z21.d.stack,.lst .ev z21.out])∧(z38=false→(Fun Tryz.prog 66 [.agg z13,vI b,vI d.at_] [.tree d.plan.shapes,.lst .lev z8] (.tup [.agg (Ak 2 3 (B0 ⟨z6,[]⟩ b d.at_).d),vO 4]) [.dead,.dead,.tree (B0 ⟨z6,[]⟩ b d.at_).d.plan.shapes,.lst .lev (B0 ⟨z6,[]⟩ b d.at_).d.stack,.lst .ev (B0 ⟨z6,[]⟩ b d.at_).out])∧(.tup [.agg (Ak 0 1 (B0 ⟨z6,[]⟩ b d.at_).d),vO 2]:S)= .tup [.agg z24,vO 2]∧([.tree (B0 ⟨z6,[]⟩ b d.at_).d.plan.shapes,.lst .lev (B0 ⟨z6,[]⟩ b d.at_).d.stack,.lst .ev (B0 ⟨z6,[]⟩ b d.at_).out]:List Blk)=[.tree z21.d.plan.shapes,.lst .lev z21.d.stack,.lst .ev z21.out]))))))∧((decide (0<z20))=false→(z37=true→z25∧(Fun Tryz.prog 60 [.agg (Cd d)] [] (.v z34) [])∧(z27=true→(Fun Tryz.prog 61 [.agg z12] [.tree d.plan.shapes,.lst .lev d.stack] (.tup [.agg z44,vO 4]) z31)∧z45= .tup [.agg z24,vO 2]∧z48=[.tree z21.d.plan.shapes,.lst .lev z21.d.stack,.lst .ev z21.out])∧(z27=false→(z37=true)∧(z50=true→(Fun Tryz.prog 62 [.agg (Hn d.utf),vI b] [] (.tup [.agg (Hn z26),vB z40.isSome]) [])∧(z60=true→(Fun Tryz.prog 63 [.agg z12,vI 5,vI d.at_] [.tree d.plan.shapes,.lst .lev d.stack] (.tup [.agg (Ak 2 3 z39),vO 4]) z49)∧(.tup [.agg (Ak 0 1 z39),vO 2]:S)= .tup [.agg z24,vO 2]∧([.tree z39.plan.shapes,.lst .lev z39.stack,.lst .ev [Aw 5 d.at_]]:List Blk)=[.tree z21.d.plan.shapes,.lst .lev z21.d.stack,.lst .ev z21.out])∧(z60=false→z32∧(Fun Tryz.prog 64 [.agg z14,.agg z15] [.tree d.plan.shapes,.lst .lev d.stack] (.tup [.agg (Ak 2 3 z19.d),vO 4]) z46)∧(.tup [.agg (Ak 0 1 z19.d),vO 2]:S)= .tup [.agg z24,vO 2]∧([.tree z19.d.plan.shapes,.lst .lev z19.d.stack,.lst .ev (z23::z19.out)]:List Blk)=[.tree z21.d.plan.shapes,.lst .lev z21.d.stack,.lst .ev z21.out]))∧(z50=false→z32∧(Fun Tryz.prog 64 [.agg z12,.agg z15] [.tree d.plan.shapes,.lst .lev d.stack] (.tup [.agg z44,vO 4]) z47)∧z45= .tup [.agg z24,vO 2]∧([.tree z22.d.plan.shapes,.lst .lev z22.d.stack,.lst .ev (z23::z22.out)]:List Blk)=[.tree z21.d.plan.shapes,.lst .lev z21.d.stack,.lst .ev z21.out])))∧(z37=false→(z27=true→z25∧(Fun Tryz.prog 60 [.agg (Cd d)] [] (.v z34) [])∧(z27=true)∧(Fun Tryz.prog 61 [.agg z12] [.tree d.plan.shapes,.lst .lev d.stack] (.tup [.agg z44,vO 4]) z31)∧z45= .tup [.agg z24,vO 2]∧z48=[.tree z21.d.plan.shapes,.lst .lev z21.d.stack,.lst .ev z21.out])∧(z27=false→(z56=true→z25∧(Fun Tryz.prog 60 [.agg (Cd d)] [] (.v z34) [])∧z61∧z62∧(z38=true→(Fun Tryz.prog 65 [.agg z12,vI b,vI (B1 d)] [.tree d.plan.shapes,.lst .lev d.stack] (.tup [.agg (Ak 2 3 z35.d),vO 4]) z51)∧(.tup [.agg (Ak 0 1 z35.d),vO 2]:S)= .tup [.agg z24,vO 2]∧([.tree z35.d.plan.shapes,.lst .lev z35.d.stack,.lst .ev z35.out]:List Blk)=[.tree z21.d.plan.shapes,.lst .lev z21.d.stack,.lst .ev z21.out])∧(z38=false→(Fun Tryz.prog 66 [.agg z12,vI b,vI d.at_] [.tree d.plan.shapes,.lst .lev d.stack] (.tup [.agg (Ak 2 3 z28.d),vO 4]) z52)∧(.tup [.agg (Ak 0 1 z28.d),vO 2]:S)= .tup [.agg z24,vO 2]∧([.tree z28.d.plan.shapes,.lst .lev z28.d.stack,.lst .ev z28.out]:List Blk)=[.tree z21.d.plan.shapes,.lst .lev z21.d.stack,.lst .ev z21.out]))∧(z56=false→(Fun Tryz.prog 60 [.agg (Cd d)] [] (.v z34) [])∧z61∧z62∧(z38=true→(Fun Tryz.prog 65 [.agg z13,vI b,vI (B1 d)] [.tree d.plan.shapes,.lst .lev d.stack] (.tup [.agg (Ak 2 3 z36.d),vO 4]) z53)∧(.tup [.agg (Ak 0 1 z36.d),vO 2]:S)= .tup [.agg z24,vO 2]∧([.tree z36.d.plan.shapes,.lst .lev z36.d.stack,.lst .ev z36.out]:List Blk)=[.tree z21.d.plan.shapes,.lst .lev z21.d.stack,.lst .ev z21.out])∧(z38=false→(Fun Tryz.prog 66 [.agg z13,vI b,vI d.at_] [.tree d.plan.shapes,.lst .lev d.stack] (.tup [.agg (Ak 2 3 z29.d),vO 4]) z54)∧(.tup [.agg (Ak 0 1 z29.d),vO 2]:S)= .tup [.agg z24,vO 2]∧([.tree z29.d.plan.shapes,.lst .lev z29.d.stack,.lst .ev z29.out]:List Blk)=[.tree z21.d.plan.shapes,.lst .lev z21.d.stack,.lst .ev z21.out]))))))))))) Q4 ?_
 refine⟨(T3 d Q2 (hp2) Q2),(Aok d Q2 Q2),fun h1=>have q1:=Ap h1;?_,fun h1=>have q1:=Ao h1;?_⟩
 refine have hm1:(Cf d b).d=d:=?_;?_
 rotate_left
 refine have hm2:(Cf d b).out=([]:List Ev):=?_;?_
 rotate_left
 exact⟨Q5,Q11⟩
 have hok:Dr d=true:=q1
 have hmw:=Wg hok hp4
 have hlv:=Cb hmw.lv
 have hpt:=By hlv.1
 have htb:=H9 hmw.lv
 have hbb:=hmw.b0
 have hat:=hmw.at_
 have hwt:=hmw.want
 have hwd:=Kx d
 refine dsp (fun h2 p2=>?_) fun h2 p2=>?_
 refine have hm1:(Cf d b).d=d:=?_;?_
 rotate_left
 refine have hm2:(Cf d b).out=([]:List Ev):=?_;?_
 rotate_left
 exact⟨Q5,Q11⟩
 have hst:=Wi hok (by simpa using h2)
 refine⟨(Bh _ _ _),fun h3=>have q3:=Ap h3;have p3:=A4 q3;?_,fun h3=>have q3:=Ao h3;have p3:=Av q3;?_⟩
 refine have hm1:(Cf d b).d=d:=?_;?_
 rotate_left
 refine have hm2:(Cf d b).out=([]:List Ev):=?_;?_
 rotate_left
 exact⟨Q5,Q11⟩
 have hwi:=Av q3
 refine dsp (fun h4 p4=>?_) fun h4 p4=>?_
 refine have hm1:(Cf d b).d=d:=?_;?_
 rotate_left
 refine have hm2:(Cf d b).out=([]:List Ev):=?_;?_
 rotate_left
 exact⟨Q5,Q11⟩
 have hms:=hmw.step hst.1 hst.2.1 hst.2.2.1
 have htk:Eg d=true:=by simp only[Eg,Bool.and_eq_true,Bool.not_eq_true',decide_eq_false_iff_not,decide_eq_true_eq];omega
 have hsb:Cf d b=Et ⟨d,[]⟩ b:=by unfold Cf;rw[if_pos ⟨hok,htk,by assumption⟩]
 refine⟨(Ac Q2 Q2),dsp (fun h5 p5=>?_) fun h5 p5=>?_⟩
 have hne:d.stack≠[]:=fun e=>by have:=congrArg List.length e;simp only[List.length_nil] at this;omega
 refine⟨(Bq (l:=d.stack) (i:=Int.toNat (((List.length d.stack:Nat):Int)-1)) Q2),fun x1 hx1=>?_⟩
 have hll:=Kv (d:=d) (by rw[←hx1];congr 1;omega)
 have hix:Int.toNat ((d.stack.length:Int)-1)=d.stack.length-1:=by omega
 refine⟨(Ac Q2 Q2),(Ac Q2 Q2),(Ac Q2 Q2),(Ac Q2 Q2),Q2,Q2,Q2,Q2,hx1,hx1,(Ac Q2 Q2),(Ac Q2 Q2),Q2,Q2,Q2,Q2,hx1,dsp (fun h6 p6=>?_) fun h6 p6=>?_⟩
 refine⟨(Ac Q2 Q2),(Kw d),dsp (fun h7 p7=>?_) fun h7 p7=>?_⟩
 refine⟨(Js (⟨d.plan,d.mode,List.set d.stack (Int.toNat (((List.length d.stack:Nat):Int)-1)) (⟨x1.msg,x1.left-1⟩:Lev),d.scan,d.start,d.at_+1,d.field,d.wire,d.want-1,d.utf,d.end_⟩:Dcd) Q17),?_⟩
 refine have hm1:(Cf d b).d=(Af ⟨(⟨d.plan,d.mode,List.set d.stack (Int.toNat (((List.length d.stack:Nat):Int)-1)) (⟨x1.msg,x1.left-1⟩:Lev),d.scan,d.start,d.at_+1,d.field,d.wire,d.want-1,d.utf,d.end_⟩:Dcd),[]⟩).d:=?_;?_
 rotate_left
 refine have hm2:(Cf d b).out=(Af ⟨(⟨d.plan,d.mode,List.set d.stack (Int.toNat (((List.length d.stack:Nat):Int)-1)) (⟨x1.msg,x1.left-1⟩:Lev),d.scan,d.start,d.at_+1,d.field,d.wire,d.want-1,d.utf,d.end_⟩:Dcd),[]⟩).out:=?_;?_
 rotate_left
 exact⟨Q5,Q11⟩
 refine⟨h6,dsp (fun h8 p8=>?_) fun h8 p8=>?_⟩
 refine⟨(Tm d.utf _),fun h9=>have q9:=Ap h9;?_,fun h9=>have q9:=Ao h9;?_⟩
 have hu:Bi d.utf b=none:=by simpa using q9
 refine⟨(Do (⟨d.plan,d.mode,List.set d.stack (Int.toNat (((List.length d.stack:Nat):Int)-1)) (⟨x1.msg,x1.left-1⟩:Lev),d.scan,d.start,d.at_+1,d.field,d.wire,d.want-1,d.utf,d.end_⟩:Dcd) _ _),?_⟩
 refine have hm1:(Cf d b).d=(A8 (⟨d.plan,d.mode,List.set d.stack (Int.toNat (((List.length d.stack:Nat):Int)-1)) (⟨x1.msg,x1.left-1⟩:Lev),d.scan,d.start,d.at_+1,d.field,d.wire,d.want-1,d.utf,d.end_⟩:Dcd) 5 d.at_):=?_;?_
 rotate_left
 refine have hm2:(Cf d b).out=[Aw 5 d.at_]:=?_;?_
 rotate_left
 exact⟨Q5,Q11⟩
 obtain ⟨u,hu⟩:=Option.isSome_iff_exists.1 q9
 have hug:(Bi d.utf b).getD d.utf=u:=by rw[hu];rfl
 refine⟨(Mv Q2 Q2),(Jt (⟨d.plan,d.mode,List.set d.stack (Int.toNat (((List.length d.stack:Nat):Int)-1)) (⟨x1.msg,x1.left-1⟩:Lev),d.scan,d.start,d.at_+1,d.field,d.wire,d.want-1,((Bi d.utf b).getD d.utf),d.end_⟩:Dcd) (⟨4,0,0,0,List.map Bv [b],0,0⟩:Ev) Q17),?_⟩
 refine have hm1:(Cf d b).d=(Af ⟨(⟨d.plan,d.mode,List.set d.stack (Int.toNat (((List.length d.stack:Nat):Int)-1)) (⟨x1.msg,x1.left-1⟩:Lev),d.scan,d.start,d.at_+1,d.field,d.wire,d.want-1,((Bi d.utf b).getD d.utf),d.end_⟩:Dcd),[]⟩).d:=?_;?_
 rotate_left
 refine have hm2:(Cf d b).out=(⟨4,0,0,0,List.map Bv [b],0,0⟩:Ev)::(Af ⟨(⟨d.plan,d.mode,List.set d.stack (Int.toNat (((List.length d.stack:Nat):Int)-1)) (⟨x1.msg,x1.left-1⟩:Lev),d.scan,d.start,d.at_+1,d.field,d.wire,d.want-1,((Bi d.utf b).getD d.utf),d.end_⟩:Dcd),[]⟩).out:=?_;?_
 rotate_left
 exact⟨Q5,Q11⟩
 refine⟨(Mv Q2 Q2),(Jt (⟨d.plan,d.mode,List.set d.stack (Int.toNat (((List.length d.stack:Nat):Int)-1)) (⟨x1.msg,x1.left-1⟩:Lev),d.scan,d.start,d.at_+1,d.field,d.wire,d.want-1,d.utf,d.end_⟩:Dcd) (⟨4,0,0,0,List.map Bv [b],0,0⟩:Ev) Q17),?_⟩
 refine have hm1:(Cf d b).d=(Af ⟨(⟨d.plan,d.mode,List.set d.stack (Int.toNat (((List.length d.stack:Nat):Int)-1)) (⟨x1.msg,x1.left-1⟩:Lev),d.scan,d.start,d.at_+1,d.field,d.wire,d.want-1,d.utf,d.end_⟩:Dcd),[]⟩).d:=?_;?_
 rotate_left
 refine have hm2:(Cf d b).out=(⟨4,0,0,0,List.map Bv [b],0,0⟩:Ev)::(Af ⟨(⟨d.plan,d.mode,List.set d.stack (Int.toNat (((List.length d.stack:Nat):Int)-1)) (⟨x1.msg,x1.left-1⟩:Lev),d.scan,d.start,d.at_+1,d.field,d.wire,d.want-1,d.utf,d.end_⟩:Dcd),[]⟩).out:=?_;?_
 rotate_left
 exact⟨Q5,Q11⟩
 refine dsp (fun h7 p7=>?_) fun h7 p7=>?_
 refine⟨(Ac Q2 Q2),(Kw d),h7,(Js (⟨d.plan,d.mode,List.set d.stack (Int.toNat (((List.length d.stack:Nat):Int)-1)) (⟨x1.msg,x1.left-1⟩:Lev),d.scan,d.start,d.at_+1,d.field,d.wire,d.want-1,d.utf,d.end_⟩:Dcd) Q17),?_⟩
 refine have hm1:(Cf d b).d=(Af ⟨(⟨d.plan,d.mode,List.set d.stack (Int.toNat (((List.length d.stack:Nat):Int)-1)) (⟨x1.msg,x1.left-1⟩:Lev),d.scan,d.start,d.at_+1,d.field,d.wire,d.want-1,d.utf,d.end_⟩:Dcd),[]⟩).d:=?_;?_
 rotate_left
 refine have hm2:(Cf d b).out=(Af ⟨(⟨d.plan,d.mode,List.set d.stack (Int.toNat (((List.length d.stack:Nat):Int)-1)) (⟨x1.msg,x1.left-1⟩:Lev),d.scan,d.start,d.at_+1,d.field,d.wire,d.want-1,d.utf,d.end_⟩:Dcd),[]⟩).out:=?_;?_
 rotate_left
 exact⟨Q5,Q11⟩
 refine dsp (fun h8 p8=>?_) fun h8 p8=>?_
 refine⟨(Ac Q2 Q2),(Kw d),h7,h6,dsp (fun h9 p9=>?_) fun h9 p9=>?_⟩
 refine⟨(Aay (⟨d.plan,d.mode,List.set d.stack (Int.toNat (((List.length d.stack:Nat):Int)-1)) (⟨x1.msg,x1.left-1⟩:Lev),d.scan,d.start,d.at_+1,d.field,d.wire,d.want-1,d.utf,d.end_⟩:Dcd) _ _ (Q43) Q2 Q7 (hst.2.2.2.1)),?_⟩
 refine have hm1:(Cf d b).d=(D0 ⟨(⟨d.plan,d.mode,List.set d.stack (Int.toNat (((List.length d.stack:Nat):Int)-1)) (⟨x1.msg,x1.left-1⟩:Lev),d.scan,d.start,d.at_+1,d.field,d.wire,d.want-1,d.utf,d.end_⟩:Dcd),[]⟩ b).d:=?_;?_
 rotate_left
 refine have hm2:(Cf d b).out=(D0 ⟨(⟨d.plan,d.mode,List.set d.stack (Int.toNat (((List.length d.stack:Nat):Int)-1)) (⟨x1.msg,x1.left-1⟩:Lev),d.scan,d.start,d.at_+1,d.field,d.wire,d.want-1,d.utf,d.end_⟩:Dcd),[]⟩ b).out:=?_;?_
 rotate_left
 exact⟨Q5,Q11⟩
 refine⟨(Wo (⟨d.plan,d.mode,List.set d.stack (Int.toNat (((List.length d.stack:Nat):Int)-1)) (⟨x1.msg,x1.left-1⟩:Lev),d.scan,d.start,d.at_+1,d.field,d.wire,d.want-1,d.utf,d.end_⟩:Dcd) _ _ (Q43) Q2),?_⟩
 refine have hm1:(Cf d b).d=(B0 ⟨(⟨d.plan,d.mode,List.set d.stack (Int.toNat (((List.length d.stack:Nat):Int)-1)) (⟨x1.msg,x1.left-1⟩:Lev),d.scan,d.start,d.at_+1,d.field,d.wire,d.want-1,d.utf,d.end_⟩:Dcd),[]⟩ b d.at_).d:=?_;?_
 rotate_left
 refine have hm2:(Cf d b).out=(B0 ⟨(⟨d.plan,d.mode,List.set d.stack (Int.toNat (((List.length d.stack:Nat):Int)-1)) (⟨x1.msg,x1.left-1⟩:Lev),d.scan,d.start,d.at_+1,d.field,d.wire,d.want-1,d.utf,d.end_⟩:Dcd),[]⟩ b d.at_).out:=?_;?_
 rotate_left
 exact⟨Q5,Q11⟩
 refine⟨(Kw d),h7,h6,dsp (fun h9 p9=>?_) fun h9 p9=>?_⟩
 refine⟨(Aay (⟨d.plan,d.mode,List.set d.stack (Int.toNat (((List.length d.stack:Nat):Int)-1)) (⟨x1.msg,x1.left-1⟩:Lev),d.scan,d.start,d.at_+1,d.field,d.wire,d.want,d.utf,d.end_⟩:Dcd) _ _ (Q45) Q2 Q7 (hst.2.2.2.1)),?_⟩
 refine have hm1:(Cf d b).d=(D0 ⟨(⟨d.plan,d.mode,List.set d.stack (Int.toNat (((List.length d.stack:Nat):Int)-1)) (⟨x1.msg,x1.left-1⟩:Lev),d.scan,d.start,d.at_+1,d.field,d.wire,d.want,d.utf,d.end_⟩:Dcd),[]⟩ b).d:=?_;?_
 rotate_left
 refine have hm2:(Cf d b).out=(D0 ⟨(⟨d.plan,d.mode,List.set d.stack (Int.toNat (((List.length d.stack:Nat):Int)-1)) (⟨x1.msg,x1.left-1⟩:Lev),d.scan,d.start,d.at_+1,d.field,d.wire,d.want,d.utf,d.end_⟩:Dcd),[]⟩ b).out:=?_;?_
 rotate_left
 exact⟨Q5,Q11⟩
 refine⟨(Wo (⟨d.plan,d.mode,List.set d.stack (Int.toNat (((List.length d.stack:Nat):Int)-1)) (⟨x1.msg,x1.left-1⟩:Lev),d.scan,d.start,d.at_+1,d.field,d.wire,d.want,d.utf,d.end_⟩:Dcd) _ _ (Q45) Q2),?_⟩
 refine have hm1:(Cf d b).d=(B0 ⟨(⟨d.plan,d.mode,List.set d.stack (Int.toNat (((List.length d.stack:Nat):Int)-1)) (⟨x1.msg,x1.left-1⟩:Lev),d.scan,d.start,d.at_+1,d.field,d.wire,d.want,d.utf,d.end_⟩:Dcd),[]⟩ b d.at_).d:=?_;?_
 rotate_left
 refine have hm2:(Cf d b).out=(B0 ⟨(⟨d.plan,d.mode,List.set d.stack (Int.toNat (((List.length d.stack:Nat):Int)-1)) (⟨x1.msg,x1.left-1⟩:Lev),d.scan,d.start,d.at_+1,d.field,d.wire,d.want,d.utf,d.end_⟩:Dcd),[]⟩ b d.at_).out:=?_;?_
 rotate_left
 exact⟨Q5,Q11⟩
 have hne:d.stack=[]:=List.eq_nil_of_length_eq_zero (by omega)
 refine dsp (fun h6 p6=>?_) fun h6 p6=>?_
 refine⟨(Ac Q2 Q2),(Kw d),dsp (fun h7 p7=>?_) fun h7 p7=>?_⟩
 refine⟨(Js (⟨d.plan,d.mode,d.stack,d.scan,d.start,d.at_+1,d.field,d.wire,d.want-1,d.utf,d.end_⟩:Dcd) Q7),?_⟩
 refine have hm1:(Cf d b).d=(Af ⟨(⟨d.plan,d.mode,d.stack,d.scan,d.start,d.at_+1,d.field,d.wire,d.want-1,d.utf,d.end_⟩:Dcd),[]⟩).d:=?_;?_
 rotate_left
 refine have hm2:(Cf d b).out=(Af ⟨(⟨d.plan,d.mode,d.stack,d.scan,d.start,d.at_+1,d.field,d.wire,d.want-1,d.utf,d.end_⟩:Dcd),[]⟩).out:=?_;?_
 rotate_left
 exact⟨Q5,Q11⟩
 refine⟨h6,dsp (fun h8 p8=>?_) fun h8 p8=>?_⟩
 refine⟨(Tm d.utf _),fun h9=>have q9:=Ap h9;?_,fun h9=>have q9:=Ao h9;?_⟩
 have hu:Bi d.utf b=none:=by simpa using q9
 refine⟨(Do (⟨d.plan,d.mode,d.stack,d.scan,d.start,d.at_+1,d.field,d.wire,d.want-1,d.utf,d.end_⟩:Dcd) _ _),?_⟩
 refine have hm1:(Cf d b).d=(A8 (⟨d.plan,d.mode,d.stack,d.scan,d.start,d.at_+1,d.field,d.wire,d.want-1,d.utf,d.end_⟩:Dcd) 5 d.at_):=?_;?_
 rotate_left
 refine have hm2:(Cf d b).out=[Aw 5 d.at_]:=?_;?_
 rotate_left
 exact⟨Q5,Q11⟩
 obtain ⟨u,hu⟩:=Option.isSome_iff_exists.1 q9
 have hug:(Bi d.utf b).getD d.utf=u:=by rw[hu];rfl
 refine⟨(Mv Q2 Q2),(Jt (⟨d.plan,d.mode,d.stack,d.scan,d.start,d.at_+1,d.field,d.wire,d.want-1,((Bi d.utf b).getD d.utf),d.end_⟩:Dcd) (⟨4,0,0,0,List.map Bv [b],0,0⟩:Ev) Q7),?_⟩
 refine have hm1:(Cf d b).d=(Af ⟨(⟨d.plan,d.mode,d.stack,d.scan,d.start,d.at_+1,d.field,d.wire,d.want-1,((Bi d.utf b).getD d.utf),d.end_⟩:Dcd),[]⟩).d:=?_;?_
 rotate_left
 refine have hm2:(Cf d b).out=(⟨4,0,0,0,List.map Bv [b],0,0⟩:Ev)::(Af ⟨(⟨d.plan,d.mode,d.stack,d.scan,d.start,d.at_+1,d.field,d.wire,d.want-1,((Bi d.utf b).getD d.utf),d.end_⟩:Dcd),[]⟩).out:=?_;?_
 rotate_left
 exact⟨Q5,Q11⟩
 refine⟨(Mv Q2 Q2),(Jt (⟨d.plan,d.mode,d.stack,d.scan,d.start,d.at_+1,d.field,d.wire,d.want-1,d.utf,d.end_⟩:Dcd) (⟨4,0,0,0,List.map Bv [b],0,0⟩:Ev) Q7),?_⟩
 refine have hm1:(Cf d b).d=(Af ⟨(⟨d.plan,d.mode,d.stack,d.scan,d.start,d.at_+1,d.field,d.wire,d.want-1,d.utf,d.end_⟩:Dcd),[]⟩).d:=?_;?_
 rotate_left
 refine have hm2:(Cf d b).out=(⟨4,0,0,0,List.map Bv [b],0,0⟩:Ev)::(Af ⟨(⟨d.plan,d.mode,d.stack,d.scan,d.start,d.at_+1,d.field,d.wire,d.want-1,d.utf,d.end_⟩:Dcd),[]⟩).out:=?_;?_
 rotate_left
 exact⟨Q5,Q11⟩
 refine dsp (fun h7 p7=>?_) fun h7 p7=>?_
 refine⟨(Ac Q2 Q2),(Kw d),h7,(Js (⟨d.plan,d.mode,d.stack,d.scan,d.start,d.at_+1,d.field,d.wire,d.want-1,d.utf,d.end_⟩:Dcd) Q7),?_⟩
 refine have hm1:(Cf d b).d=(Af ⟨(⟨d.plan,d.mode,d.stack,d.scan,d.start,d.at_+1,d.field,d.wire,d.want-1,d.utf,d.end_⟩:Dcd),[]⟩).d:=?_;?_
 rotate_left
 refine have hm2:(Cf d b).out=(Af ⟨(⟨d.plan,d.mode,d.stack,d.scan,d.start,d.at_+1,d.field,d.wire,d.want-1,d.utf,d.end_⟩:Dcd),[]⟩).out:=?_;?_
 rotate_left
 exact⟨Q5,Q11⟩
 refine dsp (fun h8 p8=>?_) fun h8 p8=>?_
 refine⟨(Ac Q2 Q2),(Kw d),h7,h6,dsp (fun h9 p9=>?_) fun h9 p9=>?_⟩
 refine⟨(Aay (⟨d.plan,d.mode,d.stack,d.scan,d.start,d.at_+1,d.field,d.wire,d.want-1,d.utf,d.end_⟩:Dcd) _ _ (Q62) Q2 Q7 (hst.2.2.2.1)),?_⟩
 refine have hm1:(Cf d b).d=(D0 ⟨(⟨d.plan,d.mode,d.stack,d.scan,d.start,d.at_+1,d.field,d.wire,d.want-1,d.utf,d.end_⟩:Dcd),[]⟩ b).d:=?_;?_
 rotate_left
 refine have hm2:(Cf d b).out=(D0 ⟨(⟨d.plan,d.mode,d.stack,d.scan,d.start,d.at_+1,d.field,d.wire,d.want-1,d.utf,d.end_⟩:Dcd),[]⟩ b).out:=?_;?_
 rotate_left
 exact⟨Q5,Q11⟩
 refine⟨(Wo (⟨d.plan,d.mode,d.stack,d.scan,d.start,d.at_+1,d.field,d.wire,d.want-1,d.utf,d.end_⟩:Dcd) _ _ (Q62) Q2),?_⟩
 refine have hm1:(Cf d b).d=(B0 ⟨(⟨d.plan,d.mode,d.stack,d.scan,d.start,d.at_+1,d.field,d.wire,d.want-1,d.utf,d.end_⟩:Dcd),[]⟩ b d.at_).d:=?_;?_
 rotate_left
 refine have hm2:(Cf d b).out=(B0 ⟨(⟨d.plan,d.mode,d.stack,d.scan,d.start,d.at_+1,d.field,d.wire,d.want-1,d.utf,d.end_⟩:Dcd),[]⟩ b d.at_).out:=?_;?_
 rotate_left
 exact⟨Q5,Q11⟩
 refine⟨(Kw d),h7,h6,dsp (fun h9 p9=>?_) fun h9 p9=>?_⟩
 refine⟨(Aay (⟨d.plan,d.mode,d.stack,d.scan,d.start,d.at_+1,d.field,d.wire,d.want,d.utf,d.end_⟩:Dcd) _ _ (Q64) Q2 Q7 (hst.2.2.2.1)),?_⟩
 refine have hm1:(Cf d b).d=(D0 ⟨(⟨d.plan,d.mode,d.stack,d.scan,d.start,d.at_+1,d.field,d.wire,d.want,d.utf,d.end_⟩:Dcd),[]⟩ b).d:=?_;?_
 rotate_left
 refine have hm2:(Cf d b).out=(D0 ⟨(⟨d.plan,d.mode,d.stack,d.scan,d.start,d.at_+1,d.field,d.wire,d.want,d.utf,d.end_⟩:Dcd),[]⟩ b).out:=?_;?_
 rotate_left
 exact⟨Q5,Q11⟩
 refine⟨(Wo (⟨d.plan,d.mode,d.stack,d.scan,d.start,d.at_+1,d.field,d.wire,d.want,d.utf,d.end_⟩:Dcd) _ _ (Q64) Q2),?_⟩
 refine have hm1:(Cf d b).d=(B0 ⟨(⟨d.plan,d.mode,d.stack,d.scan,d.start,d.at_+1,d.field,d.wire,d.want,d.utf,d.end_⟩:Dcd),[]⟩ b d.at_).d:=?_;?_
 rotate_left
 refine have hm2:(Cf d b).out=(B0 ⟨(⟨d.plan,d.mode,d.stack,d.scan,d.start,d.at_+1,d.field,d.wire,d.want,d.utf,d.end_⟩:Dcd),[]⟩ b d.at_).out:=?_;?_
 rotate_left
 exact⟨Q5,Q11⟩
 all_goals first|((rw[hsb];simp_all[Et,Ek,Fr,Aph,A7,A8,Ado,Cs];done))|((rw[hsb];have hw0:B1 d=0:=(by omega);simp_all[Et,Ek,Fr,Aph,A7,A8,Ado,Cs];done))|((rw[hsb];grind[Et,Ek,Fr,Aph,A7,A8,Ado,Cs]))|(simp_all[Cf,Eg];done)|(grind[Cf,Eg])
structure Ank where
 d:Dcd
 out:List Ev
 i:Nat
structure Bxi where
 v:List Int
def Fx (d:Dcd):List UInt8→List Int
 |[]=>[]
 |b::r=>(Cf d (b.toNat:Int)).d.mode::Fx (Cf d (b.toNat:Int)).d r
theorem U6 (d:Dcd):Fx d []=[]:=by rw[Fx]
theorem Lu (d:Dcd) (b:UInt8) (r:List UInt8):Fx d (b::r)=(Cf d (b.toNat:Int)).d.mode::Fx (Cf d (b.toNat:Int)).d r:=by rw[Fx]
theorem Ai8 {d:Dcd} {s:List UInt8} {v:Nat} (h:Eg d=false) (hv:v<s.length):Fx d (s.drop v)=d.mode::Fx d (s.drop (v+1)):=by
 rw[List.drop_eq_getElem_cons hv,Lu,Aav (.inr h)]
theorem R8: ∀(s:List UInt8) (d:Dcd),(Fx d s).length=s.length
 |[],d=>by rw[Fx];rfl
 |b::r,d=>by rw[Lu,List.length_cons,R8 r,List.length_cons]
def E9 (p:Pln) (s:List UInt8):List Int:=if B5 p=true then Fx (C8 p) s else []
theorem Zx (p:Pln) (s:List UInt8):(E9 p s).length≤s.length:=by
 unfold E9
 split
 ·rw[R8];exact Nat.le_refl _
 ·simp
theorem Mn {p:Pln} :(C8 p).plan.shapes.length≤6∧(∀e∈(C8 p).plan.shapes,e.fields.length≤1048576)∧(C8 p).stack.length≤8∧(0≤(C8 p).scan.bits∧(C8 p).scan.bits≤18446744073709551615):=by
 unfold C8
 split
 ·rename_i h
  have ht:=By h
  exact⟨ht.1,Em ht.2.1,by simp,by simp⟩
 ·exact⟨by simp,fun e he=>(by cases he),by simp,by simp⟩
theorem X5 {p:Pln} (h:B5 p=true):Dr (C8 p)=true:=by
 have ht:=By h
 unfold C8
 rw[if_pos h]
 refine Jr (Jk h (by show (0:Int)≤p.deep;omega) (fun l hl=>by cases hl)) (show (1:Int)≤1∧(1:Int)≤9 by decide) (show (0:Int)≤0∧(0:Int)≤1000000000 by decide) (show (0:Int)≤0∧(0:Int)≤0 by decide) Adr ?_ (.inl rfl) ?_ ?_ ?_ ?_ ?_
 ·simp[C7]
 ·simp[Aan,ev0]
 ·simp[Lr]
 ·simp[Kb]
 ·simp[Kc]
 ·simp[Lq,B1,Dx,Aq]
structure Bxn where
 v:Int
theorem Ami (d:Dcd) (o:Bxi) (hp1:List.length (o).v≤100000000):Fun Tryz.prog 96 [.agg (Cd d),vP 0] [.cells [.own 1],.lst .int o.v] (.tup []) [.cells [.own 2],.dead,.lst .int ((o).v++[(d).mode])]:=by
 have hN:Be=274877906944:=rfl
 refine Ar Tryz.func96 Q4 Q4 (w:=(.seg [.ty .int,.ty .int] (.leaf () [0,1,4]),(List.length o.v+List.length [d.mode]≤Be)∧(.tup []:S)= .tup []∧([.cells [.own 2],.dead,.lst .int (o.v++[d.mode])]:List Blk)=[.cells [.own 2],.dead,.lst .int ((o).v++[(d).mode])])) Q4 ?_
 exact⟨Q6,rfl,(Aa rfl (Aa rfl (Aa (congrArg (Blk.lst .int) (by rfl)) rfl)))⟩
theorem Ae1 (o:Bxi) (m:Mac) (hp1:List.length (o).v≤100000000):Fun Tryz.prog 154 [vP 0,vP 3] [.cells [.fn 96 [1]],.cells [.own 2],.lst .int o.v,.cells [.ptr 4 0],.cells (Ab 5 6 7 m),.tree m.d.plan.shapes,.lst .lev m.d.stack,.lst .ev m.out] (.tup []) [.cells [.fn 96 [1]],.cells [.own 8],.dead,.cells [.ptr 4 0],.cells (Ab 5 6 7 m),.tree m.d.plan.shapes,.lst .lev m.d.stack,.lst .ev m.out,.lst .int ((o).v++[(m).d.mode])]:=by
 have hN:Be=274877906944:=rfl
 refine Ar Tryz.func154 Q4 Q4 (w:=let z1:List Blk:=[.cells [.own 2],.dead,.lst .int ((o).v++[(m.d).mode])];(.seg [.ord (os 6 [5]) [],.call [1,2] (.tup []) z1] (.leaf () [0,1,2,3,4,5,6,7,8]),(Fun Tryz.prog 96 [.agg (Cd m.d),vP 0] [.cells [.own 1],.lst .int o.v] (.tup []) z1)∧(.tup []:S)= .tup []∧([.cells [.fn 96 [1]],.cells [.own 8],.dead,.cells [.ptr 4 0],.cells (Ab 5 6 7 m),.tree m.d.plan.shapes,.lst .lev m.d.stack,.lst .ev m.out,.lst .int ((o).v++[(m.d).mode])]:List Blk)=[.cells [.fn 96 [1]],.cells [.own 8],.dead,.cells [.ptr 4 0],.cells (Ab 5 6 7 m),.tree m.d.plan.shapes,.lst .lev m.d.stack,.lst .ev m.out,.lst .int ((o).v++[(m).d.mode])])) Q4 ?_
 exact⟨(Ami m.d o Q2),rfl,(Aa rfl (Aa rfl (Aa rfl (Aa rfl (Aa rfl (Aa rfl (Aa rfl (Aa rfl (Aa (congrArg (Blk.lst .int) (by rfl)) rfl)))))))))⟩
structure T7 where
 m:Mac
 v:Nat
 o:Bxi
def T8 (m:Mac) (s:List UInt8) (o:Bxi):Fam:=⟨T7,fun q1=>[(0,.v (vP 0)),(1,.v (vT s)),(2,.v (.c (.fn 154 [4,7]))),(8,.v (vI ((List.length s:Nat):Int))),(9,.v (vI ((q1.v:Nat):Int)))],fun q1=>[.cells (Ab 8 9 10 q1.m),.dead,.dead,.dead,.cells [.fn 96 [5]],.cells [.own 11],.dead,.cells [.ptr 0 0],.tree q1.m.d.plan.shapes,.lst .lev q1.m.d.stack,.lst .ev q1.m.out,.lst .int q1.o.v],fun q1=>q1.v≤List.length s∧Dz q1.m (List.drop q1.v s)=Dz m s∧Dr (q1.m).d=true∧List.length (q1.m).out≤List.length m.out+14*q1.v∧(q1.o).v++Fx (q1.m).d (List.drop q1.v s)=o.v++Fx m.d s∧List.length (q1.o).v≤List.length o.v+q1.v,fun q1=>List.length s-q1.v⟩
theorem Aq5 (m:Mac) (s:List UInt8) (o:Bxi) (hp1:Dr (m).d=true) (hp2:List.length (m).out≤1000000) (hp3:List.length s≤1048576) (hp4:List.length (o).v≤1000000):Fun Tryz.prog 90 [vP 0,vT s,.c (.fn 154 [4,7])] [.cells (Ab 1 2 3 m),.tree m.d.plan.shapes,.lst .lev m.d.stack,.lst .ev m.out,.cells [.fn 96 [5]],.cells [.own 6],.lst .int o.v,.cells [.ptr 0 0]] (.tup []) [.cells (Ab 8 9 10 (Dz m s)),.dead,.dead,.dead,.cells [.fn 96 [5]],.cells [.own 11],.dead,.cells [.ptr 0 0],.tree (Dz m s).d.plan.shapes,.lst .lev (Dz m s).d.stack,.lst .ev (Dz m s).out,.lst .int ((o).v++Fx (m).d s)]:=by
 have hN:Be=274877906944:=rfl
 refine Ar Tryz.func90 Q4 Q4 (w:=let z5:=((List.length s:Nat):Int);let z6:=T8 m s o;(.seg [.at 0,.cut 0 0,.cut 0 5,.cut 0 27,.cut 5 0,.keep [0,1,2,8,9],.sel [0,1,2,3,4,5,6,7,8,9,10,11]] (.loop z6 fun q1=> .br (.seg [.call [] (.v (vB (Eg q1.m.d))) []] (.br (.intro (fun (x1:UInt8)=>s[q1.v]? =some x1) fun x1=>let z1:=Et q1.m ((UInt8.toNat x1:Nat):Int);.seg [.ch x1,.as 21 (.v (vI ((UInt8.toNat x1:Nat):Int))),.call [0,8,9,10] (.tup []) [.cells (Ab 4 5 6 z1),.dead,.dead,.dead,.tree z1.d.plan.shapes,.lst .lev z1.d.stack,.lst .ev z1.out],.call [4,5,11,7,0,12,13,14] (.tup []) [.cells [.fn 96 [1]],.cells [.own 8],.dead,.cells [.ptr 4 0],.cells (Ab 5 6 7 z1),.tree z1.d.plan.shapes,.lst .lev z1.d.stack,.lst .ev z1.out,.lst .int ((q1.o).v++[(z1).d.mode])],.as 25 (.v (vI (((q1.v:Nat):Int)+1))),.at 0,.keep [0,1,2,8,9],.sel [0,1,2,3,4,5,6,7,12,13,14,15]] (.next)) (.seg [.call [4,5,11,7,0,8,9,10] (.tup []) [.cells [.fn 96 [1]],.cells [.own 8],.dead,.cells [.ptr 4 0],.cells (Ab 5 6 7 q1.m),.tree q1.m.d.plan.shapes,.lst .lev q1.m.d.stack,.lst .ev q1.m.out,.lst .int ((q1.o).v++[(q1.m).d.mode])],.as 25 (.v (vI (((q1.v:Nat):Int)+1))),.at 0,.keep [0,1,2,8,9],.sel [0,1,2,3,4,5,6,7,8,9,10,12]] (.next)))) (.leaf () [0,1,2,3,4,5,6,7,8,9,10,11])),z6.Has [(0,.v (vP 0)),(1,.v (vT s)),(2,.v (.c (.fn 154 [4,7]))),(8,.v (vI z5)),(9,.v (vI 0))] [.cells (Ab 8 9 10 m),.dead,.dead,.dead,.cells [.fn 96 [5]],.cells [.own 11],.dead,.cells [.ptr 0 0],.tree m.d.plan.shapes,.lst .lev m.d.stack,.lst .ev m.out,.lst .int o.v]∧∀q1,z6.inv q1→(let z4:=((q1.v:Nat):Int);((decide (z4<z5))=true→(Fun Tryz.prog 55 [.agg (Cd q1.m.d)] [] (.v (vB (Eg q1.m.d))) [])∧((Eg q1.m.d)=true→(∃(x1:UInt8),s[q1.v]? =some x1)∧∀(x1:UInt8),(s[q1.v]? =some x1)→(let z3:=((UInt8.toNat x1:Nat):Int);let z2:=Et q1.m z3;(s[q1.v]? =some x1)∧((0:Int)≤z4)∧((.v (vI (IntKind.i64.wrap (z3))):S)= .v (vI z3))∧(Fun Tryz.prog 57 [vP 0,vI z3] [.cells (Ab 1 2 3 q1.m),.tree q1.m.d.plan.shapes,.lst .lev q1.m.d.stack,.lst .ev q1.m.out] (.tup []) [.cells (Ab 4 5 6 z2),.dead,.dead,.dead,.tree z2.d.plan.shapes,.lst .lev z2.d.stack,.lst .ev z2.out])∧(Fun Tryz.prog 154 [vP 0,vP 3] [.cells [.fn 96 [1]],.cells [.own 2],.lst .int q1.o.v,.cells [.ptr 4 0],.cells (Ab 5 6 7 z2),.tree z2.d.plan.shapes,.lst .lev z2.d.stack,.lst .ev z2.out] (.tup []) [.cells [.fn 96 [1]],.cells [.own 8],.dead,.cells [.ptr 4 0],.cells (Ab 5 6 7 z2),.tree z2.d.plan.shapes,.lst .lev z2.d.stack,.lst .ev z2.out,.lst .int ((q1.o).v++[(z2).d.mode])])∧((.v (vI (IntKind.i64.wrap (z4+1))):S)= .v (vI (z4+1)))∧z6.Nxt q1 [(0,.v (vP 0)),(1,.v (vT s)),(2,.v (.c (.fn 154 [4,7]))),(8,.v (vI z5)),(9,.v (vI (z4+1)))] [.cells (Ab 8 9 10 z2),.dead,.dead,.dead,.cells [.fn 96 [5]],.cells [.own 11],.dead,.cells [.ptr 0 0],.tree z2.d.plan.shapes,.lst .lev z2.d.stack,.lst .ev z2.out,.lst .int ((q1.o).v++[(z2).d.mode])]))∧((Eg q1.m.d)=false→(Fun Tryz.prog 154 [vP 0,vP 3] [.cells [.fn 96 [1]],.cells [.own 2],.lst .int q1.o.v,.cells [.ptr 4 0],.cells (Ab 5 6 7 q1.m),.tree q1.m.d.plan.shapes,.lst .lev q1.m.d.stack,.lst .ev q1.m.out] (.tup []) [.cells [.fn 96 [1]],.cells [.own 8],.dead,.cells [.ptr 4 0],.cells (Ab 5 6 7 q1.m),.tree q1.m.d.plan.shapes,.lst .lev q1.m.d.stack,.lst .ev q1.m.out,.lst .int ((q1.o).v++[(q1.m).d.mode])])∧((.v (vI (IntKind.i64.wrap (z4+1))):S)= .v (vI (z4+1)))∧z6.Nxt q1 [(0,.v (vP 0)),(1,.v (vT s)),(2,.v (.c (.fn 154 [4,7]))),(8,.v (vI z5)),(9,.v (vI (z4+1)))] [.cells (Ab 8 9 10 q1.m),.dead,.dead,.dead,.cells [.fn 96 [5]],.cells [.own 11],.dead,.cells [.ptr 0 0],.tree q1.m.d.plan.shapes,.lst .lev q1.m.d.stack,.lst .ev q1.m.out,.lst .int ((q1.o).v++[(q1.m).d.mode])]))∧((decide (z4<z5))=false→(.tup []:S)= .tup []∧([.cells (Ab 8 9 10 q1.m),.dead,.dead,.dead,.cells [.fn 96 [5]],.cells [.own 11],.dead,.cells [.ptr 0 0],.tree q1.m.d.plan.shapes,.lst .lev q1.m.d.stack,.lst .ev q1.m.out,.lst .int q1.o.v]:List Blk)=[.cells (Ab 8 9 10 (Dz m s)),.dead,.dead,.dead,.cells [.fn 96 [5]],.cells [.own 11],.dead,.cells [.ptr 0 0],.tree (Dz m s).d.plan.shapes,.lst .lev (Dz m s).d.stack,.lst .ev (Dz m s).out,.lst .int ((o).v++Fx (m).d s)])))) Q4 ?_
 refine⟨Bs (j:=(⟨m,0,o⟩:T7)) Q9 rfl (by dsimp only[T8];exact⟨by omega,rfl,hp1,by omega,rfl,by omega⟩),fun (q1:T7) hq_q1=>?_⟩
 have hi_q1:q1.v≤List.length s∧Dz q1.m (List.drop q1.v s)=Dz m s∧Dr (q1.m).d=true∧List.length (q1.m).out≤List.length m.out+14*q1.v∧(q1.o).v++Fx (q1.m).d (List.drop q1.v s)=o.v++Fx m.d s∧List.length (q1.o).v≤List.length o.v+q1.v:=hq_q1
 obtain ⟨v1,v2,v3,v4,v5,v6⟩:=hi_q1
 have hbt:=R7 v3
 have hmw:=Wg v3 hbt
 have hlv:=Cb hmw.lv
 have hpt:=By hlv.1
 refine dsp (fun h1 p1=>?_) fun h1 p1=>?_
 refine⟨(Ai0 q1.m.d),fun h2=>?_,fun h2=>?_⟩
 have hta:Eg q1.m.d=true:=h2
 have htk:=Aaw hta
 have hst:=Wi v3 htk.1
 refine⟨(Bq (l:=s) (i:=q1.v) Q2),fun x1 hx1=>?_⟩
 have hb_x1:=UInt8.toNat_lt x1
 rw[Er hx1,K8] at v2
 rw[Er hx1,Lu] at v5
 have hub:=Aq4 x1
 have hsm:=Zu (m:=q1.m) v3 hta hub
 exact⟨hx1,Q2,(Ac Q2 Q2),(Ang q1.m _ (hmw) Q2 Q2 Q2 Q2 (hst.2.2.1)),(Ae1 q1.o (Et q1.m ((UInt8.toNat x1:Nat):Int)) Q2),(Ac Q2 Q2),Bc (j:=(⟨(Et q1.m ((UInt8.toNat x1:Nat):Int)),q1.v+1,(⟨(q1.o).v++[((Et q1.m ((UInt8.toNat x1:Nat):Int))).d.mode]⟩:Bxi)⟩:T7)) Q9 Q9 Q34 (by dsimp only[T8];omega)⟩
 have hnt:Eg q1.m.d=false:=h2
 exact⟨(Ae1 q1.o q1.m Q2),(Ac Q2 Q2),Bc (j:=(⟨q1.m,q1.v+1,(⟨(q1.o).v++[(q1.m).d.mode]⟩:Bxi)⟩:T7)) Q9 Q9 Q34 (by dsimp only[T8];omega)⟩
 rw[List.drop_eq_nil_of_le (by omega),X2] at v2
 rw[List.drop_eq_nil_of_le (by omega),U6,List.append_nil] at v5
 refine have hm1:Dz m s=q1.m:=?_;?_
 rotate_left
 exact⟨rfl,(by rw[hm1,←v5]<;>rfl)⟩
 all_goals first|((rw[←v2];done))|((rw[←v5];done))|(rfl)|(grind)
theorem Aot (p:Pln) (s:List UInt8) (o:Bxi) (hp1:List.length (p).shapes≤Be) (hp2:List.length s≤1048576) (hp3:List.length (o).v≤1000000):Fun Tryz.prog 95 [.agg (Ex p),vT s,.c (.fn 96 [0])] [.cells [.own 1],.lst .int o.v] (.tup []) [.cells [.own 2],.dead,.lst .int ((o).v++E9 p s)]:=by
 have hN:Be=274877906944:=rfl
 refine Ar Tryz.func95 Q4 Q4 (w:=let zi:Int→C:= .int .i64;let z1:=C8 p;let z2:=Dz (⟨z1,([]:List Ev)⟩:Mac) s;let z3:List Blk:=[.cells [.own 2],.dead,.lst .int ((o).v++E9 p s)];let z4:=(o).v++Fx z1 s;(.seg [.call [] (.tup [.agg (Ak 0 1 z1),vB (B5 p)]) [.tree z1.plan.shapes,.lst .lev z1.stack]] (.br (.seg [.at 0,.cut 0 0] (.leaf () [0,1,7])) (.seg [.at 5,.mk 7 27 .ev,.call [7,4,5,9,3,0,1,8] (.tup []) [.cells (Ab 8 9 10 z2),.dead,.dead,.dead,.cells [.fn 96 [5]],.cells [.own 11],.dead,.cells [.ptr 0 0],.tree z2.d.plan.shapes,.lst .lev z2.d.stack,.lst .ev z2.out,.lst .int z4]] (.leaf () [0,1,13]))),(Fun Tryz.prog 153 [.agg (Ex p)] [] (.tup [.agg (Ak 0 1 z1),vB (B5 p)]) [.tree z1.plan.shapes,.lst .lev z1.stack])∧((!(B5 p))=true→(.tup []:S)= .tup []∧([.cells [.own 2],.dead,.lst .int o.v]:List Blk)=z3)∧((!(B5 p))=false→(Fun Tryz.prog 90 [vP 0,vT s,.c (.fn 154 [4,7])] [.cells [.own 1,zi z1.plan.root,zi z1.plan.deep,zi z1.plan.most,zi z1.mode,.own 2,.int .u64 z1.scan.bits,zi z1.scan.have_,zi z1.start,zi z1.at_,zi z1.field.number,zi z1.field.kind,.bool z1.field.rep,.bool z1.field.packed,zi z1.field.msg,zi z1.wire,zi z1.want,zi z1.utf.want,zi z1.utf.low,zi z1.utf.high,zi z1.end_.kind,zi z1.end_.field,.int .u64 z1.end_.bits,zi z1.end_.len,.str z1.end_.text,zi z1.end_.code,zi z1.end_.at_,.own 3],.tree z1.plan.shapes,.lst .lev z1.stack,.lst .ev ([]:List Ev),.cells [.fn 96 [5]],.cells [.own 6],.lst .int o.v,.cells [.ptr 0 0]] (.tup []) [.cells (Ab 8 9 10 z2),.dead,.dead,.dead,.cells [.fn 96 [5]],.cells [.own 11],.dead,.cells [.ptr 0 0],.tree z2.d.plan.shapes,.lst .lev z2.d.stack,.lst .ev z2.out,.lst .int z4])∧(.tup []:S)= .tup []∧([.cells [.own 2],.dead,.lst .int z4]:List Blk)=z3))) Q4 ?_
 refine⟨(Amb p Q2),fun h1=>have q1:=Ap h1;?_,fun h1=>have q1:=Ao h1;have p1:=By q1;?_⟩
 have hml:E9 p s=[]:=by unfold E9;rw[if_neg (by simp[q1])]
 refine⟨rfl,(Aa rfl (Aa rfl (Aa (congrArg (Blk.lst .int) ?_) rfl)))⟩
 rotate_left
 have hdo:=X5 q1
 have hml:E9 p s=Fx (C8 p) s:=by unfold E9;rw[if_pos q1]
 refine⟨(Aq5 (⟨(C8 p),([]:List Ev)⟩:Mac) _ o ((by first|(exact hdo))) Q17 Q2 Q2),rfl,(Aa rfl (Aa rfl (Aa (congrArg (Blk.lst .int) ?_) rfl)))⟩
 rotate_left
 all_goals first|((rw[hml];done))|((rw[hml,List.append_nil];done))|(grind)
theorem Ai9 (p:Pln) (s:List UInt8) (hp1:List.length (p).shapes≤Be) (hp2:List.length s≤1048576):Fun Tryz.prog 31 [.agg (Ex p),vT s] [] (.v (vO 0)) [.lst .int (E9 p s)]:=by
 have hN:Be=274877906944:=rfl
 refine Ar Tryz.func31 Q4 Q4 (w:=let z1:=((⟨([]:List Int)⟩:Bxi)).v++E9 p s;(.seg [.ty .int,.call [2,1] (.tup []) [.cells [.own 2],.dead,.lst .int z1]] (.leaf () [3]),(Fun Tryz.prog 95 [.agg (Ex p),vT s,.c (.fn 96 [0])] [.cells [.own 1],.lst .int ([]:List Int)] (.tup []) [.cells [.own 2],.dead,.lst .int z1])∧(.v (vO 0):S)= .v (vO 0)∧([.lst .int z1]:List Blk)=[.lst .int (E9 p s)])) Q4 ?_
 refine⟨(Aot p _ (⟨([]:List Int)⟩:Bxi) Q2 Q2 (by simp)),rfl,(Aa (congrArg (Blk.lst .int) ?_) rfl)⟩
 rotate_left
 all_goals first|(rfl)|(simp;done)
structure Mo where
 out:List Int
 d:Dcd
 i:Nat
def Mp (p:Pln) (s:List UInt8):Fam:=⟨Mo,fun q1=>[(1,.v (vT s)),(5,.v (vO 0)),(6,.v (vP 1)),(7,.v (vB (B5 p))),(8,.v (vI ((q1.i:Nat):Int)))],fun q1=>[.lst .int q1.out,.cells (Ak 2 3 q1.d),.tree q1.d.plan.shapes,.lst .lev q1.d.stack],fun q1=>q1.i≤List.length s∧q1.out++Fx q1.d (List.drop q1.i s)=Fx (C8 p) s∧(q1.d).plan=(C8 p).plan∧List.length (q1.d).stack≤8∧((0:Int)≤(q1.d).scan.bits∧(q1.d).scan.bits≤18446744073709551615)∧List.length q1.out≤q1.i∧(B5 p=false→q1.out=[]),fun q1=>List.length s-q1.i⟩
theorem Aja (p:Pln) (s:List UInt8) (hp1:List.length (p).shapes≤Be) (hp2:List.length s≤1048576):Fun Tryz.prog 33 [.agg (Ex p),vT s] [] (.v (vO 0)) [.lst .int (E9 p s)]:=by
 have hN:Be=274877906944:=rfl
 refine Ar Tryz.func33 Q4 Q4 (w:=let z4:=C8 p;let z5:=Mp p s;let z6:=B5 p;(.seg [.ty .int,.call [] (.tup [.agg (Ak 0 1 z4),vB z6]) [.tree z4.plan.shapes,.lst .lev z4.stack],.at 0,.keep [1,5,6,7,8],.sel [1,4,2,3]] (.loop z5 fun q1=> .br (.br (.intro (fun (x1:UInt8)=>s[q1.i]? =some x1) fun x1=>let z1:=Cf q1.d ((UInt8.toNat x1:Nat):Int);.seg [.ord (os 10 [5,9]) [],.ch x1,.as 29 (.v (vI ((UInt8.toNat x1:Nat):Int))),.call [] (.tup [.agg (Ak 0 1 z1.d),vO 2]) [.tree z1.d.plan.shapes,.lst .lev z1.d.stack,.lst .ev z1.out],.ty .int,.ty .int,.as 23 (.v (vI (((q1.i:Nat):Int)+1))),.at 0,.keep [1,5,6,7,8],.sel [8,1,4,5]] (.next)) (.leaf () [0])) (.leaf () [0])),(Fun Tryz.prog 35 [.agg (Ex p)] [] (.tup [.agg (Ak 0 1 z4),vB z6]) [.tree z4.plan.shapes,.lst .lev z4.stack])∧z5.Has [(1,.v (vT s)),(5,.v (vO 0)),(6,.v (vP 1)),(7,.v (vB z6)),(8,.v (vI 0))] [.lst .int ([]:List Int),.cells (Ak 2 3 z4),.tree z4.plan.shapes,.lst .lev z4.stack]∧∀q1,z5.inv q1→(let z3:=((q1.i:Nat):Int);((decide (z3<((List.length s:Nat):Int)))=true→(z6=true→(∃(x1:UInt8),s[q1.i]? =some x1)∧∀(x1:UInt8),(s[q1.i]? =some x1)→(let z2:=((UInt8.toNat x1:Nat):Int);(s[q1.i]? =some x1)∧((0:Int)≤z3)∧(s[q1.i]? =some x1)∧((0:Int)≤z3)∧((.v (vI (IntKind.i64.wrap (z2))):S)= .v (vI z2))∧((.v (vI (IntKind.i64.wrap (z2))):S)= .v (vI z2))∧(Fun Tryz.prog 18 [.agg (Cd q1.d),vI z2] [] (.tup [.agg (Ak 0 1 (Cf q1.d z2).d),vO 2]) [.tree (Cf q1.d z2).d.plan.shapes,.lst .lev (Cf q1.d z2).d.stack,.lst .ev (Cf q1.d z2).out])∧(List.length q1.out+List.length [(Cf q1.d z2).d.mode]≤Be)∧((.v (vI (IntKind.i64.wrap (z3+1))):S)= .v (vI (z3+1)))∧z5.Nxt q1 [(1,.v (vT s)),(5,.v (vO 0)),(6,.v (vP 1)),(7,.v (vB z6)),(8,.v (vI (z3+1)))] [.lst .int (q1.out++[(Cf q1.d z2).d.mode]),.cells (Ak 2 3 (Cf q1.d z2).d),.tree (Cf q1.d z2).d.plan.shapes,.lst .lev (Cf q1.d z2).d.stack]))∧(z6=false→(.v (vO 0):S)= .v (vO 0)∧([.lst .int q1.out]:List Blk)=[.lst .int (E9 p s)]))∧((decide (z3<((List.length s:Nat):Int)))=false→(.v (vO 0):S)= .v (vO 0)∧([.lst .int q1.out]:List Blk)=[.lst .int (E9 p s)])))) Q4 ?_
 refine⟨(Aex p Q2),Bs (j:=(⟨([]:List Int),(C8 p),0⟩:Mo)) Q9 rfl (by dsimp only[Mp];exact⟨by omega,rfl,rfl,Mn.2.2.1,Mn.2.2.2,by simp,fun _=>rfl⟩),fun (q1:Mo) hq_q1=>?_⟩
 have hi_q1:q1.i≤List.length s∧q1.out++Fx q1.d (List.drop q1.i s)=Fx (C8 p) s∧(q1.d).plan=(C8 p).plan∧List.length (q1.d).stack≤8∧((0:Int)≤(q1.d).scan.bits∧(q1.d).scan.bits≤18446744073709551615)∧List.length q1.out≤q1.i∧(B5 p=false→q1.out=[]):=hq_q1
 obtain ⟨v1,v2,v3,v4,v5,v6,v7⟩:=hi_q1
 have hsl:List.length q1.d.plan.shapes≤6:=by rw[v3];exact Mn.1
 have hsf: ∀e∈q1.d.plan.shapes,List.length e.fields≤1048576:=by rw[v3];exact Mn.2.1
 refine dsp (fun h1 p1=>?_) fun h1 p1=>?_
 refine⟨fun h2=>have p2:=By h2;?_,fun h2=>?_⟩
 have hdo:=X5 h2
 have hml:E9 p s=Fx (C8 p) s:=by unfold E9;rw[if_pos h2]
 refine⟨(Bq (l:=s) (i:=q1.i) Q2),fun x1 hx1=>?_⟩
 have hb_x1:=UInt8.toNat_lt x1
 rw[Er hx1,Lu] at v2
 have hl:=X3 (d:=q1.d) (b:=((x1.toNat:Nat):Int))
 have hub:=Aq4 x1
 exact⟨hx1,Q2,hx1,Q2,(Ac Q2 Q2),(Ac Q2 Q2),(Aos q1.d _ Q2 ((by first|(exact hsf))) Q2 Q2),Q6,(Ac Q2 Q2),Bc (j:=(⟨q1.out++[(Cf q1.d ((UInt8.toNat x1:Nat):Int)).d.mode],(Cf q1.d ((UInt8.toNat x1:Nat):Int)).d,q1.i+1⟩:Mo)) Q9 rfl (by dsimp only[Mp];exact⟨by omega,by rw[←v2,List.append_assoc];rfl,hl.1.trans v3,by omega,hl.2.2.2 v5,by simp only[List.length_append,List.length_cons,List.length_nil];omega,fun h=>absurd h (by simp[*])⟩) (by dsimp only[Mp];omega)⟩
 have hml:E9 p s=[]:=by unfold E9;rw[if_neg (by simp[h2])]
 refine⟨rfl,(Aa (congrArg (Blk.lst .int) ?_) rfl)⟩
 rotate_left
 rw[List.drop_eq_nil_of_le (by omega),U6,List.append_nil] at v2
 refine⟨rfl,(Aa (congrArg (Blk.lst .int) ?_) rfl)⟩
 rotate_left
 all_goals first|((rw[hml,v2];done))|((rw[hml];done))|((rw[hml];exact v7 (by assumption)))|((unfold E9;split;exact v2;rename_i h;exact v7 (by simpa using h)))|(grind)
theorem Ae2: ∀(s:List UInt8) {m:Mac},Dr m.d=true→Dr (Dz m s).d=true
 |[],_,h=>h
 |b::r,m,h=>by rw[K8];exact Ae2 r (Wn h)
theorem X6: ∀(s:List UInt8) (m:Mac) (i:Nat) (x:Int),(Fx m.d s)[i]? =some x→i+1=s.length→x=(Dz m s).d.mode
 |[],m,i,x,h,_=>by rw[U6] at h;simp at h
 |b::r,m,i,x,h,hi=>by
  rw[Lu] at h
  rw[K8]
  cases r with
  |nil=>
   have h0:i=0:=by simpa using hi
   subst h0
   rw[X2]
   simpa [Ys] using h.symm
  |cons c r=>
   obtain ⟨j,rfl⟩: ∃j,i=j+1:=⟨i-1,by simp only[List.length_cons] at hi;omega⟩
   rw[List.getElem?_cons_succ] at h
   exact X6 (c::r) (Ys m (b.toNat:Int)) j x h (by simp only[List.length_cons] at hi ⊢;omega)
theorem Ajb {p:Pln} {s:List UInt8} {i:Nat} {x:Int} (hx:(E9 p s)[i]? =some x) (hi:(i:Int)=((E9 p s).length:Int)-1):x=(Dz ⟨C8 p,[]⟩ s).d.mode∧1≤x∧x≤9:=by
 unfold E9 at hx hi
 by_cases hp:B5 p=true
 ·rw[if_pos hp] at hx hi
  rw[R8] at hi
  have h:=X6 s ⟨C8 p,[]⟩ i x hx (by omega)
  have hm:=(S6 (Ae2 s (m:=⟨C8 p,[]⟩) (X5 hp))).2.1
  rw[←h] at hm
  exact⟨h,hm⟩
 ·rw[if_neg hp] at hx;simp at hx
theorem Agg {p:Pln} {s:List UInt8} (h:(E9 p s).length=0):s=[]∨B5 p=false:=by
 unfold E9 at h
 by_cases hp:B5 p=true
 ·rw[if_pos hp,R8] at h;exact .inl (List.eq_nil_of_length_eq_zero h)
 ·exact .inr (by simpa using hp)
structure Ju where
 i:Nat
def Jv (l:List Int):Fam:=⟨Ju,fun q1=>[(0,.v (.c (.seq .int l))),(1,.v (.c (.seq .int l))),(5,.v (vI ((q1.i:Nat):Int)))],fun _=>[],fun q1=>q1.i≤List.length l,fun q1=>List.length l-q1.i⟩
theorem Adt (l:List Int) (hp1:List.length l≤Be):Fun Tryz.prog 32 [.c (.seq .int l),.c (.seq .int l)] [] (.v (vB true)) []:=by
 have hN:Be=274877906944:=rfl
 refine Ar Tryz.func32 Q4 Q4 (w:=let z3:=((List.length l:Nat):Int);let z4:=Jv l;(.seg [.br false,.at 0,.keep [0,1,5],.sel []] (.loop z4 fun q1=> .br (.intro (fun (x1:Int)=>l[q1.i]? =some x1) fun x1=> .seg [.ord (os 9 []) [],.el .int x1,.el .int x1,.br false,.as 16 (.v (vI (((q1.i:Nat):Int)+1))),.at 0,.keep [0,1,5],.sel []] (.next)) (.leaf () [])),((!decide (z3=z3))=false)∧z4.Has [(0,.v (.c (.seq .int l))),(1,.v (.c (.seq .int l))),(5,.v (vI 0))] []∧∀q1,z4.inv q1→(let z2:=((q1.i:Nat):Int);((decide (z2<z3))=true→(∃(x1:Int),l[q1.i]? =some x1)∧∀(x1:Int),(l[q1.i]? =some x1)→(let z1:=l[q1.i]? =some x1;z1∧((0:Int)≤z2)∧z1∧((0:Int)≤z2)∧z1∧((0:Int)≤z2)∧z1∧((0:Int)≤z2)∧((!decide (x1=x1))=false)∧((.v (vI (IntKind.i64.wrap (z2+1))):S)= .v (vI (z2+1)))∧z4.Nxt q1 [(0,.v (.c (.seq .int l))),(1,.v (.c (.seq .int l))),(5,.v (vI (z2+1)))] []))∧((decide (z2<z3))=false→(.v (vB true):S)= .v (vB true)∧([]:List Blk)=[])))) Q4 ?_
 refine⟨(by simp),Bs (j:=(⟨0⟩:Ju)) Q9 rfl (by dsimp only[Jv];omega),fun (q1:Ju) hq_q1=>?_⟩
 have hi_q1:q1.i≤List.length l:=hq_q1
 refine dsp (fun h1 p1=>?_) fun h1 p1=>?_
 refine⟨(Bq (l:=l) (i:=q1.i) Q2),fun x1 hx1=>?_⟩
 exact⟨hx1,Q2,hx1,Q2,hx1,Q2,hx1,Q2,(by simp),(Ac Q2 Q2),Bc (j:=(⟨q1.i+1⟩:Ju)) Q9 rfl (by dsimp only[Jv];omega) (by dsimp only[Jv];omega)⟩
 exact⟨rfl,rfl⟩
structure Ke where
 t:List UInt8
def Vy (m:Int) (o:Ke):Prop:=Fun Tryz.prog 36 [vI m] [] (.v (vT o.t)) []
def Rh (m:Int) (o:Ke):Prop:=((1≤m∧m≤9→(o.t:List UInt8)≠[]))∧Vy m o
theorem Agh (m:Int): ∃o:Ke,Rh m o:=by
 have hN:Be=274877906944:=rfl
 refine Cc Tryz.func36 Q4 Q4 (w:=let z1:=List.getD [[102,114,97,109,101],[116,97,103],[118,97,114],[108,101,110],[102,105,120],[116,101,120,116],[115,107,105,112],[114,117,110],[115,116,111,112]] (Int.toNat (m-1)) [];let z2:=Aq m 1 9;(.seg [.call [] (.v (vB z2)) []] (.br (.leaf (⟨[]⟩:Ke) []) (.seg [.as 8 (.v (vI (m-1))),.ce (.str z1)] (.leaf (⟨List.getD [[102,114,97,109,101],[116,97,103],[118,97,114],[108,101,110],[102,105,120],[116,101,120,116],[115,107,105,112],[114,117,110],[115,116,111,112]] (Int.toNat (m-1)) []⟩:Ke) []))),(Fun Tryz.prog 79 [vI m,vI 1,vI 9] [] (.v (vB z2)) [])∧((!z2)=true→((1≤m∧m≤9→([]:List UInt8)≠[]))∧(.v (vT []):S)= .v (vT [])∧([]:List Blk)=[])∧((!z2)=false→((.v (vI (IntKind.i64.wrap (m-1))):S)= .v (vI (m-1)))∧((([.str [102,114,97,109,101],.str [116,97,103],.str [118,97,114],.str [108,101,110],.str [102,105,120],.str [116,101,120,116],.str [115,107,105,112],.str [114,117,110],.str [115,116,111,112]]:List C)[Int.toNat (m-1)]?)=some (.str z1))∧(m-1<((9:Nat):Int))∧((0:Int)≤m-1)∧((1≤m∧m≤9→(z1:List UInt8)≠[]))∧(.v (vT z1):S)= .v (vT z1)∧([]:List Blk)=[]))) Q4 ?_
 refine⟨(Ch _ _ _),fun h1=>have q1:=Ap h1;have p1:=A4 q1;?_,fun h1=>have q1:=Ao h1;have p1:=Av q1;?_⟩
 exact⟨Q65,rfl,rfl⟩
 exact⟨(Ac Q2 Q2),(Apq (l:=[[102,114,97,109,101],[116,97,103],[118,97,114],[108,101,110],[102,105,120],[116,101,120,116],[115,107,105,112],[114,117,110],[115,116,111,112]]) (by simp;omega)),Q2,Q2,Q65,rfl,rfl⟩
structure H6 where
 p:Pln
 t:List UInt8
def Ri (code:List Int) (o:H6):Prop:=Fun Tryz.prog 30 [.c (.seq .u8 code)] [] (.tup [.agg (Ex o.p),vT o.t]) []
def Lv (code:List Int) (o:H6):Prop:=((Ab1 o.p)∧(List.length (o.t:List UInt8)≤200000))∧Ri code o
theorem Aaz (code:List Int) (hp1:List.length code≤1048576): ∃o:H6,Lv code o:=by
 have hN:Be=274877906944:=rfl
 refine Cc Tryz.func30 Q4 Q4 (w:=(.intro (Hd code) fun o1=> .seg [.call [] (.tup [vP 0,.agg (Ex o1.p),vT o1.t]) [.cells (Au o1.c1)]] (.leaf (⟨o1.p,o1.t⟩:H6) []),In (Hd code) fun o1=>((Po code o1)∧((Ab1 o1.p)∧(List.length (o1.t:List UInt8)≤200000))∧(.tup [.agg (Ex o1.p),vT o1.t]:S)= .tup [.agg (Ex o1.p),vT o1.t]∧([]:List Blk)=[]))) Q4 ?_
 refine⟨(Xw code Q2),fun o1 ho_o1=>?_⟩
 obtain ⟨⟨hp_o1_0,hp_o1_1,hp_o1_2⟩,hf_o1⟩:=ho_o1
 exact⟨hf_o1,⟨Q84,Q2⟩,rfl,rfl⟩
theorem Ajc (code:List Int) (hp1:((List.length code:Nat):Int)≤9223372036854775807):Fun Tryz.prog 7 [.c (.seq .u8 code)] [] (.v (vB true)) []:=by
 have hN:Be=274877906944:=rfl
 refine Ar Tryz.func7 Q4 Q4 (w:=let z11:=decide (1048576<((List.length code:Nat):Int));let z12:=([]:List Blk);(.seg [.call [] (.v (vB z11)) []] (.br (.leaf () []) (.intro (Lv code) fun o1=>let z5:=E9 o1.p o1.t;let z4:=((List.length z5:Nat):Int)-1;let z6:=C8 o1.p;let z3:=Dz ⟨z6,[]⟩ o1.t;.seg [.call [] (.tup [.agg (Ex o1.p),vT o1.t]) [],.call [] (.v (vO 0)) [.lst .int z5],.call [] (.v (vO 0)) [.lst .int z5],.call [] (.v (vB true)) [],.br false] (.br (.br (.leaf () []) (.seg [.call [] (.v (vB (B5 o1.p))) []] (.leaf () []))) (.seg [.call [] (.tup [.agg (Ak 0 1 z6),vB (B5 o1.p)]) [.tree z6.plan.shapes,.lst .lev z6.stack],.call [] (.tup [.agg (Ak 0 1 z3.d),vO 2]) [.tree z3.d.plan.shapes,.lst .lev z3.d.stack,.lst .ev z3.out]] (.intro (fun (x1:Int)=>z5[Int.toNat z4]? =some x1) fun x1=> .case (decide (x1=z3.d.mode)) (.intro (Rh z3.d.mode) fun o2=> .seg [.at 12,.pubS 5,.ord (os 16 [12]) [],.as 50 (.v (vI z4)),.el .int x1,.br true,.call [] (.v (vT o2.t)) []] (.leaf () [])) (.seg [.at 12,.pubS 5,.ord (os 16 [12]) [],.as 50 (.v (vI z4)),.el .int x1,.br false] (.leaf () []))))))),(Fun Tryz.prog 9 [.c (.seq .u8 code)] [] (.v (vB z11)) [])∧(z11=true→(.v (vB true):S)= .v (vB true)∧z12=[])∧(z11=false→In (Lv code) fun o1=>(let z9:=E9 o1.p o1.t;let z7:=((List.length z9:Nat):Int);let z10:=C8 o1.p;let z8:=Dz ⟨z10,[]⟩ o1.t;(Ri code o1)∧(Fun Tryz.prog 31 [.agg (Ex o1.p),vT o1.t] [] (.v (vO 0)) [.lst .int z9])∧(Fun Tryz.prog 33 [.agg (Ex o1.p),vT o1.t] [] (.v (vO 0)) [.lst .int z9])∧(Fun Tryz.prog 32 [.c (.seq .int z9),.c (.seq .int z9)] [] (.v (vB true)) [])∧((!true)=false)∧((decide (z7=0))=true→((decide (o1.t=[]))=true→(.v (vB true):S)= .v (vB true)∧z12=[])∧((decide (o1.t=[]))=false→(Fun Tryz.prog 34 [.agg (Ex o1.p)] [] (.v (vB (B5 o1.p))) [])∧(.v (vB (!(B5 o1.p))):S)= .v (vB true)∧z12=[]))∧((decide (z7=0))=false→(Fun Tryz.prog 35 [.agg (Ex o1.p)] [] (.tup [.agg (Ak 0 1 z10),vB (B5 o1.p)]) [.tree z10.plan.shapes,.lst .lev z10.stack])∧(Fun Tryz.prog 26 [.agg (Cd z10),vT o1.t] [] (.tup [.agg (Ak 0 1 z8.d),vO 2]) [.tree z8.d.plan.shapes,.lst .lev z8.d.stack,.lst .ev z8.out])∧(∃(x1:Int),z9[Int.toNat (z7-1)]? =some x1)∧∀(x1:Int),(z9[Int.toNat (z7-1)]? =some x1)→(let z1:=z9[Int.toNat (z7-1)]? =some x1;let z2:=decide (x1=z8.d.mode);(z2=true→In (Rh z8.d.mode) fun o2=>(((.v (vI (IntKind.i64.wrap (z7-1))):S)= .v (vI (z7-1)))∧((.v (vI (IntKind.i64.wrap (z7-1))):S)= .v (vI (z7-1)))∧z1∧((0:Int)≤z7-1)∧z1∧((0:Int)≤z7-1)∧(z2=true)∧(Vy z8.d.mode o2)∧(.v (vB (!decide (o2.t=[]))):S)= .v (vB true)∧z12=[]))∧(z2=false→((.v (vI (IntKind.i64.wrap (z7-1))):S)= .v (vI (z7-1)))∧((.v (vI (IntKind.i64.wrap (z7-1))):S)= .v (vI (z7-1)))∧z1∧((0:Int)≤z7-1)∧z1∧((0:Int)≤z7-1)∧(z2=false)∧(.v (vB false):S)= .v (vB true)∧z12=[]))))))) Q4 ?_
 refine⟨(Am8 _ Q2),dsp (fun h1 p1=>?_) fun h1 p1=>?_⟩
 exact⟨rfl,rfl⟩
 refine⟨(Aaz code Q2),fun o1 ho_o1=>?_⟩
 obtain ⟨⟨hp_o1_0,hp_o1_1⟩,hf_o1⟩:=ho_o1
 refine⟨hf_o1,(Ai9 o1.p _ (by have:=hp_o1_0.1;omega) Q2),(Aja o1.p _ (by have:=hp_o1_0.1;omega) Q2),(Adt _ Q71),Q26,dsp (fun h2 p2=>?_) fun h2 p2=>?_⟩
 have hmn:=Agg (p:=o1.p) (s:=o1.t) (by omega)
 refine dsp (fun h3 p3=>?_) fun h3 p3=>?_
 exact⟨rfl,rfl⟩
 refine⟨(Rt o1.p),(sB ?_),rfl⟩
 rotate_left
 have hml:=Zx o1.p o1.t
 refine⟨(Aex o1.p (by have:=hp_o1_0.1;omega)),(Ai6 (C8 o1.p) _ (by have:=(Mn (p:=o1.p)).1;omega) (Mn.2.1) (by have:=(Mn (p:=o1.p)).2.2.1;omega) (Mn.2.2.2) Q2),(Bq (l:=E9 o1.p o1.t) (i:=Int.toNat (((List.length (E9 o1.p o1.t):Nat):Int)-1)) Q71),fun x1 hx1=>?_⟩
 have hme:=Ajb hx1 (by omega)
 refine dsp (fun h3 p3=>?_) fun h3 p3=>?_
 refine⟨(Agh (Dz ⟨(C8 o1.p),[]⟩ o1.t).d.mode),fun o2 ho_o2=>?_⟩
 obtain ⟨hp_o2,hf_o2⟩:=ho_o2
 refine⟨(Ac Q2 Q2),(Ac Q2 Q2),hx1,Q71,hx1,Q71,h3,hf_o2,(sB ?_),rfl⟩
 rotate_left
 refine⟨(Ac Q2 Q2),(Ac Q2 Q2),hx1,Q71,hx1,Q71,h3,(sB ?_),rfl⟩
 rotate_left
 all_goals first|(rfl)|((simp_all;done))|(grind)
end Go.Proofs.YtcmnedgnppnhoaaGreat.Ax
