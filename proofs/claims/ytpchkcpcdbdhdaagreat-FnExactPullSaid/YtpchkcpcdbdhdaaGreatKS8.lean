/- The reference: bytes of numbers. A byte: the reference. Whole inputs: the reference. Merged events. Chunks. Chunks of an input. Ends of an input. -/
import Derived.Test.YtpchkcpcdbdhdaaGreatKS7
import Derived.Test.YtpchkcpcdbdhdaaGreatKS4
import Derived.Test.YtpchkcpcdbdhdaaGreatKS3
import Derived.Test.YtpchkcpcdbdhdaaGreatKS5
import Derived.Test.YtpchkcpcdbdhdaaGreatKS6
set_option linter.unusedSimpArgs false
set_option linter.unusedVariables false
namespace Go.Proofs.YtpchkcpcdbdhdaaGreat.Ax
open Go.RowKit
set_option maxHeartbeats 1600000 in
theorem Rv (d:Dcd) (b:Int) (a:Int) (hp1:MW d) (hp2:(0:Int)≤b∧b≤255):Fun Tryz.prog 112 [.agg (Ac 0 1 d),vI b,vI a] [.tree d.plan.shapes,.lst .lev d.stack] (.tup [.agg (Ac 2 3 (Bf ⟨d,[]⟩ b a).d),vO 4]) [.dead,.dead,.tree (Bf ⟨d,[]⟩ b a).d.plan.shapes,.lst .lev (Bf ⟨d,[]⟩ b a).d.stack,.lst .ev (Bf ⟨d,[]⟩ b a).out]:=by
 have hN:bigN=274877906944:=rfl
 have hlv:=Bs hp1.lv
 have hpt:=By hlv.1
 have htb:=Gm hp1.lv
 have hbb:=hp1.b0
 have hat:=hp1.at_
 have hwt:=hp1.want
 have hwd:=Jf d
 have hsb:=Qc (b:=b) hbb.1 hbb.2
 refine Af Tryz.func112 (by kernel_rfl) (by kernel_rfl) (w:=let zi:Int→C:= .int .i64;let z1:List C:=[zi d.at_,zi d.field.number,zi d.field.kind,.bool d.field.rep,.bool d.field.packed,zi d.field.msg,zi d.wire,zi d.want,zi d.utf.want,zi d.utf.low,zi d.utf.high,zi d.end_.kind,zi d.end_.field,.int .u64 d.end_.bits,zi d.end_.len,.str d.end_.text,zi d.end_.code,zi d.end_.at_];let z4:=(⟨d.plan,d.mode,d.stack,(⟨0,0⟩:Scn),d.start,d.at_,d.field,d.wire,d.want,d.utf,d.end_⟩:Dcd);let z6:=Ae d.scan b;let z2:=Au (⟨d.plan,d.mode,d.stack,z6.1,a,d.at_,d.field,d.wire,d.want,d.utf,d.end_⟩:Dcd) 9 d.at_;let z3:=Au (⟨d.plan,d.mode,d.stack,z6.1,d.start,d.at_,d.field,d.wire,d.want,d.utf,d.end_⟩:Dcd) 9 d.at_;let z7:=(⟨d.plan,d.mode,d.stack,(⟨0,0⟩:Scn),a,d.at_,d.field,d.wire,d.want,d.utf,d.end_⟩:Dcd);let z8:=Au (⟨d.plan,d.mode,d.stack,d.scan,a,d.at_,d.field,d.wire,d.want,d.utf,d.end_⟩:Dcd) 1 a;let z9:=(.tup [.agg (.own 2::zi d.plan.root::zi d.plan.deep::zi d.plan.most::zi d.mode:: .own 3:: .int .u64 z6.1.bits::zi z6.1.have_::zi a::z1),vO 4]:S);let z10:List Blk:=[.dead,.dead,.tree z2.plan.shapes,.lst .lev z2.stack,.lst .ev [Av 9 d.at_]];let z11:=([.dead,.dead,.tree d.plan.shapes,.lst .lev d.stack,.lst .ev ([]:List Ev)]:List Blk);let z13:=(.tup [.agg (.own 2::zi d.plan.root::zi d.plan.deep::zi d.plan.most::zi d.mode:: .own 3:: .int .u64 z6.1.bits::zi z6.1.have_::zi d.start::z1),vO 4]:S);let z14:List Blk:=[.dead,.dead,.tree z3.plan.shapes,.lst .lev z3.stack,.lst .ev [Av 9 d.at_]];let z16:List Blk:=[.dead,.dead,.tree z8.plan.shapes,.lst .lev z8.stack,.lst .ev [Av 1 a]];let z17:List Blk:=[.dead,.dead,.tree (Au d 1 a).plan.shapes,.lst .lev (Au d 1 a).stack,.lst .ev [Av 1 a]];let z18:=decide (d.mode=8);let z19:=decide (d.want=0);let z20:=Ac 2 3 z2;let z21:=Ad (Ba ⟨z4,[]⟩ z6.1.bits);let z15:List Blk:=[.dead,.dead,.tree z21.d.plan.shapes,.lst .lev z21.d.stack,.lst .ev z21.out];let z22:=Cj ⟨z7,[]⟩ z6.1.bits;let z23:=Cj ⟨z4,[]⟩ z6.1.bits;let z24:=Cb ⟨z7,[]⟩ z6.1.bits;let z25:=Cb ⟨z4,[]⟩ z6.1.bits;let z28:=D5 ⟨z7,[]⟩ z6.1.bits;let z29:=D5 ⟨z4,[]⟩ z6.1.bits;let z30:=Ac 2 3 z3;let z31:=(.tup [.agg z20,vO 4]:S);let z32:= !decide (d.mode=1);let z33:=decide (Dm d=0);let z36:=decide (z6.2=2);let z37:=decide (z6.2=0);let z38:=decide (d.mode=1);let z39:=Ac 2 3 (Au d 1 a);let z40:=(.tup [.agg z30,vO 4]:S);let z41:=decide (d.mode=2);let z42:=Ac 2 3 z8;let z43:=vI (Dm d);let z44:=decide (d.mode=4);let z45:=Ac 2 3 z21.d;let z46:=J6 z6.1;let z47:=(.tup [.agg z42,vO 4]:S);let z48:=Bf ⟨d,[]⟩ b a;let z5:List Blk:=[.dead,.dead,.tree z48.d.plan.shapes,.lst .lev z48.d.stack,.lst .ev z48.out];let z12:=Ac 2 3 z48.d;let z26:=z19=false→z9= .tup [.agg z12,vO 4]∧z11=z5;let z27:=z18=false→z9= .tup [.agg z12,vO 4]∧z11=z5;let z34:=z19=false→z13= .tup [.agg z12,vO 4]∧z11=z5;let z35:=z18=false→z13= .tup [.agg z12,vO 4]∧z11=z5;let z49:=J6 d.scan;(.br (.br (.seg [.call [] (.tup [.agg z46,vI z6.2]) []] (.br (.seg [.call [0,1] (.tup [.agg z42,vO 4]) z16] (.leaf () [0,1,5,6,7])) (.br (.br (.seg [.call [] (.v z43) []] (.br (.seg [.call [0,1] (.tup [.agg z20,vO 4]) z10] (.leaf () [0,1,5,6,7])) (.br (.br (.seg [.call [0,1] (.tup [.agg z20,vO 4]) z10] (.leaf () [0,1,5,6,7])) (.seg [.ty .ev,.at 0,.cut 3 0,.cut 3 5] (.leaf () [0,1,6,7,5]))) (.seg [.ty .ev,.at 0,.cut 3 0,.cut 3 5] (.leaf () [0,1,6,7,5]))))) (.br (.br (.seg [.call [0,1] (.tup [.agg z20,vO 4]) z10] (.leaf () [0,1,5,6,7])) (.seg [.ty .ev,.at 0,.cut 3 0,.cut 3 5] (.leaf () [0,1,6,7,5]))) (.seg [.ty .ev,.at 0,.cut 3 0,.cut 3 5] (.leaf () [0,1,6,7,5])))) (.seg [.br true,.call [] (.tup [.agg (Ac 0 1 z22.d),vO 2]) [.tree z22.d.plan.shapes,.lst .lev z22.d.stack,.lst .ev z22.out],.at 0,.kill 0,.kill 1] (.leaf () [0,1,5,6,7]))))) (.br (.seg [.call [] (.tup [.agg z46,vI z6.2]) []] (.br (.seg [.call [0,1] (.tup [.agg z42,vO 4]) z16] (.leaf () [0,1,5,6,7])) (.br (.br (.seg [.call [] (.v z43) []] (.br (.seg [.call [0,1] (.tup [.agg z20,vO 4]) z10] (.leaf () [0,1,5,6,7])) (.br (.br (.seg [.call [0,1] (.tup [.agg z20,vO 4]) z10] (.leaf () [0,1,5,6,7])) (.seg [.ty .ev,.at 0,.cut 3 0,.cut 3 5] (.leaf () [0,1,6,7,5]))) (.seg [.ty .ev,.at 0,.cut 3 0,.cut 3 5] (.leaf () [0,1,6,7,5]))))) (.br (.br (.seg [.call [0,1] (.tup [.agg z20,vO 4]) z10] (.leaf () [0,1,5,6,7])) (.seg [.ty .ev,.at 0,.cut 3 0,.cut 3 5] (.leaf () [0,1,6,7,5]))) (.seg [.ty .ev,.at 0,.cut 3 0,.cut 3 5] (.leaf () [0,1,6,7,5])))) (.seg [.br false,.br true,.call [] (.tup [.agg (Ac 0 1 z28.d),vO 2]) [.tree z28.d.plan.shapes,.lst .lev z28.d.stack,.lst .ev z28.out],.at 0,.kill 0,.kill 1] (.leaf () [0,1,5,6,7]))))) (.br (.seg [.call [] (.tup [.agg z46,vI z6.2]) []] (.br (.seg [.call [0,1] (.tup [.agg z42,vO 4]) z16] (.leaf () [0,1,5,6,7])) (.br (.br (.seg [.call [] (.v z43) []] (.br (.seg [.call [0,1] (.tup [.agg z20,vO 4]) z10] (.leaf () [0,1,5,6,7])) (.br (.br (.seg [.call [0,1] (.tup [.agg z20,vO 4]) z10] (.leaf () [0,1,5,6,7])) (.seg [.ty .ev,.at 0,.cut 3 0,.cut 3 5] (.leaf () [0,1,6,7,5]))) (.seg [.ty .ev,.at 0,.cut 3 0,.cut 3 5] (.leaf () [0,1,6,7,5]))))) (.br (.br (.seg [.call [0,1] (.tup [.agg z20,vO 4]) z10] (.leaf () [0,1,5,6,7])) (.seg [.ty .ev,.at 0,.cut 3 0,.cut 3 5] (.leaf () [0,1,6,7,5]))) (.seg [.ty .ev,.at 0,.cut 3 0,.cut 3 5] (.leaf () [0,1,6,7,5])))) (.seg [.br false,.br false,.br true,.call [] (.tup [.agg (Ac 0 1 z24.d),vO 2]) [.tree z24.d.plan.shapes,.lst .lev z24.d.stack,.lst .ev z24.out],.at 0,.kill 0,.kill 1] (.leaf () [0,1,5,6,7]))))) (.seg [.call [] (.tup [.agg z46,vI z6.2]) []] (.br (.seg [.call [0,1] (.tup [.agg z39,vO 4]) z17] (.leaf () [0,1,5,6,7])) (.br (.br (.seg [.call [] (.v z43) []] (.br (.seg [.call [0,1] (.tup [.agg z30,vO 4]) z14] (.leaf () [0,1,5,6,7])) (.br (.br (.seg [.call [0,1] (.tup [.agg z30,vO 4]) z14] (.leaf () [0,1,5,6,7])) (.seg [.ty .ev,.at 0,.cut 3 0,.cut 3 5] (.leaf () [0,1,6,7,5]))) (.seg [.ty .ev,.at 0,.cut 3 0,.cut 3 5] (.leaf () [0,1,6,7,5]))))) (.br (.br (.seg [.call [0,1] (.tup [.agg z30,vO 4]) z14] (.leaf () [0,1,5,6,7])) (.seg [.ty .ev,.at 0,.cut 3 0,.cut 3 5] (.leaf () [0,1,6,7,5]))) (.seg [.ty .ev,.at 0,.cut 3 0,.cut 3 5] (.leaf () [0,1,6,7,5])))) (.seg [.br false,.br false,.br false,.call [0,1] (.tup [.agg z45,vO 4]) z15] (.leaf () [0,1,5,6,7])))))))) (.seg [.call [] (.tup [.agg z46,vI z6.2]) []] (.br (.seg [.call [0,1] (.tup [.agg z39,vO 4]) z17] (.leaf () [0,1,5,6,7])) (.br (.br (.seg [.call [] (.v z43) []] (.br (.seg [.call [0,1] (.tup [.agg z30,vO 4]) z14] (.leaf () [0,1,5,6,7])) (.br (.br (.seg [.call [0,1] (.tup [.agg z30,vO 4]) z14] (.leaf () [0,1,5,6,7])) (.seg [.ty .ev,.at 0,.cut 3 0,.cut 3 5] (.leaf () [0,1,6,7,5]))) (.seg [.ty .ev,.at 0,.cut 3 0,.cut 3 5] (.leaf () [0,1,6,7,5]))))) (.br (.br (.seg [.call [0,1] (.tup [.agg z30,vO 4]) z14] (.leaf () [0,1,5,6,7])) (.seg [.ty .ev,.at 0,.cut 3 0,.cut 3 5] (.leaf () [0,1,6,7,5]))) (.seg [.ty .ev,.at 0,.cut 3 0,.cut 3 5] (.leaf () [0,1,6,7,5])))) (.br (.seg [.call [] (.tup [.agg (Ac 0 1 z23.d),vO 2]) [.tree z23.d.plan.shapes,.lst .lev z23.d.stack,.lst .ev z23.out],.at 0,.kill 0,.kill 1] (.leaf () [0,1,5,6,7])) (.br (.seg [.call [] (.tup [.agg (Ac 0 1 z29.d),vO 2]) [.tree z29.d.plan.shapes,.lst .lev z29.d.stack,.lst .ev z29.out],.at 0,.kill 0,.kill 1] (.leaf () [0,1,5,6,7])) (.br (.seg [.call [] (.tup [.agg (Ac 0 1 z25.d),vO 2]) [.tree z25.d.plan.shapes,.lst .lev z25.d.stack,.lst .ev z25.out],.at 0,.kill 0,.kill 1] (.leaf () [0,1,5,6,7])) (.seg [.call [0,1] (.tup [.agg z45,vO 4]) z15] (.leaf () [0,1,5,6,7])))))))),((decide (d.scan.have_=0))=true→(z38=true→(Fun Tryz.prog 160 [.agg z49,vI b] [] (.tup [.agg z46,vI z6.2]) [])∧(z36=true→(Fun Tryz.prog 109 [.agg (.own 0::zi d.plan.root::zi d.plan.deep::zi d.plan.most::zi d.mode:: .own 1:: .int .u64 d.scan.bits::zi d.scan.have_::zi a::z1),vI 1,vI a] [.tree d.plan.shapes,.lst .lev d.stack] (.tup [.agg z42,vO 4]) z16)∧z47= .tup [.agg z12,vO 4]∧(z16:List Blk)=z5)∧(z36=false→(z37=true→(z32=true→(Fun Tryz.prog 149 [.agg (.seq .shp d.plan.shapes::zi d.plan.root::zi d.plan.deep::zi d.plan.most::zi d.mode:: .seq .lev d.stack:: .int .u64 z6.1.bits::zi z6.1.have_::zi a::z1)] [] (.v z43) [])∧(z33=true→(Fun Tryz.prog 109 [.agg (.own 0::zi d.plan.root::zi d.plan.deep::zi d.plan.most::zi d.mode:: .own 1:: .int .u64 z6.1.bits::zi z6.1.have_::zi a::z1),vI 9,vI d.at_] [.tree d.plan.shapes,.lst .lev d.stack] (.tup [.agg z20,vO 4]) z10)∧z31= .tup [.agg z12,vO 4]∧(z10:List Blk)=z5)∧(z33=false→(z18=true→(z19=true→(Fun Tryz.prog 109 [.agg (.own 0::zi d.plan.root::zi d.plan.deep::zi d.plan.most::zi d.mode:: .own 1:: .int .u64 z6.1.bits::zi z6.1.have_::zi a::z1),vI 9,vI d.at_] [.tree d.plan.shapes,.lst .lev d.stack] (.tup [.agg z20,vO 4]) z10)∧z31= .tup [.agg z12,vO 4]∧(z10:List Blk)=z5)∧z26)∧z27))∧(z32=false→(z18=true→(z19=true→(Fun Tryz.prog 109 [.agg (.own 0::zi d.plan.root::zi d.plan.deep::zi d.plan.most::zi d.mode:: .own 1:: .int .u64 z6.1.bits::zi z6.1.have_::zi a::z1),vI 9,vI d.at_] [.tree d.plan.shapes,.lst .lev d.stack] (.tup [.agg z20,vO 4]) z10)∧z31= .tup [.agg z12,vO 4]∧(z10:List Blk)=z5)∧z26)∧z27))∧(z37=false→(z38=true)∧(Fun Tryz.prog 161 [.agg (.seq .shp d.plan.shapes::zi d.plan.root::zi d.plan.deep::zi d.plan.most::zi d.mode:: .seq .lev d.stack:: .int .u64 0::zi 0::zi a::z1),.c (.int .u64 z6.1.bits)] [] (.tup [.agg (Ac 0 1 z22.d),vO 2]) [.tree z22.d.plan.shapes,.lst .lev z22.d.stack,.lst .ev z22.out])∧(.tup [.agg (Ac 2 3 z22.d),vO 4]:S)= .tup [.agg z12,vO 4]∧([.dead,.dead,.tree z22.d.plan.shapes,.lst .lev z22.d.stack,.lst .ev z22.out]:List Blk)=z5)))∧(z38=false→(z41=true→(Fun Tryz.prog 160 [.agg z49,vI b] [] (.tup [.agg z46,vI z6.2]) [])∧(z36=true→(Fun Tryz.prog 109 [.agg (.own 0::zi d.plan.root::zi d.plan.deep::zi d.plan.most::zi d.mode:: .own 1:: .int .u64 d.scan.bits::zi d.scan.have_::zi a::z1),vI 1,vI a] [.tree d.plan.shapes,.lst .lev d.stack] (.tup [.agg z42,vO 4]) z16)∧z47= .tup [.agg z12,vO 4]∧(z16:List Blk)=z5)∧(z36=false→(z37=true→(z32=true→(Fun Tryz.prog 149 [.agg (.seq .shp d.plan.shapes::zi d.plan.root::zi d.plan.deep::zi d.plan.most::zi d.mode:: .seq .lev d.stack:: .int .u64 z6.1.bits::zi z6.1.have_::zi a::z1)] [] (.v z43) [])∧(z33=true→(Fun Tryz.prog 109 [.agg (.own 0::zi d.plan.root::zi d.plan.deep::zi d.plan.most::zi d.mode:: .own 1:: .int .u64 z6.1.bits::zi z6.1.have_::zi a::z1),vI 9,vI d.at_] [.tree d.plan.shapes,.lst .lev d.stack] (.tup [.agg z20,vO 4]) z10)∧z31= .tup [.agg z12,vO 4]∧(z10:List Blk)=z5)∧(z33=false→(z18=true→(z19=true→(Fun Tryz.prog 109 [.agg (.own 0::zi d.plan.root::zi d.plan.deep::zi d.plan.most::zi d.mode:: .own 1:: .int .u64 z6.1.bits::zi z6.1.have_::zi a::z1),vI 9,vI d.at_] [.tree d.plan.shapes,.lst .lev d.stack] (.tup [.agg z20,vO 4]) z10)∧z31= .tup [.agg z12,vO 4]∧(z10:List Blk)=z5)∧z26)∧z27))∧(z32=false→(z18=true→(z19=true→(Fun Tryz.prog 109 [.agg (.own 0::zi d.plan.root::zi d.plan.deep::zi d.plan.most::zi d.mode:: .own 1:: .int .u64 z6.1.bits::zi z6.1.have_::zi a::z1),vI 9,vI d.at_] [.tree d.plan.shapes,.lst .lev d.stack] (.tup [.agg z20,vO 4]) z10)∧z31= .tup [.agg z12,vO 4]∧(z10:List Blk)=z5)∧z26)∧z27))∧(z37=false→(z38=false)∧(z41=true)∧(Fun Tryz.prog 162 [.agg (.seq .shp d.plan.shapes::zi d.plan.root::zi d.plan.deep::zi d.plan.most::zi d.mode:: .seq .lev d.stack:: .int .u64 0::zi 0::zi a::z1),.c (.int .u64 z6.1.bits)] [] (.tup [.agg (Ac 0 1 z28.d),vO 2]) [.tree z28.d.plan.shapes,.lst .lev z28.d.stack,.lst .ev z28.out])∧(.tup [.agg (Ac 2 3 z28.d),vO 4]:S)= .tup [.agg z12,vO 4]∧([.dead,.dead,.tree z28.d.plan.shapes,.lst .lev z28.d.stack,.lst .ev z28.out]:List Blk)=z5)))∧(z41=false→(z44=true→(Fun Tryz.prog 160 [.agg z49,vI b] [] (.tup [.agg z46,vI z6.2]) [])∧(z36=true→(Fun Tryz.prog 109 [.agg (.own 0::zi d.plan.root::zi d.plan.deep::zi d.plan.most::zi d.mode:: .own 1:: .int .u64 d.scan.bits::zi d.scan.have_::zi a::z1),vI 1,vI a] [.tree d.plan.shapes,.lst .lev d.stack] (.tup [.agg z42,vO 4]) z16)∧z47= .tup [.agg z12,vO 4]∧(z16:List Blk)=z5)∧(z36=false→(z37=true→(z32=true→(Fun Tryz.prog 149 [.agg (.seq .shp d.plan.shapes::zi d.plan.root::zi d.plan.deep::zi d.plan.most::zi d.mode:: .seq .lev d.stack:: .int .u64 z6.1.bits::zi z6.1.have_::zi a::z1)] [] (.v z43) [])∧(z33=true→(Fun Tryz.prog 109 [.agg (.own 0::zi d.plan.root::zi d.plan.deep::zi d.plan.most::zi d.mode:: .own 1:: .int .u64 z6.1.bits::zi z6.1.have_::zi a::z1),vI 9,vI d.at_] [.tree d.plan.shapes,.lst .lev d.stack] (.tup [.agg z20,vO 4]) z10)∧z31= .tup [.agg z12,vO 4]∧(z10:List Blk)=z5)∧(z33=false→(z18=true→(z19=true→(Fun Tryz.prog 109 [.agg (.own 0::zi d.plan.root::zi d.plan.deep::zi d.plan.most::zi d.mode:: .own 1:: .int .u64 z6.1.bits::zi z6.1.have_::zi a::z1),vI 9,vI d.at_] [.tree d.plan.shapes,.lst .lev d.stack] (.tup [.agg z20,vO 4]) z10)∧z31= .tup [.agg z12,vO 4]∧(z10:List Blk)=z5)∧z26)∧z27))∧(z32=false→(z18=true→(z19=true→(Fun Tryz.prog 109 [.agg (.own 0::zi d.plan.root::zi d.plan.deep::zi d.plan.most::zi d.mode:: .own 1:: .int .u64 z6.1.bits::zi z6.1.have_::zi a::z1),vI 9,vI d.at_] [.tree d.plan.shapes,.lst .lev d.stack] (.tup [.agg z20,vO 4]) z10)∧z31= .tup [.agg z12,vO 4]∧(z10:List Blk)=z5)∧z26)∧z27))∧(z37=false→(z38=false)∧(z41=false)∧(z44=true)∧(Fun Tryz.prog 163 [.agg (.seq .shp d.plan.shapes::zi d.plan.root::zi d.plan.deep::zi d.plan.most::zi d.mode:: .seq .lev d.stack:: .int .u64 0::zi 0::zi a::z1),.c (.int .u64 z6.1.bits)] [] (.tup [.agg (Ac 0 1 z24.d),vO 2]) [.tree z24.d.plan.shapes,.lst .lev z24.d.stack,.lst .ev z24.out])∧(.tup [.agg (Ac 2 3 z24.d),vO 4]:S)= .tup [.agg z12,vO 4]∧([.dead,.dead,.tree z24.d.plan.shapes,.lst .lev z24.d.stack,.lst .ev z24.out]:List Blk)=z5)))∧(z44=false→(Fun Tryz.prog 160 [.agg z49,vI b] [] (.tup [.agg z46,vI z6.2]) [])∧(z36=true→(Fun Tryz.prog 109 [.agg (Ac 0 1 d),vI 1,vI a] [.tree d.plan.shapes,.lst .lev d.stack] (.tup [.agg z39,vO 4]) z17)∧(.tup [.agg z39,vO 4]:S)= .tup [.agg z12,vO 4]∧(z17:List Blk)=z5)∧(z36=false→(z37=true→(z32=true→(Fun Tryz.prog 149 [.agg (.seq .shp d.plan.shapes::zi d.plan.root::zi d.plan.deep::zi d.plan.most::zi d.mode:: .seq .lev d.stack:: .int .u64 z6.1.bits::zi z6.1.have_::zi d.start::z1)] [] (.v z43) [])∧(z33=true→(Fun Tryz.prog 109 [.agg (.own 0::zi d.plan.root::zi d.plan.deep::zi d.plan.most::zi d.mode:: .own 1:: .int .u64 z6.1.bits::zi z6.1.have_::zi d.start::z1),vI 9,vI d.at_] [.tree d.plan.shapes,.lst .lev d.stack] (.tup [.agg z30,vO 4]) z14)∧z40= .tup [.agg z12,vO 4]∧(z14:List Blk)=z5)∧(z33=false→(z18=true→(z19=true→(Fun Tryz.prog 109 [.agg (.own 0::zi d.plan.root::zi d.plan.deep::zi d.plan.most::zi d.mode:: .own 1:: .int .u64 z6.1.bits::zi z6.1.have_::zi d.start::z1),vI 9,vI d.at_] [.tree d.plan.shapes,.lst .lev d.stack] (.tup [.agg z30,vO 4]) z14)∧z40= .tup [.agg z12,vO 4]∧(z14:List Blk)=z5)∧z34)∧z35))∧(z32=false→(z18=true→(z19=true→(Fun Tryz.prog 109 [.agg (.own 0::zi d.plan.root::zi d.plan.deep::zi d.plan.most::zi d.mode:: .own 1:: .int .u64 z6.1.bits::zi z6.1.have_::zi d.start::z1),vI 9,vI d.at_] [.tree d.plan.shapes,.lst .lev d.stack] (.tup [.agg z30,vO 4]) z14)∧z40= .tup [.agg z12,vO 4]∧(z14:List Blk)=z5)∧z34)∧z35))∧(z37=false→(z38=false)∧(z41=false)∧(z44=false)∧(Fun Tryz.prog 159 [.agg (.own 0::zi d.plan.root::zi d.plan.deep::zi d.plan.most::zi d.mode:: .own 1:: .int .u64 0::zi 0::zi d.start::z1),.c (.int .u64 z6.1.bits)] [.tree d.plan.shapes,.lst .lev d.stack] (.tup [.agg z45,vO 4]) z15)∧(.tup [.agg z45,vO 4]:S)= .tup [.agg z12,vO 4]∧(z15:List Blk)=z5))))))∧((decide (d.scan.have_=0))=false→(Fun Tryz.prog 160 [.agg z49,vI b] [] (.tup [.agg z46,vI z6.2]) [])∧(z36=true→(Fun Tryz.prog 109 [.agg (Ac 0 1 d),vI 1,vI a] [.tree d.plan.shapes,.lst .lev d.stack] (.tup [.agg z39,vO 4]) z17)∧(.tup [.agg z39,vO 4]:S)= .tup [.agg z12,vO 4]∧(z17:List Blk)=z5)∧(z36=false→(z37=true→(z32=true→(Fun Tryz.prog 149 [.agg (.seq .shp d.plan.shapes::zi d.plan.root::zi d.plan.deep::zi d.plan.most::zi d.mode:: .seq .lev d.stack:: .int .u64 z6.1.bits::zi z6.1.have_::zi d.start::z1)] [] (.v z43) [])∧(z33=true→(Fun Tryz.prog 109 [.agg (.own 0::zi d.plan.root::zi d.plan.deep::zi d.plan.most::zi d.mode:: .own 1:: .int .u64 z6.1.bits::zi z6.1.have_::zi d.start::z1),vI 9,vI d.at_] [.tree d.plan.shapes,.lst .lev d.stack] (.tup [.agg z30,vO 4]) z14)∧z40= .tup [.agg z12,vO 4]∧(z14:List Blk)=z5)∧(z33=false→(z18=true→(z19=true→(Fun Tryz.prog 109 [.agg (.own 0::zi d.plan.root::zi d.plan.deep::zi d.plan.most::zi d.mode:: .own 1:: .int .u64 z6.1.bits::zi z6.1.have_::zi d.start::z1),vI 9,vI d.at_] [.tree d.plan.shapes,.lst .lev d.stack] (.tup [.agg z30,vO 4]) z14)∧z40= .tup [.agg z12,vO 4]∧(z14:List Blk)=z5)∧z34)∧z35))∧(z32=false→(z18=true→(z19=true→(Fun Tryz.prog 109 [.agg (.own 0::zi d.plan.root::zi d.plan.deep::zi d.plan.most::zi d.mode:: .own 1:: .int .u64 z6.1.bits::zi z6.1.have_::zi d.start::z1),vI 9,vI d.at_] [.tree d.plan.shapes,.lst .lev d.stack] (.tup [.agg z30,vO 4]) z14)∧z40= .tup [.agg z12,vO 4]∧(z14:List Blk)=z5)∧z34)∧z35))∧(z37=false→(z38=true→(Fun Tryz.prog 161 [.agg (.seq .shp d.plan.shapes::zi d.plan.root::zi d.plan.deep::zi d.plan.most::zi d.mode:: .seq .lev d.stack:: .int .u64 0::zi 0::zi d.start::z1),.c (.int .u64 z6.1.bits)] [] (.tup [.agg (Ac 0 1 z23.d),vO 2]) [.tree z23.d.plan.shapes,.lst .lev z23.d.stack,.lst .ev z23.out])∧(.tup [.agg (Ac 2 3 z23.d),vO 4]:S)= .tup [.agg z12,vO 4]∧([.dead,.dead,.tree z23.d.plan.shapes,.lst .lev z23.d.stack,.lst .ev z23.out]:List Blk)=z5)∧(z38=false→(z41=true→(Fun Tryz.prog 162 [.agg (.seq .shp d.plan.shapes::zi d.plan.root::zi d.plan.deep::zi d.plan.most::zi d.mode:: .seq .lev d.stack:: .int .u64 0::zi 0::zi d.start::z1),.c (.int .u64 z6.1.bits)] [] (.tup [.agg (Ac 0 1 z29.d),vO 2]) [.tree z29.d.plan.shapes,.lst .lev z29.d.stack,.lst .ev z29.out])∧(.tup [.agg (Ac 2 3 z29.d),vO 4]:S)= .tup [.agg z12,vO 4]∧([.dead,.dead,.tree z29.d.plan.shapes,.lst .lev z29.d.stack,.lst .ev z29.out]:List Blk)=z5)∧(z41=false→(z44=true→(Fun Tryz.prog 163 [.agg (.seq .shp d.plan.shapes::zi d.plan.root::zi d.plan.deep::zi d.plan.most::zi d.mode:: .seq .lev d.stack:: .int .u64 0::zi 0::zi d.start::z1),.c (.int .u64 z6.1.bits)] [] (.tup [.agg (Ac 0 1 z25.d),vO 2]) [.tree z25.d.plan.shapes,.lst .lev z25.d.stack,.lst .ev z25.out])∧(.tup [.agg (Ac 2 3 z25.d),vO 4]:S)= .tup [.agg z12,vO 4]∧([.dead,.dead,.tree z25.d.plan.shapes,.lst .lev z25.d.stack,.lst .ev z25.out]:List Blk)=z5)∧(z44=false→(Fun Tryz.prog 159 [.agg (.own 0::zi d.plan.root::zi d.plan.deep::zi d.plan.most::zi d.mode:: .own 1:: .int .u64 0::zi 0::zi d.start::z1),.c (.int .u64 z6.1.bits)] [.tree d.plan.shapes,.lst .lev d.stack] (.tup [.agg z45,vO 4]) z15)∧(.tup [.agg z45,vO 4]:S)= .tup [.agg z12,vO 4]∧(z15:List Blk)=z5)))))))) (by kernel_rfl) ?_
 refine dsp (fun h1 p1=>?_) fun h1 p1=>?_
 refine dsp (fun h2 p2=>?_) fun h2 p2=>?_
 refine⟨(K9 d.scan _ (by omega)),dsp (fun h3 p3=>?_) fun h3 p3=>?_⟩
 refine⟨(Cn (⟨d.plan,d.mode,d.stack,d.scan,a,d.at_,d.field,d.wire,d.want,d.utf,d.end_⟩:Dcd) _ _),?_⟩
 refine have hm1:(Bf ⟨d,[]⟩ b a).d=(Au (⟨d.plan,d.mode,d.stack,d.scan,a,d.at_,d.field,d.wire,d.want,d.utf,d.end_⟩:Dcd) 1 a):=?_;?_
 rotate_left
 refine have hm2:(Bf ⟨d,[]⟩ b a).out=[Av 1 a]:=?_;?_
 rotate_left
 exact⟨(by rw[hm1]<;>rfl),(by rw[hm1,hm2]<;>rfl)⟩
 refine dsp (fun h4 p4=>?_) fun h4 p4=>?_
 refine⟨fun h5=>have q5:=Am h5;have p5:=of_decide_eq_false q5;?_,fun h5=>have q5:=Aj h5;have p5:=of_decide_eq_true q5;?_⟩
 refine⟨(L8 (⟨d.plan,d.mode,d.stack,(Ae d.scan b).1,a,d.at_,d.field,d.wire,d.want,d.utf,d.end_⟩:Dcd) (by first|omega|rfl|(dsimp only;omega))),dsp (fun h6 p6=>?_) fun h6 p6=>?_⟩
 refine⟨(Cn (⟨d.plan,d.mode,d.stack,(Ae d.scan b).1,a,d.at_,d.field,d.wire,d.want,d.utf,d.end_⟩:Dcd) _ _),?_⟩
 refine have hm1:(Bf ⟨d,[]⟩ b a).d=(Au (⟨d.plan,d.mode,d.stack,(Ae d.scan b).1,a,d.at_,d.field,d.wire,d.want,d.utf,d.end_⟩:Dcd) 9 d.at_):=?_;?_
 rotate_left
 refine have hm2:(Bf ⟨d,[]⟩ b a).out=[Av 9 d.at_]:=?_;?_
 rotate_left
 exact⟨(by rw[hm1]<;>rfl),(by rw[hm1,hm2]<;>rfl)⟩
 refine dsp (fun h7 p7=>?_) fun h7 p7=>?_
 refine dsp (fun h8 p8=>?_) fun h8 p8=>?_
 refine⟨(Cn (⟨d.plan,d.mode,d.stack,(Ae d.scan b).1,a,d.at_,d.field,d.wire,d.want,d.utf,d.end_⟩:Dcd) _ _),?_⟩
 refine have hm1:(Bf ⟨d,[]⟩ b a).d=(Au (⟨d.plan,d.mode,d.stack,(Ae d.scan b).1,a,d.at_,d.field,d.wire,d.want,d.utf,d.end_⟩:Dcd) 9 d.at_):=?_;?_
 rotate_left
 refine have hm2:(Bf ⟨d,[]⟩ b a).out=[Av 9 d.at_]:=?_;?_
 rotate_left
 exact⟨(by rw[hm1]<;>rfl),(by rw[hm1,hm2]<;>rfl)⟩
 refine have hm1:(Bf ⟨d,[]⟩ b a).d=(⟨d.plan,d.mode,d.stack,(Ae d.scan b).1,a,d.at_,d.field,d.wire,d.want,d.utf,d.end_⟩:Dcd):=?_;?_
 rotate_left
 refine have hm2:(Bf ⟨d,[]⟩ b a).out=([]:List Ev):=?_;?_
 rotate_left
 exact⟨(by rw[hm1]<;>rfl),(by rw[hm1,hm2]<;>rfl)⟩
 refine have hm1:(Bf ⟨d,[]⟩ b a).d=(⟨d.plan,d.mode,d.stack,(Ae d.scan b).1,a,d.at_,d.field,d.wire,d.want,d.utf,d.end_⟩:Dcd):=?_;?_
 rotate_left
 refine have hm2:(Bf ⟨d,[]⟩ b a).out=([]:List Ev):=?_;?_
 rotate_left
 exact⟨(by rw[hm1]<;>rfl),(by rw[hm1,hm2]<;>rfl)⟩
 refine dsp (fun h6 p6=>?_) fun h6 p6=>?_
 refine dsp (fun h7 p7=>?_) fun h7 p7=>?_
 refine⟨(Cn (⟨d.plan,d.mode,d.stack,(Ae d.scan b).1,a,d.at_,d.field,d.wire,d.want,d.utf,d.end_⟩:Dcd) _ _),?_⟩
 refine have hm1:(Bf ⟨d,[]⟩ b a).d=(Au (⟨d.plan,d.mode,d.stack,(Ae d.scan b).1,a,d.at_,d.field,d.wire,d.want,d.utf,d.end_⟩:Dcd) 9 d.at_):=?_;?_
 rotate_left
 refine have hm2:(Bf ⟨d,[]⟩ b a).out=[Av 9 d.at_]:=?_;?_
 rotate_left
 exact⟨(by rw[hm1]<;>rfl),(by rw[hm1,hm2]<;>rfl)⟩
 refine have hm1:(Bf ⟨d,[]⟩ b a).d=(⟨d.plan,d.mode,d.stack,(Ae d.scan b).1,a,d.at_,d.field,d.wire,d.want,d.utf,d.end_⟩:Dcd):=?_;?_
 rotate_left
 refine have hm2:(Bf ⟨d,[]⟩ b a).out=([]:List Ev):=?_;?_
 rotate_left
 exact⟨(by rw[hm1]<;>rfl),(by rw[hm1,hm2]<;>rfl)⟩
 refine have hm1:(Bf ⟨d,[]⟩ b a).d=(⟨d.plan,d.mode,d.stack,(Ae d.scan b).1,a,d.at_,d.field,d.wire,d.want,d.utf,d.end_⟩:Dcd):=?_;?_
 rotate_left
 refine have hm2:(Bf ⟨d,[]⟩ b a).out=([]:List Ev):=?_;?_
 rotate_left
 exact⟨(by rw[hm1]<;>rfl),(by rw[hm1,hm2]<;>rfl)⟩
 refine⟨h2,(Aeg (⟨d.plan,d.mode,d.stack,(⟨0,0⟩:Scn),a,d.at_,d.field,d.wire,d.want,d.utf,d.end_⟩:Dcd) _ ((by first|(exact hp1.lv)|(exact Ao hp1.lv rfl rfl))) (by omega)),?_⟩
 refine have hm1:(Bf ⟨d,[]⟩ b a).d=(Cj ⟨(⟨d.plan,d.mode,d.stack,(⟨0,0⟩:Scn),a,d.at_,d.field,d.wire,d.want,d.utf,d.end_⟩:Dcd),[]⟩ (Ae d.scan b).1.bits).d:=?_;?_
 rotate_left
 refine have hm2:(Bf ⟨d,[]⟩ b a).out=(Cj ⟨(⟨d.plan,d.mode,d.stack,(⟨0,0⟩:Scn),a,d.at_,d.field,d.wire,d.want,d.utf,d.end_⟩:Dcd),[]⟩ (Ae d.scan b).1.bits).out:=?_;?_
 rotate_left
 exact⟨(by rw[hm1]<;>rfl),(by rw[hm1,hm2]<;>rfl)⟩
 refine dsp (fun h3 p3=>?_) fun h3 p3=>?_
 refine⟨(K9 d.scan _ (by omega)),dsp (fun h4 p4=>?_) fun h4 p4=>?_⟩
 refine⟨(Cn (⟨d.plan,d.mode,d.stack,d.scan,a,d.at_,d.field,d.wire,d.want,d.utf,d.end_⟩:Dcd) _ _),?_⟩
 refine have hm1:(Bf ⟨d,[]⟩ b a).d=(Au (⟨d.plan,d.mode,d.stack,d.scan,a,d.at_,d.field,d.wire,d.want,d.utf,d.end_⟩:Dcd) 1 a):=?_;?_
 rotate_left
 refine have hm2:(Bf ⟨d,[]⟩ b a).out=[Av 1 a]:=?_;?_
 rotate_left
 exact⟨(by rw[hm1]<;>rfl),(by rw[hm1,hm2]<;>rfl)⟩
 refine dsp (fun h5 p5=>?_) fun h5 p5=>?_
 refine⟨fun h6=>have q6:=Am h6;have p6:=of_decide_eq_false q6;?_,fun h6=>have q6:=Aj h6;have p6:=of_decide_eq_true q6;?_⟩
 refine⟨(L8 (⟨d.plan,d.mode,d.stack,(Ae d.scan b).1,a,d.at_,d.field,d.wire,d.want,d.utf,d.end_⟩:Dcd) (by first|omega|rfl|(dsimp only;omega))),dsp (fun h7 p7=>?_) fun h7 p7=>?_⟩
 refine⟨(Cn (⟨d.plan,d.mode,d.stack,(Ae d.scan b).1,a,d.at_,d.field,d.wire,d.want,d.utf,d.end_⟩:Dcd) _ _),?_⟩
 refine have hm1:(Bf ⟨d,[]⟩ b a).d=(Au (⟨d.plan,d.mode,d.stack,(Ae d.scan b).1,a,d.at_,d.field,d.wire,d.want,d.utf,d.end_⟩:Dcd) 9 d.at_):=?_;?_
 rotate_left
 refine have hm2:(Bf ⟨d,[]⟩ b a).out=[Av 9 d.at_]:=?_;?_
 rotate_left
 exact⟨(by rw[hm1]<;>rfl),(by rw[hm1,hm2]<;>rfl)⟩
 refine dsp (fun h8 p8=>?_) fun h8 p8=>?_
 refine dsp (fun h9 p9=>?_) fun h9 p9=>?_
 refine⟨(Cn (⟨d.plan,d.mode,d.stack,(Ae d.scan b).1,a,d.at_,d.field,d.wire,d.want,d.utf,d.end_⟩:Dcd) _ _),?_⟩
 refine have hm1:(Bf ⟨d,[]⟩ b a).d=(Au (⟨d.plan,d.mode,d.stack,(Ae d.scan b).1,a,d.at_,d.field,d.wire,d.want,d.utf,d.end_⟩:Dcd) 9 d.at_):=?_;?_
 rotate_left
 refine have hm2:(Bf ⟨d,[]⟩ b a).out=[Av 9 d.at_]:=?_;?_
 rotate_left
 exact⟨(by rw[hm1]<;>rfl),(by rw[hm1,hm2]<;>rfl)⟩
 refine have hm1:(Bf ⟨d,[]⟩ b a).d=(⟨d.plan,d.mode,d.stack,(Ae d.scan b).1,a,d.at_,d.field,d.wire,d.want,d.utf,d.end_⟩:Dcd):=?_;?_
 rotate_left
 refine have hm2:(Bf ⟨d,[]⟩ b a).out=([]:List Ev):=?_;?_
 rotate_left
 exact⟨(by rw[hm1]<;>rfl),(by rw[hm1,hm2]<;>rfl)⟩
 refine have hm1:(Bf ⟨d,[]⟩ b a).d=(⟨d.plan,d.mode,d.stack,(Ae d.scan b).1,a,d.at_,d.field,d.wire,d.want,d.utf,d.end_⟩:Dcd):=?_;?_
 rotate_left
 refine have hm2:(Bf ⟨d,[]⟩ b a).out=([]:List Ev):=?_;?_
 rotate_left
 exact⟨(by rw[hm1]<;>rfl),(by rw[hm1,hm2]<;>rfl)⟩
 refine dsp (fun h7 p7=>?_) fun h7 p7=>?_
 refine dsp (fun h8 p8=>?_) fun h8 p8=>?_
 refine⟨(Cn (⟨d.plan,d.mode,d.stack,(Ae d.scan b).1,a,d.at_,d.field,d.wire,d.want,d.utf,d.end_⟩:Dcd) _ _),?_⟩
 refine have hm1:(Bf ⟨d,[]⟩ b a).d=(Au (⟨d.plan,d.mode,d.stack,(Ae d.scan b).1,a,d.at_,d.field,d.wire,d.want,d.utf,d.end_⟩:Dcd) 9 d.at_):=?_;?_
 rotate_left
 refine have hm2:(Bf ⟨d,[]⟩ b a).out=[Av 9 d.at_]:=?_;?_
 rotate_left
 exact⟨(by rw[hm1]<;>rfl),(by rw[hm1,hm2]<;>rfl)⟩
 refine have hm1:(Bf ⟨d,[]⟩ b a).d=(⟨d.plan,d.mode,d.stack,(Ae d.scan b).1,a,d.at_,d.field,d.wire,d.want,d.utf,d.end_⟩:Dcd):=?_;?_
 rotate_left
 refine have hm2:(Bf ⟨d,[]⟩ b a).out=([]:List Ev):=?_;?_
 rotate_left
 exact⟨(by rw[hm1]<;>rfl),(by rw[hm1,hm2]<;>rfl)⟩
 refine have hm1:(Bf ⟨d,[]⟩ b a).d=(⟨d.plan,d.mode,d.stack,(Ae d.scan b).1,a,d.at_,d.field,d.wire,d.want,d.utf,d.end_⟩:Dcd):=?_;?_
 rotate_left
 refine have hm2:(Bf ⟨d,[]⟩ b a).out=([]:List Ev):=?_;?_
 rotate_left
 exact⟨(by rw[hm1]<;>rfl),(by rw[hm1,hm2]<;>rfl)⟩
 refine⟨h2,h3,(Ai6 (⟨d.plan,d.mode,d.stack,(⟨0,0⟩:Scn),a,d.at_,d.field,d.wire,d.want,d.utf,d.end_⟩:Dcd) _ ((by first|(exact hp1.lv)|(exact Ao hp1.lv rfl rfl))) (by omega)),?_⟩
 refine have hm1:(Bf ⟨d,[]⟩ b a).d=(D5 ⟨(⟨d.plan,d.mode,d.stack,(⟨0,0⟩:Scn),a,d.at_,d.field,d.wire,d.want,d.utf,d.end_⟩:Dcd),[]⟩ (Ae d.scan b).1.bits).d:=?_;?_
 rotate_left
 refine have hm2:(Bf ⟨d,[]⟩ b a).out=(D5 ⟨(⟨d.plan,d.mode,d.stack,(⟨0,0⟩:Scn),a,d.at_,d.field,d.wire,d.want,d.utf,d.end_⟩:Dcd),[]⟩ (Ae d.scan b).1.bits).out:=?_;?_
 rotate_left
 exact⟨(by rw[hm1]<;>rfl),(by rw[hm1,hm2]<;>rfl)⟩
 refine dsp (fun h4 p4=>?_) fun h4 p4=>?_
 refine⟨(K9 d.scan _ (by omega)),dsp (fun h5 p5=>?_) fun h5 p5=>?_⟩
 refine⟨(Cn (⟨d.plan,d.mode,d.stack,d.scan,a,d.at_,d.field,d.wire,d.want,d.utf,d.end_⟩:Dcd) _ _),?_⟩
 refine have hm1:(Bf ⟨d,[]⟩ b a).d=(Au (⟨d.plan,d.mode,d.stack,d.scan,a,d.at_,d.field,d.wire,d.want,d.utf,d.end_⟩:Dcd) 1 a):=?_;?_
 rotate_left
 refine have hm2:(Bf ⟨d,[]⟩ b a).out=[Av 1 a]:=?_;?_
 rotate_left
 exact⟨(by rw[hm1]<;>rfl),(by rw[hm1,hm2]<;>rfl)⟩
 refine dsp (fun h6 p6=>?_) fun h6 p6=>?_
 refine⟨fun h7=>have q7:=Am h7;have p7:=of_decide_eq_false q7;?_,fun h7=>have q7:=Aj h7;have p7:=of_decide_eq_true q7;?_⟩
 refine⟨(L8 (⟨d.plan,d.mode,d.stack,(Ae d.scan b).1,a,d.at_,d.field,d.wire,d.want,d.utf,d.end_⟩:Dcd) (by first|omega|rfl|(dsimp only;omega))),dsp (fun h8 p8=>?_) fun h8 p8=>?_⟩
 refine⟨(Cn (⟨d.plan,d.mode,d.stack,(Ae d.scan b).1,a,d.at_,d.field,d.wire,d.want,d.utf,d.end_⟩:Dcd) _ _),?_⟩
 refine have hm1:(Bf ⟨d,[]⟩ b a).d=(Au (⟨d.plan,d.mode,d.stack,(Ae d.scan b).1,a,d.at_,d.field,d.wire,d.want,d.utf,d.end_⟩:Dcd) 9 d.at_):=?_;?_
 rotate_left
 refine have hm2:(Bf ⟨d,[]⟩ b a).out=[Av 9 d.at_]:=?_;?_
 rotate_left
 exact⟨(by rw[hm1]<;>rfl),(by rw[hm1,hm2]<;>rfl)⟩
 refine dsp (fun h9 p9=>?_) fun h9 p9=>?_
 refine dsp (fun h10 p10=>?_) fun h10 p10=>?_
 refine⟨(Cn (⟨d.plan,d.mode,d.stack,(Ae d.scan b).1,a,d.at_,d.field,d.wire,d.want,d.utf,d.end_⟩:Dcd) _ _),?_⟩
 refine have hm1:(Bf ⟨d,[]⟩ b a).d=(Au (⟨d.plan,d.mode,d.stack,(Ae d.scan b).1,a,d.at_,d.field,d.wire,d.want,d.utf,d.end_⟩:Dcd) 9 d.at_):=?_;?_
 rotate_left
 refine have hm2:(Bf ⟨d,[]⟩ b a).out=[Av 9 d.at_]:=?_;?_
 rotate_left
 exact⟨(by rw[hm1]<;>rfl),(by rw[hm1,hm2]<;>rfl)⟩
 refine have hm1:(Bf ⟨d,[]⟩ b a).d=(⟨d.plan,d.mode,d.stack,(Ae d.scan b).1,a,d.at_,d.field,d.wire,d.want,d.utf,d.end_⟩:Dcd):=?_;?_
 rotate_left
 refine have hm2:(Bf ⟨d,[]⟩ b a).out=([]:List Ev):=?_;?_
 rotate_left
 exact⟨(by rw[hm1]<;>rfl),(by rw[hm1,hm2]<;>rfl)⟩
 refine have hm1:(Bf ⟨d,[]⟩ b a).d=(⟨d.plan,d.mode,d.stack,(Ae d.scan b).1,a,d.at_,d.field,d.wire,d.want,d.utf,d.end_⟩:Dcd):=?_;?_
 rotate_left
 refine have hm2:(Bf ⟨d,[]⟩ b a).out=([]:List Ev):=?_;?_
 rotate_left
 exact⟨(by rw[hm1]<;>rfl),(by rw[hm1,hm2]<;>rfl)⟩
 refine dsp (fun h8 p8=>?_) fun h8 p8=>?_
 refine dsp (fun h9 p9=>?_) fun h9 p9=>?_
 refine⟨(Cn (⟨d.plan,d.mode,d.stack,(Ae d.scan b).1,a,d.at_,d.field,d.wire,d.want,d.utf,d.end_⟩:Dcd) _ _),?_⟩
 refine have hm1:(Bf ⟨d,[]⟩ b a).d=(Au (⟨d.plan,d.mode,d.stack,(Ae d.scan b).1,a,d.at_,d.field,d.wire,d.want,d.utf,d.end_⟩:Dcd) 9 d.at_):=?_;?_
 rotate_left
 refine have hm2:(Bf ⟨d,[]⟩ b a).out=[Av 9 d.at_]:=?_;?_
 rotate_left
 exact⟨(by rw[hm1]<;>rfl),(by rw[hm1,hm2]<;>rfl)⟩
 refine have hm1:(Bf ⟨d,[]⟩ b a).d=(⟨d.plan,d.mode,d.stack,(Ae d.scan b).1,a,d.at_,d.field,d.wire,d.want,d.utf,d.end_⟩:Dcd):=?_;?_
 rotate_left
 refine have hm2:(Bf ⟨d,[]⟩ b a).out=([]:List Ev):=?_;?_
 rotate_left
 exact⟨(by rw[hm1]<;>rfl),(by rw[hm1,hm2]<;>rfl)⟩
 refine have hm1:(Bf ⟨d,[]⟩ b a).d=(⟨d.plan,d.mode,d.stack,(Ae d.scan b).1,a,d.at_,d.field,d.wire,d.want,d.utf,d.end_⟩:Dcd):=?_;?_
 rotate_left
 refine have hm2:(Bf ⟨d,[]⟩ b a).out=([]:List Ev):=?_;?_
 rotate_left
 exact⟨(by rw[hm1]<;>rfl),(by rw[hm1,hm2]<;>rfl)⟩
 refine⟨h2,h3,h4,(Ag6 (⟨d.plan,d.mode,d.stack,(⟨0,0⟩:Scn),a,d.at_,d.field,d.wire,d.want,d.utf,d.end_⟩:Dcd) _ ((by first|(exact hp1.lv)|(exact Ao hp1.lv rfl rfl))) (by omega) (hp1.kn)),?_⟩
 refine have hm1:(Bf ⟨d,[]⟩ b a).d=(Cb ⟨(⟨d.plan,d.mode,d.stack,(⟨0,0⟩:Scn),a,d.at_,d.field,d.wire,d.want,d.utf,d.end_⟩:Dcd),[]⟩ (Ae d.scan b).1.bits).d:=?_;?_
 rotate_left
 refine have hm2:(Bf ⟨d,[]⟩ b a).out=(Cb ⟨(⟨d.plan,d.mode,d.stack,(⟨0,0⟩:Scn),a,d.at_,d.field,d.wire,d.want,d.utf,d.end_⟩:Dcd),[]⟩ (Ae d.scan b).1.bits).out:=?_;?_
 rotate_left
 exact⟨(by rw[hm1]<;>rfl),(by rw[hm1,hm2]<;>rfl)⟩
 refine⟨(K9 d.scan _ (by omega)),dsp (fun h5 p5=>?_) fun h5 p5=>?_⟩
 refine⟨(Cn d _ _),?_⟩
 refine have hm1:(Bf ⟨d,[]⟩ b a).d=(Au d 1 a):=?_;?_
 rotate_left
 refine have hm2:(Bf ⟨d,[]⟩ b a).out=[Av 1 a]:=?_;?_
 rotate_left
 exact⟨(by rw[hm1]<;>rfl),(by rw[hm1,hm2]<;>rfl)⟩
 refine dsp (fun h6 p6=>?_) fun h6 p6=>?_
 refine⟨fun h7=>have q7:=Am h7;have p7:=of_decide_eq_false q7;?_,fun h7=>have q7:=Aj h7;have p7:=of_decide_eq_true q7;?_⟩
 refine⟨(L8 (⟨d.plan,d.mode,d.stack,(Ae d.scan b).1,d.start,d.at_,d.field,d.wire,d.want,d.utf,d.end_⟩:Dcd) (by first|omega|rfl|(dsimp only;omega))),dsp (fun h8 p8=>?_) fun h8 p8=>?_⟩
 refine⟨(Cn (⟨d.plan,d.mode,d.stack,(Ae d.scan b).1,d.start,d.at_,d.field,d.wire,d.want,d.utf,d.end_⟩:Dcd) _ _),?_⟩
 refine have hm1:(Bf ⟨d,[]⟩ b a).d=(Au (⟨d.plan,d.mode,d.stack,(Ae d.scan b).1,d.start,d.at_,d.field,d.wire,d.want,d.utf,d.end_⟩:Dcd) 9 d.at_):=?_;?_
 rotate_left
 refine have hm2:(Bf ⟨d,[]⟩ b a).out=[Av 9 d.at_]:=?_;?_
 rotate_left
 exact⟨(by rw[hm1]<;>rfl),(by rw[hm1,hm2]<;>rfl)⟩
 refine dsp (fun h9 p9=>?_) fun h9 p9=>?_
 refine dsp (fun h10 p10=>?_) fun h10 p10=>?_
 refine⟨(Cn (⟨d.plan,d.mode,d.stack,(Ae d.scan b).1,d.start,d.at_,d.field,d.wire,d.want,d.utf,d.end_⟩:Dcd) _ _),?_⟩
 refine have hm1:(Bf ⟨d,[]⟩ b a).d=(Au (⟨d.plan,d.mode,d.stack,(Ae d.scan b).1,d.start,d.at_,d.field,d.wire,d.want,d.utf,d.end_⟩:Dcd) 9 d.at_):=?_;?_
 rotate_left
 refine have hm2:(Bf ⟨d,[]⟩ b a).out=[Av 9 d.at_]:=?_;?_
 rotate_left
 exact⟨(by rw[hm1]<;>rfl),(by rw[hm1,hm2]<;>rfl)⟩
 refine have hm1:(Bf ⟨d,[]⟩ b a).d=(⟨d.plan,d.mode,d.stack,(Ae d.scan b).1,d.start,d.at_,d.field,d.wire,d.want,d.utf,d.end_⟩:Dcd):=?_;?_
 rotate_left
 refine have hm2:(Bf ⟨d,[]⟩ b a).out=([]:List Ev):=?_;?_
 rotate_left
 exact⟨(by rw[hm1]<;>rfl),(by rw[hm1,hm2]<;>rfl)⟩
 refine have hm1:(Bf ⟨d,[]⟩ b a).d=(⟨d.plan,d.mode,d.stack,(Ae d.scan b).1,d.start,d.at_,d.field,d.wire,d.want,d.utf,d.end_⟩:Dcd):=?_;?_
 rotate_left
 refine have hm2:(Bf ⟨d,[]⟩ b a).out=([]:List Ev):=?_;?_
 rotate_left
 exact⟨(by rw[hm1]<;>rfl),(by rw[hm1,hm2]<;>rfl)⟩
 refine dsp (fun h8 p8=>?_) fun h8 p8=>?_
 refine dsp (fun h9 p9=>?_) fun h9 p9=>?_
 refine⟨(Cn (⟨d.plan,d.mode,d.stack,(Ae d.scan b).1,d.start,d.at_,d.field,d.wire,d.want,d.utf,d.end_⟩:Dcd) _ _),?_⟩
 refine have hm1:(Bf ⟨d,[]⟩ b a).d=(Au (⟨d.plan,d.mode,d.stack,(Ae d.scan b).1,d.start,d.at_,d.field,d.wire,d.want,d.utf,d.end_⟩:Dcd) 9 d.at_):=?_;?_
 rotate_left
 refine have hm2:(Bf ⟨d,[]⟩ b a).out=[Av 9 d.at_]:=?_;?_
 rotate_left
 exact⟨(by rw[hm1]<;>rfl),(by rw[hm1,hm2]<;>rfl)⟩
 refine have hm1:(Bf ⟨d,[]⟩ b a).d=(⟨d.plan,d.mode,d.stack,(Ae d.scan b).1,d.start,d.at_,d.field,d.wire,d.want,d.utf,d.end_⟩:Dcd):=?_;?_
 rotate_left
 refine have hm2:(Bf ⟨d,[]⟩ b a).out=([]:List Ev):=?_;?_
 rotate_left
 exact⟨(by rw[hm1]<;>rfl),(by rw[hm1,hm2]<;>rfl)⟩
 refine have hm1:(Bf ⟨d,[]⟩ b a).d=(⟨d.plan,d.mode,d.stack,(Ae d.scan b).1,d.start,d.at_,d.field,d.wire,d.want,d.utf,d.end_⟩:Dcd):=?_;?_
 rotate_left
 refine have hm2:(Bf ⟨d,[]⟩ b a).out=([]:List Ev):=?_;?_
 rotate_left
 exact⟨(by rw[hm1]<;>rfl),(by rw[hm1,hm2]<;>rfl)⟩
 refine⟨h2,h3,h4,(Ti (⟨d.plan,d.mode,d.stack,(⟨0,0⟩:Scn),d.start,d.at_,d.field,d.wire,d.want,d.utf,d.end_⟩:Dcd) _ (by first|omega|rfl|(dsimp only;omega)) (by omega)),?_⟩
 refine have hm1:(Bf ⟨d,[]⟩ b a).d=(Ad (Ba ⟨(⟨d.plan,d.mode,d.stack,(⟨0,0⟩:Scn),d.start,d.at_,d.field,d.wire,d.want,d.utf,d.end_⟩:Dcd),[]⟩ (Ae d.scan b).1.bits)).d:=?_;?_
 rotate_left
 refine have hm2:(Bf ⟨d,[]⟩ b a).out=(Ad (Ba ⟨(⟨d.plan,d.mode,d.stack,(⟨0,0⟩:Scn),d.start,d.at_,d.field,d.wire,d.want,d.utf,d.end_⟩:Dcd),[]⟩ (Ae d.scan b).1.bits)).out:=?_;?_
 rotate_left
 exact⟨(by rw[hm1]<;>rfl),(by rw[hm1,hm2]<;>rfl)⟩
 refine⟨(K9 d.scan _ (by omega)),dsp (fun h2 p2=>?_) fun h2 p2=>?_⟩
 refine⟨(Cn d _ _),?_⟩
 refine have hm1:(Bf ⟨d,[]⟩ b a).d=(Au d 1 a):=?_;?_
 rotate_left
 refine have hm2:(Bf ⟨d,[]⟩ b a).out=[Av 1 a]:=?_;?_
 rotate_left
 exact⟨(by rw[hm1]<;>rfl),(by rw[hm1,hm2]<;>rfl)⟩
 refine dsp (fun h3 p3=>?_) fun h3 p3=>?_
 refine⟨fun h4=>have q4:=Am h4;have p4:=of_decide_eq_false q4;?_,fun h4=>have q4:=Aj h4;have p4:=of_decide_eq_true q4;?_⟩
 refine⟨(L8 (⟨d.plan,d.mode,d.stack,(Ae d.scan b).1,d.start,d.at_,d.field,d.wire,d.want,d.utf,d.end_⟩:Dcd) (by first|omega|rfl|(dsimp only;omega))),dsp (fun h5 p5=>?_) fun h5 p5=>?_⟩
 refine⟨(Cn (⟨d.plan,d.mode,d.stack,(Ae d.scan b).1,d.start,d.at_,d.field,d.wire,d.want,d.utf,d.end_⟩:Dcd) _ _),?_⟩
 refine have hm1:(Bf ⟨d,[]⟩ b a).d=(Au (⟨d.plan,d.mode,d.stack,(Ae d.scan b).1,d.start,d.at_,d.field,d.wire,d.want,d.utf,d.end_⟩:Dcd) 9 d.at_):=?_;?_
 rotate_left
 refine have hm2:(Bf ⟨d,[]⟩ b a).out=[Av 9 d.at_]:=?_;?_
 rotate_left
 exact⟨(by rw[hm1]<;>rfl),(by rw[hm1,hm2]<;>rfl)⟩
 refine dsp (fun h6 p6=>?_) fun h6 p6=>?_
 refine dsp (fun h7 p7=>?_) fun h7 p7=>?_
 refine⟨(Cn (⟨d.plan,d.mode,d.stack,(Ae d.scan b).1,d.start,d.at_,d.field,d.wire,d.want,d.utf,d.end_⟩:Dcd) _ _),?_⟩
 refine have hm1:(Bf ⟨d,[]⟩ b a).d=(Au (⟨d.plan,d.mode,d.stack,(Ae d.scan b).1,d.start,d.at_,d.field,d.wire,d.want,d.utf,d.end_⟩:Dcd) 9 d.at_):=?_;?_
 rotate_left
 refine have hm2:(Bf ⟨d,[]⟩ b a).out=[Av 9 d.at_]:=?_;?_
 rotate_left
 exact⟨(by rw[hm1]<;>rfl),(by rw[hm1,hm2]<;>rfl)⟩
 refine have hm1:(Bf ⟨d,[]⟩ b a).d=(⟨d.plan,d.mode,d.stack,(Ae d.scan b).1,d.start,d.at_,d.field,d.wire,d.want,d.utf,d.end_⟩:Dcd):=?_;?_
 rotate_left
 refine have hm2:(Bf ⟨d,[]⟩ b a).out=([]:List Ev):=?_;?_
 rotate_left
 exact⟨(by rw[hm1]<;>rfl),(by rw[hm1,hm2]<;>rfl)⟩
 refine have hm1:(Bf ⟨d,[]⟩ b a).d=(⟨d.plan,d.mode,d.stack,(Ae d.scan b).1,d.start,d.at_,d.field,d.wire,d.want,d.utf,d.end_⟩:Dcd):=?_;?_
 rotate_left
 refine have hm2:(Bf ⟨d,[]⟩ b a).out=([]:List Ev):=?_;?_
 rotate_left
 exact⟨(by rw[hm1]<;>rfl),(by rw[hm1,hm2]<;>rfl)⟩
 refine dsp (fun h5 p5=>?_) fun h5 p5=>?_
 refine dsp (fun h6 p6=>?_) fun h6 p6=>?_
 refine⟨(Cn (⟨d.plan,d.mode,d.stack,(Ae d.scan b).1,d.start,d.at_,d.field,d.wire,d.want,d.utf,d.end_⟩:Dcd) _ _),?_⟩
 refine have hm1:(Bf ⟨d,[]⟩ b a).d=(Au (⟨d.plan,d.mode,d.stack,(Ae d.scan b).1,d.start,d.at_,d.field,d.wire,d.want,d.utf,d.end_⟩:Dcd) 9 d.at_):=?_;?_
 rotate_left
 refine have hm2:(Bf ⟨d,[]⟩ b a).out=[Av 9 d.at_]:=?_;?_
 rotate_left
 exact⟨(by rw[hm1]<;>rfl),(by rw[hm1,hm2]<;>rfl)⟩
 refine have hm1:(Bf ⟨d,[]⟩ b a).d=(⟨d.plan,d.mode,d.stack,(Ae d.scan b).1,d.start,d.at_,d.field,d.wire,d.want,d.utf,d.end_⟩:Dcd):=?_;?_
 rotate_left
 refine have hm2:(Bf ⟨d,[]⟩ b a).out=([]:List Ev):=?_;?_
 rotate_left
 exact⟨(by rw[hm1]<;>rfl),(by rw[hm1,hm2]<;>rfl)⟩
 refine have hm1:(Bf ⟨d,[]⟩ b a).d=(⟨d.plan,d.mode,d.stack,(Ae d.scan b).1,d.start,d.at_,d.field,d.wire,d.want,d.utf,d.end_⟩:Dcd):=?_;?_
 rotate_left
 refine have hm2:(Bf ⟨d,[]⟩ b a).out=([]:List Ev):=?_;?_
 rotate_left
 exact⟨(by rw[hm1]<;>rfl),(by rw[hm1,hm2]<;>rfl)⟩
 refine dsp (fun h4 p4=>?_) fun h4 p4=>?_
 refine⟨(Aeg (⟨d.plan,d.mode,d.stack,(⟨0,0⟩:Scn),d.start,d.at_,d.field,d.wire,d.want,d.utf,d.end_⟩:Dcd) _ ((by first|(exact hp1.lv)|(exact Ao hp1.lv rfl rfl))) (by omega)),?_⟩
 refine have hm1:(Bf ⟨d,[]⟩ b a).d=(Cj ⟨(⟨d.plan,d.mode,d.stack,(⟨0,0⟩:Scn),d.start,d.at_,d.field,d.wire,d.want,d.utf,d.end_⟩:Dcd),[]⟩ (Ae d.scan b).1.bits).d:=?_;?_
 rotate_left
 refine have hm2:(Bf ⟨d,[]⟩ b a).out=(Cj ⟨(⟨d.plan,d.mode,d.stack,(⟨0,0⟩:Scn),d.start,d.at_,d.field,d.wire,d.want,d.utf,d.end_⟩:Dcd),[]⟩ (Ae d.scan b).1.bits).out:=?_;?_
 rotate_left
 exact⟨(by rw[hm1]<;>rfl),(by rw[hm1,hm2]<;>rfl)⟩
 refine dsp (fun h5 p5=>?_) fun h5 p5=>?_
 refine⟨(Ai6 (⟨d.plan,d.mode,d.stack,(⟨0,0⟩:Scn),d.start,d.at_,d.field,d.wire,d.want,d.utf,d.end_⟩:Dcd) _ ((by first|(exact hp1.lv)|(exact Ao hp1.lv rfl rfl))) (by omega)),?_⟩
 refine have hm1:(Bf ⟨d,[]⟩ b a).d=(D5 ⟨(⟨d.plan,d.mode,d.stack,(⟨0,0⟩:Scn),d.start,d.at_,d.field,d.wire,d.want,d.utf,d.end_⟩:Dcd),[]⟩ (Ae d.scan b).1.bits).d:=?_;?_
 rotate_left
 refine have hm2:(Bf ⟨d,[]⟩ b a).out=(D5 ⟨(⟨d.plan,d.mode,d.stack,(⟨0,0⟩:Scn),d.start,d.at_,d.field,d.wire,d.want,d.utf,d.end_⟩:Dcd),[]⟩ (Ae d.scan b).1.bits).out:=?_;?_
 rotate_left
 exact⟨(by rw[hm1]<;>rfl),(by rw[hm1,hm2]<;>rfl)⟩
 refine dsp (fun h6 p6=>?_) fun h6 p6=>?_
 refine⟨(Ag6 (⟨d.plan,d.mode,d.stack,(⟨0,0⟩:Scn),d.start,d.at_,d.field,d.wire,d.want,d.utf,d.end_⟩:Dcd) _ ((by first|(exact hp1.lv)|(exact Ao hp1.lv rfl rfl))) (by omega) (hp1.kn)),?_⟩
 refine have hm1:(Bf ⟨d,[]⟩ b a).d=(Cb ⟨(⟨d.plan,d.mode,d.stack,(⟨0,0⟩:Scn),d.start,d.at_,d.field,d.wire,d.want,d.utf,d.end_⟩:Dcd),[]⟩ (Ae d.scan b).1.bits).d:=?_;?_
 rotate_left
 refine have hm2:(Bf ⟨d,[]⟩ b a).out=(Cb ⟨(⟨d.plan,d.mode,d.stack,(⟨0,0⟩:Scn),d.start,d.at_,d.field,d.wire,d.want,d.utf,d.end_⟩:Dcd),[]⟩ (Ae d.scan b).1.bits).out:=?_;?_
 rotate_left
 exact⟨(by rw[hm1]<;>rfl),(by rw[hm1,hm2]<;>rfl)⟩
 refine⟨(Ti (⟨d.plan,d.mode,d.stack,(⟨0,0⟩:Scn),d.start,d.at_,d.field,d.wire,d.want,d.utf,d.end_⟩:Dcd) _ (by first|omega|rfl|(dsimp only;omega)) (by omega)),?_⟩
 refine have hm1:(Bf ⟨d,[]⟩ b a).d=(Ad (Ba ⟨(⟨d.plan,d.mode,d.stack,(⟨0,0⟩:Scn),d.start,d.at_,d.field,d.wire,d.want,d.utf,d.end_⟩:Dcd),[]⟩ (Ae d.scan b).1.bits)).d:=?_;?_
 rotate_left
 refine have hm2:(Bf ⟨d,[]⟩ b a).out=(Ad (Ba ⟨(⟨d.plan,d.mode,d.stack,(⟨0,0⟩:Scn),d.start,d.at_,d.field,d.wire,d.want,d.utf,d.end_⟩:Dcd),[]⟩ (Ae d.scan b).1.bits)).out:=?_;?_
 rotate_left
 exact⟨(by rw[hm1]<;>rfl),(by rw[hm1,hm2]<;>rfl)⟩
 all_goals first|(simp_all[Bf,K0,Hq,T0,As,Au,scn0];done)|((unfold Bf;simp_all[K0,Hq,T0,As,Au,scn0];done))|(grind[Bf,K0,Hq,T0,As,Au,scn0])
set_option maxHeartbeats 1600000 in
theorem V9 (d:Dcd) (b:Int) (w:Int) (hp1:MW d) (hp2:(0:Int)≤b∧b≤255) (hp3:w=Bd d) (hp4:(d).mode=8→Q9 (d).field=true):Fun Tryz.prog 111 [.agg (Ac 0 1 d),vI b,vI w] [.tree d.plan.shapes,.lst .lev d.stack] (.tup [.agg (Ac 2 3 (C8 ⟨d,[]⟩ b).d),vO 4]) [.dead,.dead,.tree (C8 ⟨d,[]⟩ b).d.plan.shapes,.lst .lev (C8 ⟨d,[]⟩ b).d.stack,.lst .ev (C8 ⟨d,[]⟩ b).out]:=by
 have hN:bigN=274877906944:=rfl
 have hlv:=Bs hp1.lv
 have hpt:=By hlv.1
 have htb:=Gm hp1.lv
 have hbb:=hp1.b0
 have hat:=hp1.at_
 have hwt:=hp1.want
 have hwd:=Jf d
 have hfb:=W9 (b:=b) hbb
 refine Af Tryz.func111 (by kernel_rfl) (by kernel_rfl) (w:=let zi:Int→C:= .int .i64;let z1:List C:=[zi d.start,zi d.at_,zi d.field.number,zi d.field.kind,.bool d.field.rep,.bool d.field.packed,zi d.field.msg,zi d.wire,zi d.want,zi d.utf.want,zi d.utf.low,zi d.utf.high,zi d.end_.kind,zi d.end_.field,.int .u64 d.end_.bits,zi d.end_.len,.str d.end_.text,zi d.end_.code,zi d.end_.at_];let z6:=Bk d.scan b;let z9:=(⟨d.plan,d.mode,d.stack,(⟨0,0⟩:Scn),d.start,d.at_,d.field,d.wire,d.want,d.utf,d.end_⟩:Dcd);let z2:=Ad (Ba ⟨z9,[]⟩ z6.bits);let z3:=Au z9 9 d.at_;let z4:List Blk:=[.dead,.dead,.tree z2.d.plan.shapes,.lst .lev z2.d.stack,.lst .ev z2.out];let z7:=Ac 2 3 z2.d;let z10:List Blk:=[.dead,.dead,.tree z3.plan.shapes,.lst .lev z3.stack,.lst .ev [Av 9 d.at_]];let z11:=Fp d.field z6.bits;let z12:=(.tup [.agg z7,vO 4]:S);let z13:=C8 ⟨d,[]⟩ b;let z5:List Blk:=[.dead,.dead,.tree z13.d.plan.shapes,.lst .lev z13.d.stack,.lst .ev z13.out];let z8:=Ac 2 3 z13.d;(.seg [.call [] (.v (.agg (J6 z6))) []] (.br (.seg [.ty .ev,.at 0,.cut 3 0,.cut 3 5] (.leaf () [0,1,6,7,5])) (.br (.br (.br (.seg [.call [] (.v (.agg (cEv z11))) [],.call [0,1] (.tup [.agg (Ac 2 3 z3),vO 4]) z10,.tree (.first 0 (.first 1 (.first 3 (.one 2 (.one 4 (.one 5 (.first 6 (.done)))))))) 5 [8],.ty .ev,.ty .ev] (.leaf () [0,1,6,7,11])) (.seg [.call [0,1] (.tup [.agg z7,vO 4]) z4] (.leaf () [0,1,5,6,7]))) (.seg [.call [0,1] (.tup [.agg z7,vO 4]) z4] (.leaf () [0,1,5,6,7]))) (.seg [.call [0,1] (.tup [.agg z7,vO 4]) z4] (.leaf () [0,1,5,6,7])))),(Fun Tryz.prog 157 [.agg (J6 d.scan),vI b] [] (.v (.agg (J6 z6))) [])∧((decide (z6.have_<w))=true→(.tup [.agg (.own 2::zi d.plan.root::zi d.plan.deep::zi d.plan.most::zi d.mode:: .own 3:: .int .u64 z6.bits::zi z6.have_::z1),vO 4]:S)= .tup [.agg z8,vO 4]∧([.dead,.dead,.tree d.plan.shapes,.lst .lev d.stack,.lst .ev ([]:List Ev)]:List Blk)=z5)∧((decide (z6.have_<w))=false→((decide (d.mode=8))=true→((decide (0<d.want))=true→((decide (d.want<w))=true→(Fun Tryz.prog 158 [.agg (Fd d.field),.c (.int .u64 z6.bits)] [] (.v (.agg (cEv z11))) [])∧(Fun Tryz.prog 109 [.agg (.own 0::zi d.plan.root::zi d.plan.deep::zi d.plan.most::zi d.mode:: .own 1:: .int .u64 0::zi 0::z1),vI 9,vI d.at_] [.tree d.plan.shapes,.lst .lev d.stack] (.tup [.agg (Ac 2 3 z3),vO 4]) z10)∧(List.length [z11]+List.length [Av 9 d.at_]≤bigN)∧(.tup [.agg (Ac 2 3 z3),vO 4]:S)= .tup [.agg z8,vO 4]∧([.dead,.dead,.tree z3.plan.shapes,.lst .lev z3.stack,.lst .ev ([z11]++[Av 9 d.at_])]:List Blk)=z5)∧((decide (d.want<w))=false→(Fun Tryz.prog 159 [.agg (.own 0::zi d.plan.root::zi d.plan.deep::zi d.plan.most::zi d.mode:: .own 1:: .int .u64 0::zi 0::z1),.c (.int .u64 z6.bits)] [.tree d.plan.shapes,.lst .lev d.stack] (.tup [.agg z7,vO 4]) z4)∧z12= .tup [.agg z8,vO 4]∧(z4:List Blk)=z5))∧((decide (0<d.want))=false→(Fun Tryz.prog 159 [.agg (.own 0::zi d.plan.root::zi d.plan.deep::zi d.plan.most::zi d.mode:: .own 1:: .int .u64 0::zi 0::z1),.c (.int .u64 z6.bits)] [.tree d.plan.shapes,.lst .lev d.stack] (.tup [.agg z7,vO 4]) z4)∧z12= .tup [.agg z8,vO 4]∧(z4:List Blk)=z5))∧((decide (d.mode=8))=false→(Fun Tryz.prog 159 [.agg (.own 0::zi d.plan.root::zi d.plan.deep::zi d.plan.most::zi d.mode:: .own 1:: .int .u64 0::zi 0::z1),.c (.int .u64 z6.bits)] [.tree d.plan.shapes,.lst .lev d.stack] (.tup [.agg z7,vO 4]) z4)∧z12= .tup [.agg z8,vO 4]∧(z4:List Blk)=z5)))) (by kernel_rfl) ?_
 refine⟨(Aee d.scan _),dsp (fun h1 p1=>?_) fun h1 p1=>?_⟩
 refine have hm1:(C8 ⟨d,[]⟩ b).d=(⟨d.plan,d.mode,d.stack,(Bk d.scan b),d.start,d.at_,d.field,d.wire,d.want,d.utf,d.end_⟩:Dcd):=?_;?_
 rotate_left
 refine have hm2:(C8 ⟨d,[]⟩ b).out=([]:List Ev):=?_;?_
 rotate_left
 exact⟨(by rw[hm1]<;>rfl),(by rw[hm1,hm2]<;>rfl)⟩
 refine dsp (fun h2 p2=>?_) fun h2 p2=>?_
 refine dsp (fun h3 p3=>?_) fun h3 p3=>?_
 refine dsp (fun h4 p4=>?_) fun h4 p4=>?_
 refine⟨(Qd d.field _ (by omega)),(Cn (⟨d.plan,d.mode,d.stack,(⟨0,0⟩:Scn),d.start,d.at_,d.field,d.wire,d.want,d.utf,d.end_⟩:Dcd) _ _),(by simp only[List.length_cons,List.length_nil];omega),?_⟩
 refine have hm1:(C8 ⟨d,[]⟩ b).d=(Au (⟨d.plan,d.mode,d.stack,(⟨0,0⟩:Scn),d.start,d.at_,d.field,d.wire,d.want,d.utf,d.end_⟩:Dcd) 9 d.at_):=?_;?_
 rotate_left
 refine have hm2:(C8 ⟨d,[]⟩ b).out=[(Fp d.field (Bk d.scan b).bits)]++[Av 9 d.at_]:=?_;?_
 rotate_left
 exact⟨(by rw[hm1]<;>rfl),(by rw[hm1,hm2]<;>rfl)⟩
 refine⟨(Ti (⟨d.plan,d.mode,d.stack,(⟨0,0⟩:Scn),d.start,d.at_,d.field,d.wire,d.want,d.utf,d.end_⟩:Dcd) _ (by first|omega|rfl|(dsimp only;omega)) (by omega)),?_⟩
 refine have hm1:(C8 ⟨d,[]⟩ b).d=(Ad (Ba ⟨(⟨d.plan,d.mode,d.stack,(⟨0,0⟩:Scn),d.start,d.at_,d.field,d.wire,d.want,d.utf,d.end_⟩:Dcd),[]⟩ (Bk d.scan b).bits)).d:=?_;?_
 rotate_left
 refine have hm2:(C8 ⟨d,[]⟩ b).out=(Ad (Ba ⟨(⟨d.plan,d.mode,d.stack,(⟨0,0⟩:Scn),d.start,d.at_,d.field,d.wire,d.want,d.utf,d.end_⟩:Dcd),[]⟩ (Bk d.scan b).bits)).out:=?_;?_
 rotate_left
 exact⟨(by rw[hm1]<;>rfl),(by rw[hm1,hm2]<;>rfl)⟩
 refine⟨(Ti (⟨d.plan,d.mode,d.stack,(⟨0,0⟩:Scn),d.start,d.at_,d.field,d.wire,d.want,d.utf,d.end_⟩:Dcd) _ (by first|omega|rfl|(dsimp only;omega)) (by omega)),?_⟩
 refine have hm1:(C8 ⟨d,[]⟩ b).d=(Ad (Ba ⟨(⟨d.plan,d.mode,d.stack,(⟨0,0⟩:Scn),d.start,d.at_,d.field,d.wire,d.want,d.utf,d.end_⟩:Dcd),[]⟩ (Bk d.scan b).bits)).d:=?_;?_
 rotate_left
 refine have hm2:(C8 ⟨d,[]⟩ b).out=(Ad (Ba ⟨(⟨d.plan,d.mode,d.stack,(⟨0,0⟩:Scn),d.start,d.at_,d.field,d.wire,d.want,d.utf,d.end_⟩:Dcd),[]⟩ (Bk d.scan b).bits)).out:=?_;?_
 rotate_left
 exact⟨(by rw[hm1]<;>rfl),(by rw[hm1,hm2]<;>rfl)⟩
 refine⟨(Ti (⟨d.plan,d.mode,d.stack,(⟨0,0⟩:Scn),d.start,d.at_,d.field,d.wire,d.want,d.utf,d.end_⟩:Dcd) _ (by first|omega|rfl|(dsimp only;omega)) (by omega)),?_⟩
 refine have hm1:(C8 ⟨d,[]⟩ b).d=(Ad (Ba ⟨(⟨d.plan,d.mode,d.stack,(⟨0,0⟩:Scn),d.start,d.at_,d.field,d.wire,d.want,d.utf,d.end_⟩:Dcd),[]⟩ (Bk d.scan b).bits)).d:=?_;?_
 rotate_left
 refine have hm2:(C8 ⟨d,[]⟩ b).out=(Ad (Ba ⟨(⟨d.plan,d.mode,d.stack,(⟨0,0⟩:Scn),d.start,d.at_,d.field,d.wire,d.want,d.utf,d.end_⟩:Dcd),[]⟩ (Bk d.scan b).bits)).out:=?_;?_
 rotate_left
 exact⟨(by rw[hm1]<;>rfl),(by rw[hm1,hm2]<;>rfl)⟩
 all_goals first|(simp_all[C8,Hq,As,Au,scn0,Pm,Lm];done)|((have hne:d.field≠fld0:=Ahj (hp4 (by assumption));have hff:C8 ⟨d,[]⟩ b=As (Ba ⟨Hq d scn0,[]⟩ (Bk d.scan b).bits) 9 d.at_:=(by unfold C8;simp only;rw[if_neg (by omega),if_pos ⟨by assumption,by assumption,by omega⟩]);rw[hff];simp[As,Au,Ba,Hq,scn0,hne];done))|(grind[C8,Hq,As,Au,scn0,Ba,Pm,Lm])
set_option maxHeartbeats 3200000 in
theorem Aeh (d:Dcd) (b:Int) (hp1:List.length (d).plan.shapes≤1048576) (hp2: ∀e∈(d).plan.shapes,e.fields.length≤1048576) (hp3:List.length (d).stack≤1048576) (hp4:(0:Int)≤(d).scan.bits∧(d).scan.bits≤18446744073709551615):Fun Tryz.prog 52 [.agg (Bi d),vI b] [] (.tup [.agg (Ac 0 1 (B4 d b).d),vO 2]) [.tree (B4 d b).d.plan.shapes,.lst .lev (B4 d b).d.stack,.lst .ev (B4 d b).out]:=by
 have hN:bigN=274877906944:=rfl
 refine Af Tryz.func52 (by kernel_rfl) (by kernel_rfl) (w:=let zi:Int→C:= .int .i64;let z15:List C:=[zi 4,zi 0,.int .u64 0,zi 0,.str (List.map Cy [b]),zi 0,zi 0];let z16:List C:=[zi d.end_.kind,zi d.end_.field,.int .u64 d.end_.bits,zi d.end_.len,.str d.end_.text,zi d.end_.code,zi d.end_.at_];let z17:=(⟨d.plan,d.mode,d.stack,d.scan,d.start,d.at_+1,d.field,d.wire,d.want-1,d.utf,d.end_⟩:Dcd);let z18:=(⟨d.plan,d.mode,d.stack,d.scan,d.start,d.at_+1,d.field,d.wire,d.want,d.utf,d.end_⟩:Dcd);let z20:=(d.stack.length:Int);let z21:=B4 d b;let z22:=Ad ⟨z17,[]⟩;let z23:=(⟨4,0,0,0,List.map Cy [b],0,0⟩:Ev);let z24:=Ac 0 1 z21.d;let z27:=decide (d.mode=7);let z28:=Bf ⟨z17,[]⟩ b d.at_;let z29:=Bf ⟨z18,[]⟩ b d.at_;let z30:=([.tree d.plan.shapes,.lst .lev d.stack,.lst .ev ([]:List Ev)]:List Blk);let z31:List Blk:=[.dead,.dead,.tree z22.d.plan.shapes,.lst .lev z22.d.stack,.lst .ev z22.out];let z32:=(.v (.c (.int .u8 (IntKind.u8.wrap (b)))):S)= .v (.c (.int .u8 b));let z33:=(.v (vI (IntKind.i64.wrap (z20-1))):S)= .v (vI (z20-1));let z34:=vI (Bd d);let z35:=C8 ⟨z17,[]⟩ b;let z36:=C8 ⟨z18,[]⟩ b;let z37:=decide (d.mode=6);let z38:=decide (0<Bd d);let z39:=Au z17 5 d.at_;let z40:=Bx d.utf b;let z26:=z40.getD d.utf;let z19:=Ad ⟨(⟨d.plan,d.mode,d.stack,d.scan,d.start,d.at_+1,d.field,d.wire,d.want-1,z26,d.end_⟩:Dcd),[]⟩;let z41:=Int.toNat (z20-1);let z42:=(.tup [.agg (Ac 0 1 d),vO 2]:S);let z43:=vI (d.want-1);let z25:=(.v (vI (IntKind.i64.wrap (d.want-1))):S)= .v z43;let z44:=Ac 2 3 z22.d;let z45:=(.tup [.agg (Ac 0 1 z22.d),vO 2]:S);let z46:List Blk:=[.dead,.dead,.tree z19.d.plan.shapes,.lst .lev z19.d.stack,.lst .ev (z23::z19.out)];let z47:List Blk:=[.dead,.dead,.tree z22.d.plan.shapes,.lst .lev z22.d.stack,.lst .ev (z23::z22.out)];let z48:=([.tree z22.d.plan.shapes,.lst .lev z22.d.stack,.lst .ev z22.out]:List Blk);let z49:List Blk:=[.dead,.dead,.tree z39.plan.shapes,.lst .lev z39.stack,.lst .ev [Av 5 d.at_]];let z50:=decide (d.field.kind=6);let z51:List Blk:=[.dead,.dead,.tree z35.d.plan.shapes,.lst .lev z35.d.stack,.lst .ev z35.out];let z52:List Blk:=[.dead,.dead,.tree z28.d.plan.shapes,.lst .lev z28.d.stack,.lst .ev z28.out];let z53:List Blk:=[.dead,.dead,.tree z36.d.plan.shapes,.lst .lev z36.d.stack,.lst .ev z36.out];let z54:List Blk:=[.dead,.dead,.tree z29.d.plan.shapes,.lst .lev z29.d.stack,.lst .ev z29.out];let z55:=(0:Int)≤z20-1;let z56:=decide (d.mode=8);let z57:=d.at_+1;let z12:List C:= .own 0::zi d.plan.root::zi d.plan.deep::zi d.plan.most::zi d.mode:: .own 1:: .int .u64 d.scan.bits::zi d.scan.have_::zi d.start::zi z57::zi d.field.number::zi d.field.kind:: .bool d.field.rep:: .bool d.field.packed::zi d.field.msg::zi d.wire::zi (d.want-1)::zi d.utf.want::zi d.utf.low::zi d.utf.high::z16;let z13:List C:= .own 0::zi d.plan.root::zi d.plan.deep::zi d.plan.most::zi d.mode:: .own 1:: .int .u64 d.scan.bits::zi d.scan.have_::zi d.start::zi z57::zi d.field.number::zi d.field.kind:: .bool d.field.rep:: .bool d.field.packed::zi d.field.msg::zi d.wire::zi d.want::zi d.utf.want::zi d.utf.low::zi d.utf.high::z16;let z14:List C:= .own 0::zi d.plan.root::zi d.plan.deep::zi d.plan.most::zi d.mode:: .own 1:: .int .u64 d.scan.bits::zi d.scan.have_::zi d.start::zi z57::zi d.field.number::zi d.field.kind:: .bool d.field.rep:: .bool d.field.packed::zi d.field.msg::zi d.wire::zi (d.want-1)::zi z26.want::zi z26.low::zi z26.high::z16;let z58:=Ak b 0 255;let z59:=z20-1<z20;let z60:= !z40.isSome;let z61:=z27=false;let z62:=z37=false;(.seg [.call [] (.v (.agg (Ac 0 1 d))) [.tree d.plan.shapes,.lst .lev d.stack],.call [] (.v (vB (Be d))) []] (.br (.seg [.ty .ev] (.leaf () [2,3,5])) (.br (.seg [.ty .ev] (.leaf () [2,3,5])) (.seg [.call [] (.v (vB z58)) []] (.br (.seg [.ty .ev] (.leaf () [2,3,5])) (.br (.seg [.ty .ev] (.leaf () [2,3,5])) (.seg [.as 35 (.v (vI z57))] (.br (.intro (fun (x1:Lev)=>d.stack[Int.toNat (z20-1)]? =some x1) fun x1=>let z4:=(⟨x1.msg,x1.left-1⟩:Lev);let z1:=(⟨d.plan,d.mode,List.set d.stack z41 z4,d.scan,d.start,d.at_+1,d.field,d.wire,d.want-1,d.utf,d.end_⟩:Dcd);let z2:=(⟨d.plan,d.mode,List.set d.stack z41 z4,d.scan,d.start,d.at_+1,d.field,d.wire,d.want,d.utf,d.end_⟩:Dcd);let z3:=Ad ⟨(⟨d.plan,d.mode,List.set d.stack z41 z4,d.scan,d.start,d.at_+1,d.field,d.wire,d.want-1,z26,d.end_⟩:Dcd),[]⟩;.seg [.ord (os 15 [14]) [],.as 45 (.v (vI (z20-1))),.as 49 (.v (vI (z20-1))),.el .lev x1,.as 53 (.v (vI (x1.left-1))),.el .lev x1] (.br (.seg [.as 71 (.v z43),.call [] (.v z34) []] (.br (.seg [.call [2,3] (.tup [.agg (Ac 2 3 (Ad ⟨z1,[]⟩).d),vO 4]) [.dead,.dead,.tree (Ad ⟨z1,[]⟩).d.plan.shapes,.lst .lev (Ad ⟨z1,[]⟩).d.stack,.lst .ev (Ad ⟨z1,[]⟩).out]] (.leaf () [5,6,7])) (.seg [.br true] (.br (.seg [.call [] (.tup [.agg (Lb z26),vB z40.isSome]) []] (.br (.seg [.call [2,3] (.tup [.agg (Ac 2 3 (Au z1 5 d.at_)),vO 4]) [.dead,.dead,.tree (Au z1 5 d.at_).plan.shapes,.lst .lev (Au z1 5 d.at_).stack,.lst .ev [Av 5 d.at_]]] (.leaf () [6,7,8])) (.seg [.as 110 (.v (.c (.int .u8 b))),.ty .u8,.call [2,3] (.tup [.agg (Ac 2 3 z3.d),vO 4]) [.dead,.dead,.tree z3.d.plan.shapes,.lst .lev z3.d.stack,.lst .ev (z23::z3.out)]] (.leaf () [7,8,9])))) (.seg [.as 110 (.v (.c (.int .u8 b))),.ty .u8,.call [2,3] (.tup [.agg (Ac 2 3 (Ad ⟨z1,[]⟩).d),vO 4]) [.dead,.dead,.tree (Ad ⟨z1,[]⟩).d.plan.shapes,.lst .lev (Ad ⟨z1,[]⟩).d.stack,.lst .ev (z23::(Ad ⟨z1,[]⟩).out)]] (.leaf () [6,7,8])))))) (.br (.seg [.as 71 (.v z43),.call [] (.v z34) [],.br true,.call [2,3] (.tup [.agg (Ac 2 3 (Ad ⟨z1,[]⟩).d),vO 4]) [.dead,.dead,.tree (Ad ⟨z1,[]⟩).d.plan.shapes,.lst .lev (Ad ⟨z1,[]⟩).d.stack,.lst .ev (Ad ⟨z1,[]⟩).out]] (.leaf () [5,6,7])) (.br (.seg [.as 71 (.v z43),.call [] (.v z34) [],.br false,.br false] (.br (.seg [.call [2,3] (.tup [.agg (Ac 2 3 (C8 ⟨z1,[]⟩ b).d),vO 4]) [.dead,.dead,.tree (C8 ⟨z1,[]⟩ b).d.plan.shapes,.lst .lev (C8 ⟨z1,[]⟩ b).d.stack,.lst .ev (C8 ⟨z1,[]⟩ b).out]] (.leaf () [5,6,7])) (.seg [.call [2,3] (.tup [.agg (Ac 2 3 (Bf ⟨z1,[]⟩ b d.at_).d),vO 4]) [.dead,.dead,.tree (Bf ⟨z1,[]⟩ b d.at_).d.plan.shapes,.lst .lev (Bf ⟨z1,[]⟩ b d.at_).d.stack,.lst .ev (Bf ⟨z1,[]⟩ b d.at_).out]] (.leaf () [5,6,7])))) (.seg [.call [] (.v z34) [],.br false,.br false] (.br (.seg [.call [2,3] (.tup [.agg (Ac 2 3 (C8 ⟨z2,[]⟩ b).d),vO 4]) [.dead,.dead,.tree (C8 ⟨z2,[]⟩ b).d.plan.shapes,.lst .lev (C8 ⟨z2,[]⟩ b).d.stack,.lst .ev (C8 ⟨z2,[]⟩ b).out]] (.leaf () [5,6,7])) (.seg [.call [2,3] (.tup [.agg (Ac 2 3 (Bf ⟨z2,[]⟩ b d.at_).d),vO 4]) [.dead,.dead,.tree (Bf ⟨z2,[]⟩ b d.at_).d.plan.shapes,.lst .lev (Bf ⟨z2,[]⟩ b d.at_).d.stack,.lst .ev (Bf ⟨z2,[]⟩ b d.at_).out]] (.leaf () [5,6,7])))))))) (.br (.seg [.as 71 (.v z43),.call [] (.v z34) []] (.br (.seg [.call [2,3] (.tup [.agg z44,vO 4]) z31] (.leaf () [5,6,7])) (.seg [.br true] (.br (.seg [.call [] (.tup [.agg (Lb z26),vB z40.isSome]) []] (.br (.seg [.call [2,3] (.tup [.agg (Ac 2 3 z39),vO 4]) z49] (.leaf () [6,7,8])) (.seg [.as 110 (.v (.c (.int .u8 b))),.ty .u8,.call [2,3] (.tup [.agg (Ac 2 3 z19.d),vO 4]) z46] (.leaf () [7,8,9])))) (.seg [.as 110 (.v (.c (.int .u8 b))),.ty .u8,.call [2,3] (.tup [.agg z44,vO 4]) z47] (.leaf () [6,7,8])))))) (.br (.seg [.as 71 (.v z43),.call [] (.v z34) [],.br true,.call [2,3] (.tup [.agg z44,vO 4]) z31] (.leaf () [5,6,7])) (.br (.seg [.as 71 (.v z43),.call [] (.v z34) [],.br false,.br false] (.br (.seg [.call [2,3] (.tup [.agg (Ac 2 3 z35.d),vO 4]) z51] (.leaf () [5,6,7])) (.seg [.call [2,3] (.tup [.agg (Ac 2 3 z28.d),vO 4]) z52] (.leaf () [5,6,7])))) (.seg [.call [] (.v z34) [],.br false,.br false] (.br (.seg [.call [2,3] (.tup [.agg (Ac 2 3 z36.d),vO 4]) z53] (.leaf () [5,6,7])) (.seg [.call [2,3] (.tup [.agg (Ac 2 3 z29.d),vO 4]) z54] (.leaf () [5,6,7])))))))))))))),(Fun Tryz.prog 63 [.agg (Bi d)] [] (.v (.agg (Ac 0 1 d))) [.tree d.plan.shapes,.lst .lev d.stack])∧(Fun Tryz.prog 104 [.agg (Bi d)] [] (.v (vB (Be d))) [])∧((!(Be d))=true→z42= .tup [.agg z24,vO 2]∧z30=[.tree z21.d.plan.shapes,.lst .lev z21.d.stack,.lst .ev z21.out])∧((!(Be d))=false→((decide (d.mode=9))=true→z42= .tup [.agg z24,vO 2]∧z30=[.tree z21.d.plan.shapes,.lst .lev z21.d.stack,.lst .ev z21.out])∧((decide (d.mode=9))=false→(Fun Tryz.prog 105 [vI b,vI 0,vI 255] [] (.v (vB z58)) [])∧((!z58)=true→z42= .tup [.agg z24,vO 2]∧z30=[.tree z21.d.plan.shapes,.lst .lev z21.d.stack,.lst .ev z21.out])∧((!z58)=false→((decide (d.at_=1000000000))=true→z42= .tup [.agg z24,vO 2]∧z30=[.tree z21.d.plan.shapes,.lst .lev z21.d.stack,.lst .ev z21.out])∧((decide (d.at_=1000000000))=false→((.v (vI (IntKind.i64.wrap z57)):S)= .v (vI z57))∧((decide (0<z20))=true→(∃(x1:Lev),d.stack[Int.toNat (z20-1)]? =some x1)∧∀(x1:Lev),(d.stack[Int.toNat (z20-1)]? =some x1)→(let z9:=d.stack[Int.toNat (z20-1)]? =some x1;let z10:=(⟨x1.msg,x1.left-1⟩:Lev);let z5:=(⟨d.plan,d.mode,List.set d.stack z41 z10,d.scan,d.start,d.at_+1,d.field,d.wire,d.want-1,d.utf,d.end_⟩:Dcd);let z6:=(⟨d.plan,d.mode,List.set d.stack z41 z10,d.scan,d.start,d.at_+1,d.field,d.wire,d.want,d.utf,d.end_⟩:Dcd);let z7:=Ad ⟨(⟨d.plan,d.mode,List.set d.stack z41 z10,d.scan,d.start,d.at_+1,d.field,d.wire,d.want-1,z26,d.end_⟩:Dcd),[]⟩;let z8:=List.set d.stack z41 z10;let z11:=(.v (vI (IntKind.i64.wrap (x1.left-1))):S)= .v (vI (x1.left-1));z33∧z33∧z33∧z33∧z59∧z55∧z59∧z55∧z9∧z9∧z11∧z11∧z59∧z55∧z59∧z55∧z9∧(z37=true→z25∧(Fun Tryz.prog 106 [.agg (Bi d)] [] (.v z34) [])∧(z27=true→(Fun Tryz.prog 107 [.agg z12] [.tree d.plan.shapes,.lst .lev z8] (.tup [.agg (Ac 2 3 (Ad ⟨z5,[]⟩).d),vO 4]) [.dead,.dead,.tree (Ad ⟨z5,[]⟩).d.plan.shapes,.lst .lev (Ad ⟨z5,[]⟩).d.stack,.lst .ev (Ad ⟨z5,[]⟩).out])∧(.tup [.agg (Ac 0 1 (Ad ⟨z5,[]⟩).d),vO 2]:S)= .tup [.agg z24,vO 2]∧([.tree (Ad ⟨z5,[]⟩).d.plan.shapes,.lst .lev (Ad ⟨z5,[]⟩).d.stack,.lst .ev (Ad ⟨z5,[]⟩).out]:List Blk)=[.tree z21.d.plan.shapes,.lst .lev z21.d.stack,.lst .ev z21.out])∧(z27=false→(z37=true)∧(z50=true→(Fun Tryz.prog 108 [.agg (Lb d.utf),vI b] [] (.tup [.agg (Lb z26),vB z40.isSome]) [])∧(z60=true→(Fun Tryz.prog 109 [.agg z12,vI 5,vI d.at_] [.tree d.plan.shapes,.lst .lev z8] (.tup [.agg (Ac 2 3 (Au z5 5 d.at_)),vO 4]) [.dead,.dead,.tree (Au z5 5 d.at_).plan.shapes,.lst .lev (Au z5 5 d.at_).stack,.lst .ev [Av 5 d.at_]])∧(.tup [.agg (Ac 0 1 (Au z5 5 d.at_)),vO 2]:S)= .tup [.agg z24,vO 2]∧([.tree (Au z5 5 d.at_).plan.shapes,.lst .lev (Au z5 5 d.at_).stack,.lst .ev [Av 5 d.at_]]:List Blk)=[.tree z21.d.plan.shapes,.lst .lev z21.d.stack,.lst .ev z21.out])∧(z60=false→z32∧(Fun Tryz.prog 110 [.agg z14,.agg z15] [.tree d.plan.shapes,.lst .lev z8] (.tup [.agg (Ac 2 3 z7.d),vO 4]) [.dead,.dead,.tree z7.d.plan.shapes,.lst .lev z7.d.stack,.lst .ev (z23::z7.out)])∧(.tup [.agg (Ac 0 1 z7.d),vO 2]:S)= .tup [.agg z24,vO 2]∧([.tree z7.d.plan.shapes,.lst .lev z7.d.stack,.lst .ev (z23::z7.out)]:List Blk)=[.tree z21.d.plan.shapes,.lst .lev z21.d.stack,.lst .ev z21.out]))∧(z50=false→z32∧(Fun Tryz.prog 110 [.agg z12,.agg z15] [.tree d.plan.shapes,.lst .lev z8] (.tup [.agg (Ac 2 3 (Ad ⟨z5,[]⟩).d),vO 4]) [.dead,.dead,.tree (Ad ⟨z5,[]⟩).d.plan.shapes,.lst .lev (Ad ⟨z5,[]⟩).d.stack,.lst .ev (z23::(Ad ⟨z5,[]⟩).out)])∧(.tup [.agg (Ac 0 1 (Ad ⟨z5,[]⟩).d),vO 2]:S)= .tup [.agg z24,vO 2]∧([.tree (Ad ⟨z5,[]⟩).d.plan.shapes,.lst .lev (Ad ⟨z5,[]⟩).d.stack,.lst .ev (z23::(Ad ⟨z5,[]⟩).out)]:List Blk)=[.tree z21.d.plan.shapes,.lst .lev z21.d.stack,.lst .ev z21.out])))∧(z37=false→(z27=true→z25∧(Fun Tryz.prog 106 [.agg (Bi d)] [] (.v z34) [])∧(z27=true)∧(Fun Tryz.prog 107 [.agg z12] [.tree d.plan.shapes,.lst .lev z8] (.tup [.agg (Ac 2 3 (Ad ⟨z5,[]⟩).d),vO 4]) [.dead,.dead,.tree (Ad ⟨z5,[]⟩).d.plan.shapes,.lst .lev (Ad ⟨z5,[]⟩).d.stack,.lst .ev (Ad ⟨z5,[]⟩).out])∧(.tup [.agg (Ac 0 1 (Ad ⟨z5,[]⟩).d),vO 2]:S)= .tup [.agg z24,vO 2]∧([.tree (Ad ⟨z5,[]⟩).d.plan.shapes,.lst .lev (Ad ⟨z5,[]⟩).d.stack,.lst .ev (Ad ⟨z5,[]⟩).out]:List Blk)=[.tree z21.d.plan.shapes,.lst .lev z21.d.stack,.lst .ev z21.out])∧(z27=false→(z56=true→z25∧(Fun Tryz.prog 106 [.agg (Bi d)] [] (.v z34) [])∧z61∧z62∧(z38=true→(Fun Tryz.prog 111 [.agg z12,vI b,vI (Bd d)] [.tree d.plan.shapes,.lst .lev z8] (.tup [.agg (Ac 2 3 (C8 ⟨z5,[]⟩ b).d),vO 4]) [.dead,.dead,.tree (C8 ⟨z5,[]⟩ b).d.plan.shapes,.lst .lev (C8 ⟨z5,[]⟩ b).d.stack,.lst .ev (C8 ⟨z5,[]⟩ b).out])∧(.tup [.agg (Ac 0 1 (C8 ⟨z5,[]⟩ b).d),vO 2]:S)= .tup [.agg z24,vO 2]∧([.tree (C8 ⟨z5,[]⟩ b).d.plan.shapes,.lst .lev (C8 ⟨z5,[]⟩ b).d.stack,.lst .ev (C8 ⟨z5,[]⟩ b).out]:List Blk)=[.tree z21.d.plan.shapes,.lst .lev z21.d.stack,.lst .ev z21.out])∧(z38=false→(Fun Tryz.prog 112 [.agg z12,vI b,vI d.at_] [.tree d.plan.shapes,.lst .lev z8] (.tup [.agg (Ac 2 3 (Bf ⟨z5,[]⟩ b d.at_).d),vO 4]) [.dead,.dead,.tree (Bf ⟨z5,[]⟩ b d.at_).d.plan.shapes,.lst .lev (Bf ⟨z5,[]⟩ b d.at_).d.stack,.lst .ev (Bf ⟨z5,[]⟩ b d.at_).out])∧(.tup [.agg (Ac 0 1 (Bf ⟨z5,[]⟩ b d.at_).d),vO 2]:S)= .tup [.agg z24,vO 2]∧([.tree (Bf ⟨z5,[]⟩ b d.at_).d.plan.shapes,.lst .lev (Bf ⟨z5,[]⟩ b d.at_).d.stack,.lst .ev (Bf ⟨z5,[]⟩ b d.at_).out]:List Blk)=[.tree z21.d.plan.shapes,.lst .lev z21.d.stack,.lst .ev z21.out]))∧(z56=false→(Fun Tryz.prog 106 [.agg (Bi d)] [] (.v z34) [])∧z61∧z62∧(z38=true→(Fun Tryz.prog 111 [.agg z13,vI b,vI (Bd d)] [.tree d.plan.shapes,.lst .lev z8] (.tup [.agg (Ac 2 3 (C8 ⟨z6,[]⟩ b).d),vO 4]) [.dead,.dead,.tree (C8 ⟨z6,[]⟩ b).d.plan.shapes,.lst .lev (C8 ⟨z6,[]⟩ b).d.stack,.lst .ev (C8 ⟨z6,[]⟩ b).out])∧(.tup [.agg (Ac 0 1 (C8 ⟨z6,[]⟩ b).d),vO 2]:S)= .tup [.agg z24,vO 2]∧([.tree (C8 ⟨z6,[]⟩ b).d.plan.shapes,.lst .lev (C8 ⟨z6,[]⟩ b).d.stack,.lst .ev (C8 ⟨z6,[]⟩ b).out]:List Blk)=[.tree z21.d.plan.shapes,.lst .lev z21.d.stack,.lst .ev z21.out])∧(z38=false→(Fun Tryz.prog 112 [.agg z13,vI b,vI d.at_] [.tree d.plan.shapes,.lst .lev z8] (.tup [.agg (Ac 2 3 (Bf ⟨z6,[]⟩ b d.at_).d),vO 4]) [.dead,.dead,.tree (Bf ⟨z6,[]⟩ b d.at_).d.plan.shapes,.lst .lev (Bf ⟨z6,[]⟩ b d.at_).d.stack,.lst .ev (Bf ⟨z6,[]⟩ b d.at_).out])∧(.tup [.agg (Ac 0 1 (Bf ⟨z6,[]⟩ b d.at_).d),vO 2]:S)= .tup [.agg z24,vO 2]∧([.tree (Bf ⟨z6,[]⟩ b d.at_).d.plan.shapes,.lst .lev (Bf ⟨z6,[]⟩ b d.at_).d.stack,.lst .ev (Bf ⟨z6,[]⟩ b d.at_).out]:List Blk)=[.tree z21.d.plan.shapes,.lst .lev z21.d.stack,.lst .ev z21.out]))))))∧((decide (0<z20))=false→(z37=true→z25∧(Fun Tryz.prog 106 [.agg (Bi d)] [] (.v z34) [])∧(z27=true→(Fun Tryz.prog 107 [.agg z12] [.tree d.plan.shapes,.lst .lev d.stack] (.tup [.agg z44,vO 4]) z31)∧z45= .tup [.agg z24,vO 2]∧z48=[.tree z21.d.plan.shapes,.lst .lev z21.d.stack,.lst .ev z21.out])∧(z27=false→(z37=true)∧(z50=true→(Fun Tryz.prog 108 [.agg (Lb d.utf),vI b] [] (.tup [.agg (Lb z26),vB z40.isSome]) [])∧(z60=true→(Fun Tryz.prog 109 [.agg z12,vI 5,vI d.at_] [.tree d.plan.shapes,.lst .lev d.stack] (.tup [.agg (Ac 2 3 z39),vO 4]) z49)∧(.tup [.agg (Ac 0 1 z39),vO 2]:S)= .tup [.agg z24,vO 2]∧([.tree z39.plan.shapes,.lst .lev z39.stack,.lst .ev [Av 5 d.at_]]:List Blk)=[.tree z21.d.plan.shapes,.lst .lev z21.d.stack,.lst .ev z21.out])∧(z60=false→z32∧(Fun Tryz.prog 110 [.agg z14,.agg z15] [.tree d.plan.shapes,.lst .lev d.stack] (.tup [.agg (Ac 2 3 z19.d),vO 4]) z46)∧(.tup [.agg (Ac 0 1 z19.d),vO 2]:S)= .tup [.agg z24,vO 2]∧([.tree z19.d.plan.shapes,.lst .lev z19.d.stack,.lst .ev (z23::z19.out)]:List Blk)=[.tree z21.d.plan.shapes,.lst .lev z21.d.stack,.lst .ev z21.out]))∧(z50=false→z32∧(Fun Tryz.prog 110 [.agg z12,.agg z15] [.tree d.plan.shapes,.lst .lev d.stack] (.tup [.agg z44,vO 4]) z47)∧z45= .tup [.agg z24,vO 2]∧([.tree z22.d.plan.shapes,.lst .lev z22.d.stack,.lst .ev (z23::z22.out)]:List Blk)=[.tree z21.d.plan.shapes,.lst .lev z21.d.stack,.lst .ev z21.out])))∧(z37=false→(z27=true→z25∧(Fun Tryz.prog 106 [.agg (Bi d)] [] (.v z34) [])∧(z27=true)∧(Fun Tryz.prog 107 [.agg z12] [.tree d.plan.shapes,.lst .lev d.stack] (.tup [.agg z44,vO 4]) z31)∧z45= .tup [.agg z24,vO 2]∧z48=[.tree z21.d.plan.shapes,.lst .lev z21.d.stack,.lst .ev z21.out])∧(z27=false→(z56=true→z25∧(Fun Tryz.prog 106 [.agg (Bi d)] [] (.v z34) [])∧z61∧z62∧(z38=true→(Fun Tryz.prog 111 [.agg z12,vI b,vI (Bd d)] [.tree d.plan.shapes,.lst .lev d.stack] (.tup [.agg (Ac 2 3 z35.d),vO 4]) z51)∧(.tup [.agg (Ac 0 1 z35.d),vO 2]:S)= .tup [.agg z24,vO 2]∧([.tree z35.d.plan.shapes,.lst .lev z35.d.stack,.lst .ev z35.out]:List Blk)=[.tree z21.d.plan.shapes,.lst .lev z21.d.stack,.lst .ev z21.out])∧(z38=false→(Fun Tryz.prog 112 [.agg z12,vI b,vI d.at_] [.tree d.plan.shapes,.lst .lev d.stack] (.tup [.agg (Ac 2 3 z28.d),vO 4]) z52)∧(.tup [.agg (Ac 0 1 z28.d),vO 2]:S)= .tup [.agg z24,vO 2]∧([.tree z28.d.plan.shapes,.lst .lev z28.d.stack,.lst .ev z28.out]:List Blk)=[.tree z21.d.plan.shapes,.lst .lev z21.d.stack,.lst .ev z21.out]))∧(z56=false→(Fun Tryz.prog 106 [.agg (Bi d)] [] (.v z34) [])∧z61∧z62∧(z38=true→(Fun Tryz.prog 111 [.agg z13,vI b,vI (Bd d)] [.tree d.plan.shapes,.lst .lev d.stack] (.tup [.agg (Ac 2 3 z36.d),vO 4]) z53)∧(.tup [.agg (Ac 0 1 z36.d),vO 2]:S)= .tup [.agg z24,vO 2]∧([.tree z36.d.plan.shapes,.lst .lev z36.d.stack,.lst .ev z36.out]:List Blk)=[.tree z21.d.plan.shapes,.lst .lev z21.d.stack,.lst .ev z21.out])∧(z38=false→(Fun Tryz.prog 112 [.agg z13,vI b,vI d.at_] [.tree d.plan.shapes,.lst .lev d.stack] (.tup [.agg (Ac 2 3 z29.d),vO 4]) z54)∧(.tup [.agg (Ac 0 1 z29.d),vO 2]:S)= .tup [.agg z24,vO 2]∧([.tree z29.d.plan.shapes,.lst .lev z29.d.stack,.lst .ev z29.out]:List Blk)=[.tree z21.d.plan.shapes,.lst .lev z21.d.stack,.lst .ev z21.out]))))))))))) (by kernel_rfl) ?_
 refine⟨(Fr d (by omega) (hp2) (by omega)),(Sz d (by omega) (by omega)),fun h1=>have q1:=Am h1;?_,fun h1=>have q1:=Aj h1;?_⟩
 refine have hm1:(B4 d b).d=d:=?_;?_
 rotate_left
 refine have hm2:(B4 d b).out=([]:List Ev):=?_;?_
 rotate_left
 exact⟨(by rw[hm1]<;>rfl),(by rw[hm1,hm2]<;>rfl)⟩
 have hok:Be d=true:=q1
 have hmw:=Vp hok hp4
 have hlv:=Bs hmw.lv
 have hpt:=By hlv.1
 have htb:=Gm hmw.lv
 have hbb:=hmw.b0
 have hat:=hmw.at_
 have hwt:=hmw.want
 have hwd:=Jf d
 refine dsp (fun h2 p2=>?_) fun h2 p2=>?_
 refine have hm1:(B4 d b).d=d:=?_;?_
 rotate_left
 refine have hm2:(B4 d b).out=([]:List Ev):=?_;?_
 rotate_left
 exact⟨(by rw[hm1]<;>rfl),(by rw[hm1,hm2]<;>rfl)⟩
 have hst:=Vq hok (by simpa using h2)
 refine⟨(A8 _ _ _),fun h3=>have q3:=Am h3;have p3:=Ay q3;?_,fun h3=>have q3:=Aj h3;have p3:=Ap q3;?_⟩
 refine have hm1:(B4 d b).d=d:=?_;?_
 rotate_left
 refine have hm2:(B4 d b).out=([]:List Ev):=?_;?_
 rotate_left
 exact⟨(by rw[hm1]<;>rfl),(by rw[hm1,hm2]<;>rfl)⟩
 have hwi:=Ap q3
 refine dsp (fun h4 p4=>?_) fun h4 p4=>?_
 refine have hm1:(B4 d b).d=d:=?_;?_
 rotate_left
 refine have hm2:(B4 d b).out=([]:List Ev):=?_;?_
 rotate_left
 exact⟨(by rw[hm1]<;>rfl),(by rw[hm1,hm2]<;>rfl)⟩
 have hms:=hmw.step hst.1 hst.2.1 hst.2.2.1
 have htk:En d=true:=by simp only[En,Bool.and_eq_true,Bool.not_eq_true',decide_eq_false_iff_not,decide_eq_true_eq];omega
 have hsb:B4 d b=D6 ⟨d,[]⟩ b:=by unfold B4;rw[if_pos ⟨hok,htk,by assumption⟩]
 refine⟨(Ah (by omega) (by omega)),dsp (fun h5 p5=>?_) fun h5 p5=>?_⟩
 have hne:d.stack≠[]:=fun e=>by have:=congrArg List.length e;simp only[List.length_nil] at this;omega
 refine⟨(Bo (l:=d.stack) (i:=Int.toNat ((d.stack.length:Int)-1)) (by omega)),fun x1 hx1=>?_⟩
 have hll:=Jb (d:=d) (by rw[←hx1];congr 1;omega)
 have hix:Int.toNat ((d.stack.length:Int)-1)=d.stack.length-1:=by omega
 refine⟨(Ah (by omega) (by omega)),(Ah (by omega) (by omega)),(Ah (by omega) (by omega)),(Ah (by omega) (by omega)),(by omega),(by omega),(by omega),(by omega),hx1,hx1,(Ah (by omega) (by omega)),(Ah (by omega) (by omega)),(by omega),(by omega),(by omega),(by omega),hx1,dsp (fun h6 p6=>?_) fun h6 p6=>?_⟩
 refine⟨(Ah (by omega) (by omega)),(Je d),dsp (fun h7 p7=>?_) fun h7 p7=>?_⟩
 refine⟨(Hm (⟨d.plan,d.mode,List.set d.stack (Int.toNat ((d.stack.length:Int)-1)) (⟨x1.msg,x1.left-1⟩:Lev),d.scan,d.start,d.at_+1,d.field,d.wire,d.want-1,d.utf,d.end_⟩:Dcd) (by simp only[List.length_append,List.length_cons,List.length_nil,List.length_set,List.length_take];omega)),?_⟩
 refine have hm1:(B4 d b).d=(Ad ⟨(⟨d.plan,d.mode,List.set d.stack (Int.toNat ((d.stack.length:Int)-1)) (⟨x1.msg,x1.left-1⟩:Lev),d.scan,d.start,d.at_+1,d.field,d.wire,d.want-1,d.utf,d.end_⟩:Dcd),[]⟩).d:=?_;?_
 rotate_left
 refine have hm2:(B4 d b).out=(Ad ⟨(⟨d.plan,d.mode,List.set d.stack (Int.toNat ((d.stack.length:Int)-1)) (⟨x1.msg,x1.left-1⟩:Lev),d.scan,d.start,d.at_+1,d.field,d.wire,d.want-1,d.utf,d.end_⟩:Dcd),[]⟩).out:=?_;?_
 rotate_left
 exact⟨(by rw[hm1]<;>rfl),(by rw[hm1,hm2]<;>rfl)⟩
 refine⟨h6,dsp (fun h8 p8=>?_) fun h8 p8=>?_⟩
 refine⟨(Xe d.utf _),fun h9=>have q9:=Am h9;?_,fun h9=>have q9:=Aj h9;?_⟩
 have hu:Bx d.utf b=none:=by simpa using q9
 refine⟨(Cn (⟨d.plan,d.mode,List.set d.stack (Int.toNat ((d.stack.length:Int)-1)) (⟨x1.msg,x1.left-1⟩:Lev),d.scan,d.start,d.at_+1,d.field,d.wire,d.want-1,d.utf,d.end_⟩:Dcd) _ _),?_⟩
 refine have hm1:(B4 d b).d=(Au (⟨d.plan,d.mode,List.set d.stack (Int.toNat ((d.stack.length:Int)-1)) (⟨x1.msg,x1.left-1⟩:Lev),d.scan,d.start,d.at_+1,d.field,d.wire,d.want-1,d.utf,d.end_⟩:Dcd) 5 d.at_):=?_;?_
 rotate_left
 refine have hm2:(B4 d b).out=[Av 5 d.at_]:=?_;?_
 rotate_left
 exact⟨(by rw[hm1]<;>rfl),(by rw[hm1,hm2]<;>rfl)⟩
 obtain ⟨u,hu⟩:=Option.isSome_iff_exists.1 q9
 have hug:(Bx d.utf b).getD d.utf=u:=by rw[hu];rfl
 refine⟨(Aa5 (by omega) (by omega)),(Nf (⟨d.plan,d.mode,List.set d.stack (Int.toNat ((d.stack.length:Int)-1)) (⟨x1.msg,x1.left-1⟩:Lev),d.scan,d.start,d.at_+1,d.field,d.wire,d.want-1,((Bx d.utf b).getD d.utf),d.end_⟩:Dcd) (⟨4,0,0,0,List.map Cy [b],0,0⟩:Ev) (by simp only[List.length_append,List.length_cons,List.length_nil,List.length_set,List.length_take];omega)),?_⟩
 refine have hm1:(B4 d b).d=(Ad ⟨(⟨d.plan,d.mode,List.set d.stack (Int.toNat ((d.stack.length:Int)-1)) (⟨x1.msg,x1.left-1⟩:Lev),d.scan,d.start,d.at_+1,d.field,d.wire,d.want-1,((Bx d.utf b).getD d.utf),d.end_⟩:Dcd),[]⟩).d:=?_;?_
 rotate_left
 refine have hm2:(B4 d b).out=(⟨4,0,0,0,List.map Cy [b],0,0⟩:Ev)::(Ad ⟨(⟨d.plan,d.mode,List.set d.stack (Int.toNat ((d.stack.length:Int)-1)) (⟨x1.msg,x1.left-1⟩:Lev),d.scan,d.start,d.at_+1,d.field,d.wire,d.want-1,((Bx d.utf b).getD d.utf),d.end_⟩:Dcd),[]⟩).out:=?_;?_
 rotate_left
 exact⟨(by rw[hm1]<;>rfl),(by rw[hm1,hm2]<;>rfl)⟩
 refine⟨(Aa5 (by omega) (by omega)),(Nf (⟨d.plan,d.mode,List.set d.stack (Int.toNat ((d.stack.length:Int)-1)) (⟨x1.msg,x1.left-1⟩:Lev),d.scan,d.start,d.at_+1,d.field,d.wire,d.want-1,d.utf,d.end_⟩:Dcd) (⟨4,0,0,0,List.map Cy [b],0,0⟩:Ev) (by simp only[List.length_append,List.length_cons,List.length_nil,List.length_set,List.length_take];omega)),?_⟩
 refine have hm1:(B4 d b).d=(Ad ⟨(⟨d.plan,d.mode,List.set d.stack (Int.toNat ((d.stack.length:Int)-1)) (⟨x1.msg,x1.left-1⟩:Lev),d.scan,d.start,d.at_+1,d.field,d.wire,d.want-1,d.utf,d.end_⟩:Dcd),[]⟩).d:=?_;?_
 rotate_left
 refine have hm2:(B4 d b).out=(⟨4,0,0,0,List.map Cy [b],0,0⟩:Ev)::(Ad ⟨(⟨d.plan,d.mode,List.set d.stack (Int.toNat ((d.stack.length:Int)-1)) (⟨x1.msg,x1.left-1⟩:Lev),d.scan,d.start,d.at_+1,d.field,d.wire,d.want-1,d.utf,d.end_⟩:Dcd),[]⟩).out:=?_;?_
 rotate_left
 exact⟨(by rw[hm1]<;>rfl),(by rw[hm1,hm2]<;>rfl)⟩
 refine dsp (fun h7 p7=>?_) fun h7 p7=>?_
 refine⟨(Ah (by omega) (by omega)),(Je d),h7,(Hm (⟨d.plan,d.mode,List.set d.stack (Int.toNat ((d.stack.length:Int)-1)) (⟨x1.msg,x1.left-1⟩:Lev),d.scan,d.start,d.at_+1,d.field,d.wire,d.want-1,d.utf,d.end_⟩:Dcd) (by simp only[List.length_append,List.length_cons,List.length_nil,List.length_set,List.length_take];omega)),?_⟩
 refine have hm1:(B4 d b).d=(Ad ⟨(⟨d.plan,d.mode,List.set d.stack (Int.toNat ((d.stack.length:Int)-1)) (⟨x1.msg,x1.left-1⟩:Lev),d.scan,d.start,d.at_+1,d.field,d.wire,d.want-1,d.utf,d.end_⟩:Dcd),[]⟩).d:=?_;?_
 rotate_left
 refine have hm2:(B4 d b).out=(Ad ⟨(⟨d.plan,d.mode,List.set d.stack (Int.toNat ((d.stack.length:Int)-1)) (⟨x1.msg,x1.left-1⟩:Lev),d.scan,d.start,d.at_+1,d.field,d.wire,d.want-1,d.utf,d.end_⟩:Dcd),[]⟩).out:=?_;?_
 rotate_left
 exact⟨(by rw[hm1]<;>rfl),(by rw[hm1,hm2]<;>rfl)⟩
 refine dsp (fun h8 p8=>?_) fun h8 p8=>?_
 refine⟨(Ah (by omega) (by omega)),(Je d),h7,h6,dsp (fun h9 p9=>?_) fun h9 p9=>?_⟩
 refine⟨(V9 (⟨d.plan,d.mode,List.set d.stack (Int.toNat ((d.stack.length:Int)-1)) (⟨x1.msg,x1.left-1⟩:Lev),d.scan,d.start,d.at_+1,d.field,d.wire,d.want-1,d.utf,d.end_⟩:Dcd) _ _ ((by have e:Br d=(⟨d.plan,d.mode,List.set d.stack (Int.toNat ((d.stack.length:Int)-1)) (⟨x1.msg,x1.left-1⟩:Lev),d.scan,d.start,d.at_+1,d.field,d.wire,d.want-1,d.utf,d.end_⟩:Dcd):=(by first|((simp_all[Br];done))|(grind[Br]));exact(e▸hms:MW (⟨d.plan,d.mode,List.set d.stack (Int.toNat ((d.stack.length:Int)-1)) (⟨x1.msg,x1.left-1⟩:Lev),d.scan,d.start,d.at_+1,d.field,d.wire,d.want-1,d.utf,d.end_⟩:Dcd)))) (by omega) (by first|omega|rfl|(dsimp only;omega)) (hst.2.2.2.1)),?_⟩
 refine have hm1:(B4 d b).d=(C8 ⟨(⟨d.plan,d.mode,List.set d.stack (Int.toNat ((d.stack.length:Int)-1)) (⟨x1.msg,x1.left-1⟩:Lev),d.scan,d.start,d.at_+1,d.field,d.wire,d.want-1,d.utf,d.end_⟩:Dcd),[]⟩ b).d:=?_;?_
 rotate_left
 refine have hm2:(B4 d b).out=(C8 ⟨(⟨d.plan,d.mode,List.set d.stack (Int.toNat ((d.stack.length:Int)-1)) (⟨x1.msg,x1.left-1⟩:Lev),d.scan,d.start,d.at_+1,d.field,d.wire,d.want-1,d.utf,d.end_⟩:Dcd),[]⟩ b).out:=?_;?_
 rotate_left
 exact⟨(by rw[hm1]<;>rfl),(by rw[hm1,hm2]<;>rfl)⟩
 refine⟨(Rv (⟨d.plan,d.mode,List.set d.stack (Int.toNat ((d.stack.length:Int)-1)) (⟨x1.msg,x1.left-1⟩:Lev),d.scan,d.start,d.at_+1,d.field,d.wire,d.want-1,d.utf,d.end_⟩:Dcd) _ _ ((by have e:Br d=(⟨d.plan,d.mode,List.set d.stack (Int.toNat ((d.stack.length:Int)-1)) (⟨x1.msg,x1.left-1⟩:Lev),d.scan,d.start,d.at_+1,d.field,d.wire,d.want-1,d.utf,d.end_⟩:Dcd):=(by first|((simp_all[Br];done))|(grind[Br]));exact(e▸hms:MW (⟨d.plan,d.mode,List.set d.stack (Int.toNat ((d.stack.length:Int)-1)) (⟨x1.msg,x1.left-1⟩:Lev),d.scan,d.start,d.at_+1,d.field,d.wire,d.want-1,d.utf,d.end_⟩:Dcd)))) (by omega)),?_⟩
 refine have hm1:(B4 d b).d=(Bf ⟨(⟨d.plan,d.mode,List.set d.stack (Int.toNat ((d.stack.length:Int)-1)) (⟨x1.msg,x1.left-1⟩:Lev),d.scan,d.start,d.at_+1,d.field,d.wire,d.want-1,d.utf,d.end_⟩:Dcd),[]⟩ b d.at_).d:=?_;?_
 rotate_left
 refine have hm2:(B4 d b).out=(Bf ⟨(⟨d.plan,d.mode,List.set d.stack (Int.toNat ((d.stack.length:Int)-1)) (⟨x1.msg,x1.left-1⟩:Lev),d.scan,d.start,d.at_+1,d.field,d.wire,d.want-1,d.utf,d.end_⟩:Dcd),[]⟩ b d.at_).out:=?_;?_
 rotate_left
 exact⟨(by rw[hm1]<;>rfl),(by rw[hm1,hm2]<;>rfl)⟩
 refine⟨(Je d),h7,h6,dsp (fun h9 p9=>?_) fun h9 p9=>?_⟩
 refine⟨(V9 (⟨d.plan,d.mode,List.set d.stack (Int.toNat ((d.stack.length:Int)-1)) (⟨x1.msg,x1.left-1⟩:Lev),d.scan,d.start,d.at_+1,d.field,d.wire,d.want,d.utf,d.end_⟩:Dcd) _ _ ((by have e:Br d=(⟨d.plan,d.mode,List.set d.stack (Int.toNat ((d.stack.length:Int)-1)) (⟨x1.msg,x1.left-1⟩:Lev),d.scan,d.start,d.at_+1,d.field,d.wire,d.want,d.utf,d.end_⟩:Dcd):=(by first|((simp_all[Br];done))|(grind[Br]));exact(e▸hms:MW (⟨d.plan,d.mode,List.set d.stack (Int.toNat ((d.stack.length:Int)-1)) (⟨x1.msg,x1.left-1⟩:Lev),d.scan,d.start,d.at_+1,d.field,d.wire,d.want,d.utf,d.end_⟩:Dcd)))) (by omega) (by first|omega|rfl|(dsimp only;omega)) (hst.2.2.2.1)),?_⟩
 refine have hm1:(B4 d b).d=(C8 ⟨(⟨d.plan,d.mode,List.set d.stack (Int.toNat ((d.stack.length:Int)-1)) (⟨x1.msg,x1.left-1⟩:Lev),d.scan,d.start,d.at_+1,d.field,d.wire,d.want,d.utf,d.end_⟩:Dcd),[]⟩ b).d:=?_;?_
 rotate_left
 refine have hm2:(B4 d b).out=(C8 ⟨(⟨d.plan,d.mode,List.set d.stack (Int.toNat ((d.stack.length:Int)-1)) (⟨x1.msg,x1.left-1⟩:Lev),d.scan,d.start,d.at_+1,d.field,d.wire,d.want,d.utf,d.end_⟩:Dcd),[]⟩ b).out:=?_;?_
 rotate_left
 exact⟨(by rw[hm1]<;>rfl),(by rw[hm1,hm2]<;>rfl)⟩
 refine⟨(Rv (⟨d.plan,d.mode,List.set d.stack (Int.toNat ((d.stack.length:Int)-1)) (⟨x1.msg,x1.left-1⟩:Lev),d.scan,d.start,d.at_+1,d.field,d.wire,d.want,d.utf,d.end_⟩:Dcd) _ _ ((by have e:Br d=(⟨d.plan,d.mode,List.set d.stack (Int.toNat ((d.stack.length:Int)-1)) (⟨x1.msg,x1.left-1⟩:Lev),d.scan,d.start,d.at_+1,d.field,d.wire,d.want,d.utf,d.end_⟩:Dcd):=(by first|((simp_all[Br];done))|(grind[Br]));exact(e▸hms:MW (⟨d.plan,d.mode,List.set d.stack (Int.toNat ((d.stack.length:Int)-1)) (⟨x1.msg,x1.left-1⟩:Lev),d.scan,d.start,d.at_+1,d.field,d.wire,d.want,d.utf,d.end_⟩:Dcd)))) (by omega)),?_⟩
 refine have hm1:(B4 d b).d=(Bf ⟨(⟨d.plan,d.mode,List.set d.stack (Int.toNat ((d.stack.length:Int)-1)) (⟨x1.msg,x1.left-1⟩:Lev),d.scan,d.start,d.at_+1,d.field,d.wire,d.want,d.utf,d.end_⟩:Dcd),[]⟩ b d.at_).d:=?_;?_
 rotate_left
 refine have hm2:(B4 d b).out=(Bf ⟨(⟨d.plan,d.mode,List.set d.stack (Int.toNat ((d.stack.length:Int)-1)) (⟨x1.msg,x1.left-1⟩:Lev),d.scan,d.start,d.at_+1,d.field,d.wire,d.want,d.utf,d.end_⟩:Dcd),[]⟩ b d.at_).out:=?_;?_
 rotate_left
 exact⟨(by rw[hm1]<;>rfl),(by rw[hm1,hm2]<;>rfl)⟩
 have hne:d.stack=[]:=List.eq_nil_of_length_eq_zero (by omega)
 refine dsp (fun h6 p6=>?_) fun h6 p6=>?_
 refine⟨(Ah (by omega) (by omega)),(Je d),dsp (fun h7 p7=>?_) fun h7 p7=>?_⟩
 refine⟨(Hm (⟨d.plan,d.mode,d.stack,d.scan,d.start,d.at_+1,d.field,d.wire,d.want-1,d.utf,d.end_⟩:Dcd) (by first|omega|rfl|(dsimp only;omega))),?_⟩
 refine have hm1:(B4 d b).d=(Ad ⟨(⟨d.plan,d.mode,d.stack,d.scan,d.start,d.at_+1,d.field,d.wire,d.want-1,d.utf,d.end_⟩:Dcd),[]⟩).d:=?_;?_
 rotate_left
 refine have hm2:(B4 d b).out=(Ad ⟨(⟨d.plan,d.mode,d.stack,d.scan,d.start,d.at_+1,d.field,d.wire,d.want-1,d.utf,d.end_⟩:Dcd),[]⟩).out:=?_;?_
 rotate_left
 exact⟨(by rw[hm1]<;>rfl),(by rw[hm1,hm2]<;>rfl)⟩
 refine⟨h6,dsp (fun h8 p8=>?_) fun h8 p8=>?_⟩
 refine⟨(Xe d.utf _),fun h9=>have q9:=Am h9;?_,fun h9=>have q9:=Aj h9;?_⟩
 have hu:Bx d.utf b=none:=by simpa using q9
 refine⟨(Cn (⟨d.plan,d.mode,d.stack,d.scan,d.start,d.at_+1,d.field,d.wire,d.want-1,d.utf,d.end_⟩:Dcd) _ _),?_⟩
 refine have hm1:(B4 d b).d=(Au (⟨d.plan,d.mode,d.stack,d.scan,d.start,d.at_+1,d.field,d.wire,d.want-1,d.utf,d.end_⟩:Dcd) 5 d.at_):=?_;?_
 rotate_left
 refine have hm2:(B4 d b).out=[Av 5 d.at_]:=?_;?_
 rotate_left
 exact⟨(by rw[hm1]<;>rfl),(by rw[hm1,hm2]<;>rfl)⟩
 obtain ⟨u,hu⟩:=Option.isSome_iff_exists.1 q9
 have hug:(Bx d.utf b).getD d.utf=u:=by rw[hu];rfl
 refine⟨(Aa5 (by omega) (by omega)),(Nf (⟨d.plan,d.mode,d.stack,d.scan,d.start,d.at_+1,d.field,d.wire,d.want-1,((Bx d.utf b).getD d.utf),d.end_⟩:Dcd) (⟨4,0,0,0,List.map Cy [b],0,0⟩:Ev) (by first|omega|rfl|(dsimp only;omega))),?_⟩
 refine have hm1:(B4 d b).d=(Ad ⟨(⟨d.plan,d.mode,d.stack,d.scan,d.start,d.at_+1,d.field,d.wire,d.want-1,((Bx d.utf b).getD d.utf),d.end_⟩:Dcd),[]⟩).d:=?_;?_
 rotate_left
 refine have hm2:(B4 d b).out=(⟨4,0,0,0,List.map Cy [b],0,0⟩:Ev)::(Ad ⟨(⟨d.plan,d.mode,d.stack,d.scan,d.start,d.at_+1,d.field,d.wire,d.want-1,((Bx d.utf b).getD d.utf),d.end_⟩:Dcd),[]⟩).out:=?_;?_
 rotate_left
 exact⟨(by rw[hm1]<;>rfl),(by rw[hm1,hm2]<;>rfl)⟩
 refine⟨(Aa5 (by omega) (by omega)),(Nf (⟨d.plan,d.mode,d.stack,d.scan,d.start,d.at_+1,d.field,d.wire,d.want-1,d.utf,d.end_⟩:Dcd) (⟨4,0,0,0,List.map Cy [b],0,0⟩:Ev) (by first|omega|rfl|(dsimp only;omega))),?_⟩
 refine have hm1:(B4 d b).d=(Ad ⟨(⟨d.plan,d.mode,d.stack,d.scan,d.start,d.at_+1,d.field,d.wire,d.want-1,d.utf,d.end_⟩:Dcd),[]⟩).d:=?_;?_
 rotate_left
 refine have hm2:(B4 d b).out=(⟨4,0,0,0,List.map Cy [b],0,0⟩:Ev)::(Ad ⟨(⟨d.plan,d.mode,d.stack,d.scan,d.start,d.at_+1,d.field,d.wire,d.want-1,d.utf,d.end_⟩:Dcd),[]⟩).out:=?_;?_
 rotate_left
 exact⟨(by rw[hm1]<;>rfl),(by rw[hm1,hm2]<;>rfl)⟩
 refine dsp (fun h7 p7=>?_) fun h7 p7=>?_
 refine⟨(Ah (by omega) (by omega)),(Je d),h7,(Hm (⟨d.plan,d.mode,d.stack,d.scan,d.start,d.at_+1,d.field,d.wire,d.want-1,d.utf,d.end_⟩:Dcd) (by first|omega|rfl|(dsimp only;omega))),?_⟩
 refine have hm1:(B4 d b).d=(Ad ⟨(⟨d.plan,d.mode,d.stack,d.scan,d.start,d.at_+1,d.field,d.wire,d.want-1,d.utf,d.end_⟩:Dcd),[]⟩).d:=?_;?_
 rotate_left
 refine have hm2:(B4 d b).out=(Ad ⟨(⟨d.plan,d.mode,d.stack,d.scan,d.start,d.at_+1,d.field,d.wire,d.want-1,d.utf,d.end_⟩:Dcd),[]⟩).out:=?_;?_
 rotate_left
 exact⟨(by rw[hm1]<;>rfl),(by rw[hm1,hm2]<;>rfl)⟩
 refine dsp (fun h8 p8=>?_) fun h8 p8=>?_
 refine⟨(Ah (by omega) (by omega)),(Je d),h7,h6,dsp (fun h9 p9=>?_) fun h9 p9=>?_⟩
 refine⟨(V9 (⟨d.plan,d.mode,d.stack,d.scan,d.start,d.at_+1,d.field,d.wire,d.want-1,d.utf,d.end_⟩:Dcd) _ _ ((by have e:Br d=(⟨d.plan,d.mode,d.stack,d.scan,d.start,d.at_+1,d.field,d.wire,d.want-1,d.utf,d.end_⟩:Dcd):=(by first|((simp_all[Br];done))|(grind[Br]));exact(e▸hms:MW (⟨d.plan,d.mode,d.stack,d.scan,d.start,d.at_+1,d.field,d.wire,d.want-1,d.utf,d.end_⟩:Dcd)))) (by omega) (by first|omega|rfl|(dsimp only;omega)) (hst.2.2.2.1)),?_⟩
 refine have hm1:(B4 d b).d=(C8 ⟨(⟨d.plan,d.mode,d.stack,d.scan,d.start,d.at_+1,d.field,d.wire,d.want-1,d.utf,d.end_⟩:Dcd),[]⟩ b).d:=?_;?_
 rotate_left
 refine have hm2:(B4 d b).out=(C8 ⟨(⟨d.plan,d.mode,d.stack,d.scan,d.start,d.at_+1,d.field,d.wire,d.want-1,d.utf,d.end_⟩:Dcd),[]⟩ b).out:=?_;?_
 rotate_left
 exact⟨(by rw[hm1]<;>rfl),(by rw[hm1,hm2]<;>rfl)⟩
 refine⟨(Rv (⟨d.plan,d.mode,d.stack,d.scan,d.start,d.at_+1,d.field,d.wire,d.want-1,d.utf,d.end_⟩:Dcd) _ _ ((by have e:Br d=(⟨d.plan,d.mode,d.stack,d.scan,d.start,d.at_+1,d.field,d.wire,d.want-1,d.utf,d.end_⟩:Dcd):=(by first|((simp_all[Br];done))|(grind[Br]));exact(e▸hms:MW (⟨d.plan,d.mode,d.stack,d.scan,d.start,d.at_+1,d.field,d.wire,d.want-1,d.utf,d.end_⟩:Dcd)))) (by omega)),?_⟩
 refine have hm1:(B4 d b).d=(Bf ⟨(⟨d.plan,d.mode,d.stack,d.scan,d.start,d.at_+1,d.field,d.wire,d.want-1,d.utf,d.end_⟩:Dcd),[]⟩ b d.at_).d:=?_;?_
 rotate_left
 refine have hm2:(B4 d b).out=(Bf ⟨(⟨d.plan,d.mode,d.stack,d.scan,d.start,d.at_+1,d.field,d.wire,d.want-1,d.utf,d.end_⟩:Dcd),[]⟩ b d.at_).out:=?_;?_
 rotate_left
 exact⟨(by rw[hm1]<;>rfl),(by rw[hm1,hm2]<;>rfl)⟩
 refine⟨(Je d),h7,h6,dsp (fun h9 p9=>?_) fun h9 p9=>?_⟩
 refine⟨(V9 (⟨d.plan,d.mode,d.stack,d.scan,d.start,d.at_+1,d.field,d.wire,d.want,d.utf,d.end_⟩:Dcd) _ _ ((by have e:Br d=(⟨d.plan,d.mode,d.stack,d.scan,d.start,d.at_+1,d.field,d.wire,d.want,d.utf,d.end_⟩:Dcd):=(by first|((simp_all[Br];done))|(grind[Br]));exact(e▸hms:MW (⟨d.plan,d.mode,d.stack,d.scan,d.start,d.at_+1,d.field,d.wire,d.want,d.utf,d.end_⟩:Dcd)))) (by omega) (by first|omega|rfl|(dsimp only;omega)) (hst.2.2.2.1)),?_⟩
 refine have hm1:(B4 d b).d=(C8 ⟨(⟨d.plan,d.mode,d.stack,d.scan,d.start,d.at_+1,d.field,d.wire,d.want,d.utf,d.end_⟩:Dcd),[]⟩ b).d:=?_;?_
 rotate_left
 refine have hm2:(B4 d b).out=(C8 ⟨(⟨d.plan,d.mode,d.stack,d.scan,d.start,d.at_+1,d.field,d.wire,d.want,d.utf,d.end_⟩:Dcd),[]⟩ b).out:=?_;?_
 rotate_left
 exact⟨(by rw[hm1]<;>rfl),(by rw[hm1,hm2]<;>rfl)⟩
 refine⟨(Rv (⟨d.plan,d.mode,d.stack,d.scan,d.start,d.at_+1,d.field,d.wire,d.want,d.utf,d.end_⟩:Dcd) _ _ ((by have e:Br d=(⟨d.plan,d.mode,d.stack,d.scan,d.start,d.at_+1,d.field,d.wire,d.want,d.utf,d.end_⟩:Dcd):=(by first|((simp_all[Br];done))|(grind[Br]));exact(e▸hms:MW (⟨d.plan,d.mode,d.stack,d.scan,d.start,d.at_+1,d.field,d.wire,d.want,d.utf,d.end_⟩:Dcd)))) (by omega)),?_⟩
 refine have hm1:(B4 d b).d=(Bf ⟨(⟨d.plan,d.mode,d.stack,d.scan,d.start,d.at_+1,d.field,d.wire,d.want,d.utf,d.end_⟩:Dcd),[]⟩ b d.at_).d:=?_;?_
 rotate_left
 refine have hm2:(B4 d b).out=(Bf ⟨(⟨d.plan,d.mode,d.stack,d.scan,d.start,d.at_+1,d.field,d.wire,d.want,d.utf,d.end_⟩:Dcd),[]⟩ b d.at_).out:=?_;?_
 rotate_left
 exact⟨(by rw[hm1]<;>rfl),(by rw[hm1,hm2]<;>rfl)⟩
 all_goals first|((rw[hsb];simp_all[D6,Br,Eb,Aig,As,Au,Yp,B9];done))|((rw[hsb];have hw0:Bd d=0:=(by omega);simp_all[D6,Br,Eb,Aig,As,Au,Yp,B9];done))|((rw[hsb];grind[D6,Br,Eb,Aig,As,Au,Yp,B9]))|(simp_all[B4,En];done)|(grind[B4,En])
structure Kq where
 d:Dcd
 out:List Ev
 i:Nat
def Kr (d:Dcd) (s:List UInt8):Fam:=⟨Kq,fun q1=>[(1,.v (vT s)),(2,.v (vP 0)),(4,.v (vP 3)),(6,.v (vO 4)),(7,.v (vI (q1.i:Int)))],fun q1=>[.cells (Ac 1 2 q1.d),.tree q1.d.plan.shapes,.lst .lev q1.d.stack,.cells [.nil,.int .i64 0,.int .i64 0,.int .i64 0,.int .i64 0,.nil,.int .u64 0,.int .i64 0,.int .i64 0,.int .i64 0,.int .i64 0,.int .i64 0,.bool false,.bool false,.int .i64 0,.int .i64 0,.int .i64 0,.int .i64 0,.int .i64 0,.int .i64 0,.int .i64 0,.int .i64 0,.int .u64 0,.int .i64 0,.str [],.int .i64 0,.int .i64 0],.lst .ev q1.out],fun q1=>q1.i≤s.length∧Ck ⟨q1.d,q1.out⟩ (List.drop q1.i s)=Ck ⟨d,[]⟩ s∧(q1.d).plan=d.plan∧List.length (q1.d).stack≤1048576∧((0:Int)≤(q1.d).scan.bits∧(q1.d).scan.bits≤18446744073709551615)∧q1.out.length≤14*q1.i,fun q1=>s.length-q1.i⟩
theorem Aei (d:Dcd) (s:List UInt8) (hp1:List.length (d).plan.shapes≤1048576) (hp2: ∀e∈(d).plan.shapes,e.fields.length≤1048576) (hp3:List.length (d).stack≤1048576) (hp4:(0:Int)≤(d).scan.bits∧(d).scan.bits≤18446744073709551615) (hp5:s.length≤1048576):Fun Tryz.prog 118 [.agg (Bi d),vT s] [] (.tup [.agg (Ac 0 1 (Ck ⟨d,[]⟩ s).d),vO 2]) [.tree (Ck ⟨d,[]⟩ s).d.plan.shapes,.lst .lev (Ck ⟨d,[]⟩ s).d.stack,.lst .ev (Ck ⟨d,[]⟩ s).out]:=by
 have hN:bigN=274877906944:=rfl
 refine Af Tryz.func118 (by kernel_rfl) (by kernel_rfl) (w:=let zi:Int→C:= .int .i64;let z5:List C:=[.nil,zi 0,zi 0,zi 0,zi 0,.nil,.int .u64 0,zi 0,zi 0,zi 0,zi 0,zi 0,.bool false,.bool false,zi 0,zi 0,zi 0,zi 0,zi 0,zi 0,zi 0,zi 0,.int .u64 0,zi 0,.str [],zi 0,zi 0];let z6:=Kr d s;let z7:=Ck ⟨d,[]⟩ s;(.seg [.call [] (.v (.agg (Ac 0 1 d))) [.tree d.plan.shapes,.lst .lev d.stack],.ty .ev,.at 0,.keep [1,2,4,6,7],.sel [0,2,3,1,4]] (.loop z6 fun q1=> .br (.intro (fun (x1:UInt8)=>s[q1.i]? =some x1) fun x1=>let z1:=B4 q1.d ((UInt8.toNat x1:Nat):Int);.seg [.tree (fr (.two 5 (fr (.one 9 (.one 10 (.first 11 (.done)))) 6 3) 9 (.one 5 (fr (.one 10 (.first 11 (.done))) 6 3))) 0 5) 12 [],.ch x1,.as 24 (.v (vI ((UInt8.toNat x1:Nat):Int))),.call [] (.tup [.agg (Ac 0 1 z1.d),vO 2]) [.tree z1.d.plan.shapes,.lst .lev z1.d.stack,.lst .ev z1.out],.at 0,.keep [1,2,4,6,7,8,9],.sel [0,1,2,3,4,8,5,6,7],.call [] (.tup [.agg (Ac 0 1 z1.d),vO 2]) [.tree z1.d.plan.shapes,.lst .lev z1.d.stack,.lst .ev z1.out],.at 0,.keep [1,2,4,6,7,8,9],.sel [0,1,2,3,4,5,6,7,8],.ty .ev,.as 18 (.v (vI ((q1.i:Int)+1))),.at 0,.keep [1,2,4,6,7],.sel [0,6,7,3,9]] (.next)) (.leaf () [1,2,4])),(Fun Tryz.prog 63 [.agg (Bi d)] [] (.v (.agg (Ac 0 1 d))) [.tree d.plan.shapes,.lst .lev d.stack])∧z6.Has [(1,.v (vT s)),(2,.v (vP 0)),(4,.v (vP 3)),(6,.v (vO 4)),(7,.v (vI 0))] [.cells (Ac 1 2 d),.tree d.plan.shapes,.lst .lev d.stack,.cells z5,.lst .ev ([]:List Ev)]∧∀q1,z6.inv q1→(let z4:=(q1.i:Int);((decide (z4<(s.length:Int)))=true→(∃(x1:UInt8),s[q1.i]? =some x1)∧∀(x1:UInt8),(s[q1.i]? =some x1)→(let z3:=((UInt8.toNat x1:Nat):Int);let z2:=B4 q1.d z3;(s[q1.i]? =some x1)∧((0:Int)≤z4)∧(s[q1.i]? =some x1)∧((0:Int)≤z4)∧((.v (vI (IntKind.i64.wrap (z3))):S)= .v (vI z3))∧((.v (vI (IntKind.i64.wrap (z3))):S)= .v (vI z3))∧(Fun Tryz.prog 52 [.agg (Bi q1.d),vI z3] [] (.tup [.agg (Ac 0 1 z2.d),vO 2]) [.tree z2.d.plan.shapes,.lst .lev z2.d.stack,.lst .ev z2.out])∧(Fun Tryz.prog 52 [.agg (Bi q1.d),vI z3] [] (.tup [.agg (Ac 0 1 z2.d),vO 2]) [.tree z2.d.plan.shapes,.lst .lev z2.d.stack,.lst .ev z2.out])∧(([.cells (Ac 1 2 q1.d),.tree q1.d.plan.shapes,.lst .lev q1.d.stack,.cells z5,.lst .ev q1.out,.cells (Ac 6 7 z2.d),.tree z2.d.plan.shapes,.lst .lev z2.d.stack,.lst .ev z2.out]:List Blk)=[.cells (Ac 1 2 q1.d),.tree q1.d.plan.shapes,.lst .lev q1.d.stack,.cells z5,.lst .ev q1.out,.cells (Ac 6 7 z2.d),.tree z2.d.plan.shapes,.lst .lev z2.d.stack,.lst .ev z2.out])∧(([(1,.v (vT s)),(2,.v (vP 0)),(4,.v (vP 3)),(6,.v (vO 4)),(7,.v (vI z4)),(8,.v (vP 5)),(9,.v (vO 8))]:List (Nat×S))=[(1,.v (vT s)),(2,.v (vP 0)),(4,.v (vP 3)),(6,.v (vO 4)),(7,.v (vI z4)),(8,.v (vP 5)),(9,.v (vO 8))])∧(q1.out.length+z2.out.length≤bigN)∧((.v (vI (IntKind.i64.wrap (z4+1))):S)= .v (vI (z4+1)))∧z6.Nxt q1 [(1,.v (vT s)),(2,.v (vP 0)),(4,.v (vP 3)),(6,.v (vO 4)),(7,.v (vI (z4+1)))] [.cells (Ac 1 2 z2.d),.tree z2.d.plan.shapes,.lst .lev z2.d.stack,.cells z5,.lst .ev (q1.out++z2.out)]))∧((decide (z4<(s.length:Int)))=false→(.tup [.agg (Ac 0 1 q1.d),vO 2]:S)= .tup [.agg (Ac 0 1 z7.d),vO 2]∧([.tree q1.d.plan.shapes,.lst .lev q1.d.stack,.lst .ev q1.out]:List Blk)=[.tree z7.d.plan.shapes,.lst .lev z7.d.stack,.lst .ev z7.out])))) (by kernel_rfl) ?_
 refine⟨(Fr d (by omega) ((by first|(exact hsf)|(exact hp2))) (by omega)),Bc (j:=(⟨d,([]:List Ev),0⟩:Kq)) (by first|rfl|simp) rfl (by dsimp only[Kr];exact⟨by omega,rfl,rfl,hp3,hp4,by simp⟩),fun (q1:Kq) hq_q1=>?_⟩
 have hi_q1:q1.i≤s.length∧Ck ⟨q1.d,q1.out⟩ (List.drop q1.i s)=Ck ⟨d,[]⟩ s∧(q1.d).plan=d.plan∧List.length (q1.d).stack≤1048576∧((0:Int)≤(q1.d).scan.bits∧(q1.d).scan.bits≤18446744073709551615)∧q1.out.length≤14*q1.i:=hq_q1
 obtain ⟨v1,v2,v3,v4,v5,v6⟩:=hi_q1
 have hsl:q1.d.plan.shapes.length=d.plan.shapes.length:=by rw[v3]
 have hsf: ∀e∈q1.d.plan.shapes,e.fields.length≤1048576:=by rw[v3];exact hp2
 refine dsp (fun h1 p1=>?_) fun h1 p1=>?_
 refine⟨(Bo (l:=s) (i:=q1.i) (by omega)),fun x1 hx1=>?_⟩
 have hb_x1:=UInt8.toNat_lt x1
 rw[C7 hx1,Gv] at v2
 have hub:=Akh x1
 have hl:=Pw (d:=q1.d) (b:=(x1.toNat:Int))
 exact⟨hx1,(by omega),hx1,(by omega),(Ah (by omega) (by omega)),(Ah (by omega) (by omega)),(Aeh q1.d _ (by omega) ((by first|(exact hsf)|(exact hp2))) (by omega) (by omega)),(Aeh q1.d _ (by omega) ((by first|(exact hsf)|(exact hp2))) (by omega) (by omega)),rfl,rfl,(by omega),(Ah (by omega) (by omega)),Bm (j:=(⟨(B4 q1.d ((UInt8.toNat x1:Nat):Int)).d,q1.out++(B4 q1.d ((UInt8.toNat x1:Nat):Int)).out,q1.i+1⟩:Kq)) (by first|rfl|simp) rfl (by dsimp only[Kr];exact⟨by omega,by rw[←v2];rfl,hl.1.trans v3,by omega,hl.2.2.2 v5,by rw[List.length_append];omega⟩) (by dsimp only[Kr];omega)⟩
 rw[List.drop_eq_nil_of_le (by omega),Xm] at v2
 refine have hm1:(Ck ⟨d,[]⟩ s).d=q1.d:=?_;?_
 rotate_left
 refine have hm2:(Ck ⟨d,[]⟩ s).out=q1.out:=?_;?_
 rotate_left
 exact⟨(by rw[hm1]<;>rfl),(by rw[hm1,hm2]<;>rfl)⟩
 all_goals first|(rfl)|((rw[←v2];done))|(grind)
structure Fb where
 out:List Ev
 i:Nat
def Df (l:List Ev):Fam:=⟨Fb,fun q1=>[(0,.v (.c (.seq .ev l))),(3,.v (vO 0)),(4,.v (vI ((q1.i:Nat):Int)))],fun q1=>[.lst .ev q1.out],fun q1=>q1.i≤List.length l∧L9 q1.out (List.drop q1.i l)=Fj l∧List.length q1.out≤q1.i∧tx q1.out+tx (List.drop q1.i l)≤tx l,fun q1=>List.length l-q1.i⟩
theorem Aga (l:List Ev) (hp1:List.length l≤100000000) (hp2:tx l≤100000000):Fun Tryz.prog 119 [.c (.seq .ev l)] [] (.v (vO 0)) [.lst .ev (Fj l)]:=by
 have hN:bigN=274877906944:=rfl
 have hI:Qs=9223372036854775807:=rfl
 refine Af Tryz.func119 (by kernel_rfl) (by kernel_rfl) (w:=let z11:=Df l;(.seg [.ty .ev,.at 0,.keep [0,3,4],.sel [0]] (.loop z11 fun q1=>let z6:=vI (((q1.i:Nat):Int)+1);let z7:=((List.length q1.out:Nat):Int)-1;.br (.intro (fun (x1:Ev)=>l[q1.i]? =some x1) fun x1=> .seg [.el .ev x1] (.br (.br (.seg [.as 13 (.v z6),.at 0,.keep [0,3,4],.sel [0]] (.next)) (.seg [.br true] (.br (.seg [.as 38 (.v (vI z7))] (.intro (fun (x2:Ev)=>q1.out[Int.toNat z7]? =some x2) fun x2=> .seg [.el .ev x2] (.br (.seg [.ord (os 15 [14]) [],.as 46 (.v (vI z7)),.as 49 (.v (vI z7)),.el .ev x2,.el .ev x2,.as 13 (.v z6),.at 0,.keep [0,3,4],.sel [0]] (.next)) (.seg [.ty .ev,.ty .ev,.as 13 (.v z6),.at 0,.keep [0,3,4],.sel [3]] (.next))))) (.seg [.ty .ev,.ty .ev,.as 13 (.v z6),.at 0,.keep [0,3,4],.sel [3]] (.next))))) (.seg [.br false,.ty .ev,.ty .ev,.as 13 (.v z6),.at 0,.keep [0,3,4],.sel [3]] (.next)))) (.leaf () [0])),z11.Has [(0,.v (.c (.seq .ev l))),(3,.v (vO 0)),(4,.v (vI 0))] [.lst .ev ([]:List Ev)]∧∀q1,z11.inv q1→(let z8:=((List.length q1.out:Nat):Int);let z10:=((q1.i:Nat):Int);let z9:=(.v (vI (IntKind.i64.wrap (z10+1))):S)= .v (vI (z10+1));((decide (z10<((List.length l:Nat):Int)))=true→(∃(x1:Ev),l[q1.i]? =some x1)∧∀(x1:Ev),(l[q1.i]? =some x1)→(let z3:=List.length q1.out+List.length [x1]≤bigN;let z4:=decide (x1.kind=4);let z5:List Blk:=[.lst .ev (q1.out++[x1])];(l[q1.i]? =some x1)∧((0:Int)≤z10)∧(z4=true→((decide (x1.text=[]))=true→z9∧z11.Nxt q1 [(0,.v (.c (.seq .ev l))),(3,.v (vO 0)),(4,.v (vI (z10+1)))] [.lst .ev q1.out])∧((decide (x1.text=[]))=false→(z4=true)∧((decide (0<z8))=true→((.v (vI (IntKind.i64.wrap (z8-1))):S)= .v (vI (z8-1)))∧(∃(x2:Ev),q1.out[Int.toNat (z8-1)]? =some x2)∧∀(x2:Ev),(q1.out[Int.toNat (z8-1)]? =some x2)→(let z1:=q1.out[Int.toNat (z8-1)]? =some x2;let z2:=((List.length x2.text+List.length x1.text:Nat):Int)≤Qs;(z8-1<z8)∧((0:Int)≤z8-1)∧z1∧((decide (x2.kind=4))=true→((.v (vI (IntKind.i64.wrap (z8-1))):S)= .v (vI (z8-1)))∧((.v (vI (IntKind.i64.wrap (z8-1))):S)= .v (vI (z8-1)))∧((.v (vI (IntKind.i64.wrap (z8-1))):S)= .v (vI (z8-1)))∧((.v (vI (IntKind.i64.wrap (z8-1))):S)= .v (vI (z8-1)))∧(z8-1<z8)∧((0:Int)≤z8-1)∧(z8-1<z8)∧((0:Int)≤z8-1)∧z1∧z1∧z2∧z2∧(z8-1<z8)∧((0:Int)≤z8-1)∧(z8-1<z8)∧((0:Int)≤z8-1)∧z1∧z9∧z11.Nxt q1 [(0,.v (.c (.seq .ev l))),(3,.v (vO 0)),(4,.v (vI (z10+1)))] [.lst .ev (List.set q1.out (Int.toNat (z8-1)) (⟨x2.kind,x2.field,x2.bits,x2.len,x2.text++x1.text,x2.code,x2.at_⟩:Ev))])∧((decide (x2.kind=4))=false→z3∧z9∧z11.Nxt q1 [(0,.v (.c (.seq .ev l))),(3,.v (vO 0)),(4,.v (vI (z10+1)))] z5)))∧((decide (0<z8))=false→z3∧z9∧z11.Nxt q1 [(0,.v (.c (.seq .ev l))),(3,.v (vO 0)),(4,.v (vI (z10+1)))] z5)))∧(z4=false→(z4=false)∧z3∧z9∧z11.Nxt q1 [(0,.v (.c (.seq .ev l))),(3,.v (vO 0)),(4,.v (vI (z10+1)))] z5)))∧((decide (z10<((List.length l:Nat):Int)))=false→(.v (vO 0):S)= .v (vO 0)∧([.lst .ev q1.out]:List Blk)=[.lst .ev (Fj l)])))) (by kernel_rfl) ?_
 refine⟨Bc (j:=(⟨([]:List Ev),0⟩:Fb)) (by first|rfl|simp) rfl (by dsimp only[Df];exact⟨by omega,rfl,by simp,by simp[tx]⟩),fun (q1:Fb) hq_q1=>?_⟩
 have hi_q1:q1.i≤List.length l∧L9 q1.out (List.drop q1.i l)=Fj l∧List.length q1.out≤q1.i∧tx q1.out+tx (List.drop q1.i l)≤tx l:=hq_q1
 obtain ⟨v1,v2,v3,v4⟩:=hi_q1
 refine dsp (fun h1 p1=>?_) fun h1 p1=>?_
 refine⟨(Bo (l:=l) (i:=q1.i) (by omega)),fun x1 hx1=>?_⟩
 rw[C7 hx1,Gw] at v2
 rw[C7 hx1,tx] at v4
 refine⟨hx1,(by omega),dsp (fun h2 p2=>?_) fun h2 p2=>?_⟩
 refine dsp (fun h3 p3=>?_) fun h3 p3=>?_
 exact⟨(Ah (by omega) (by omega)),Bm (j:=(⟨q1.out,q1.i+1⟩:Fb)) (by first|rfl|simp) rfl (by dsimp only[Df];exact(by first|(exact⟨by omega,by rw[E8 (by assumption) (by assumption)] at v2;exact v2,by omega,by omega⟩)|(exact⟨by omega,by rw[hmm] at v2;rw[hix];exact v2,by rw[List.length_set];omega,by rw[hix];exact Nat.le_trans (Nat.add_le_add_right (Nat.le_of_eq hms) _) (by omega)⟩)|(exact⟨by omega,by rw[Gx (by assumption) hse] at v2;exact v2,by simp;omega,by rw[E7];simp[tx];omega⟩)|(exact⟨by omega,by rw[Dn (by assumption)] at v2;exact v2,by simp;omega,by rw[E7];simp[tx];omega⟩))) (by dsimp only[Df];omega)⟩
 refine⟨h2,dsp (fun h4 p4=>?_) fun h4 p4=>?_⟩
 refine⟨(Ah (by omega) (by omega)),(Bo (l:=q1.out) (i:=Int.toNat (((List.length q1.out:Nat):Int)-1)) (by omega)),fun x2 hx2=>?_⟩
 refine⟨(by omega),(by omega),?_⟩
 have hle:=Ag3 hx2
 have hix:Int.toNat ((q1.out.length:Int)-1)=q1.out.length-1:=by omega
 have hxe:=hix▸hx2
 refine⟨hx2,dsp (fun h5 p5=>?_) fun h5 p5=>?_⟩
 have hmm:=Td (o:=q1.out) (e:=x1) (x:=x2) (by assumption) (by assumption) (by omega) hxe (by assumption)
 have hms:=Ag4 x1.text hxe
 exact⟨(Ah (by omega) (by omega)),(Ah (by omega) (by omega)),(Ah (by omega) (by omega)),(Ah (by omega) (by omega)),(by omega),(by omega),(by omega),(by omega),hx2,hx2,(by omega),(by omega),(by omega),(by omega),(by omega),(by omega),hx2,(Ah (by omega) (by omega)),Bm (j:=(⟨List.set q1.out (Int.toNat (((List.length q1.out:Nat):Int)-1)) (⟨x2.kind,x2.field,x2.bits,x2.len,x2.text++x1.text,x2.code,x2.at_⟩:Ev),q1.i+1⟩:Fb)) (by first|rfl|simp) rfl (by dsimp only[Df];exact(by first|(exact⟨by omega,by rw[E8 (by assumption) (by assumption)] at v2;exact v2,by omega,by omega⟩)|(exact⟨by omega,by rw[hmm] at v2;rw[hix];exact v2,by rw[List.length_set];omega,by rw[hix];exact Nat.le_trans (Nat.add_le_add_right (Nat.le_of_eq hms) _) (by omega)⟩)|(exact⟨by omega,by rw[Gx (by assumption) hse] at v2;exact v2,by simp;omega,by rw[E7];simp[tx];omega⟩)|(exact⟨by omega,by rw[Dn (by assumption)] at v2;exact v2,by simp;omega,by rw[E7];simp[tx];omega⟩))) (by dsimp only[Df];omega)⟩
 have hse: ¬(0<q1.out.length∧(Qn q1.out).kind=4):=fun h=>by rw[Rt hxe] at h;exact absurd h.2 (by assumption)
 exact⟨(by simp only[List.length_cons,List.length_nil];omega),(Ah (by omega) (by omega)),Bm (j:=(⟨q1.out++[x1],q1.i+1⟩:Fb)) (by first|rfl|simp) rfl (by dsimp only[Df];exact(by first|(exact⟨by omega,by rw[E8 (by assumption) (by assumption)] at v2;exact v2,by omega,by omega⟩)|(exact⟨by omega,by rw[hmm] at v2;rw[hix];exact v2,by rw[List.length_set];omega,by rw[hix];exact Nat.le_trans (Nat.add_le_add_right (Nat.le_of_eq hms) _) (by omega)⟩)|(exact⟨by omega,by rw[Gx (by assumption) hse] at v2;exact v2,by simp;omega,by rw[E7];simp[tx];omega⟩)|(exact⟨by omega,by rw[Dn (by assumption)] at v2;exact v2,by simp;omega,by rw[E7];simp[tx];omega⟩))) (by dsimp only[Df];omega)⟩
 have hse: ¬(0<q1.out.length∧(Qn q1.out).kind=4):=fun h=>by omega
 exact⟨(by simp only[List.length_cons,List.length_nil];omega),(Ah (by omega) (by omega)),Bm (j:=(⟨q1.out++[x1],q1.i+1⟩:Fb)) (by first|rfl|simp) rfl (by dsimp only[Df];exact(by first|(exact⟨by omega,by rw[E8 (by assumption) (by assumption)] at v2;exact v2,by omega,by omega⟩)|(exact⟨by omega,by rw[hmm] at v2;rw[hix];exact v2,by rw[List.length_set];omega,by rw[hix];exact Nat.le_trans (Nat.add_le_add_right (Nat.le_of_eq hms) _) (by omega)⟩)|(exact⟨by omega,by rw[Gx (by assumption) hse] at v2;exact v2,by simp;omega,by rw[E7];simp[tx];omega⟩)|(exact⟨by omega,by rw[Dn (by assumption)] at v2;exact v2,by simp;omega,by rw[E7];simp[tx];omega⟩))) (by dsimp only[Df];omega)⟩
 exact⟨h2,(by simp only[List.length_cons,List.length_nil];omega),(Ah (by omega) (by omega)),Bm (j:=(⟨q1.out++[x1],q1.i+1⟩:Fb)) (by first|rfl|simp) rfl (by dsimp only[Df];exact(by first|(exact⟨by omega,by rw[E8 (by assumption) (by assumption)] at v2;exact v2,by omega,by omega⟩)|(exact⟨by omega,by rw[hmm] at v2;rw[hix];exact v2,by rw[List.length_set];omega,by rw[hix];exact Nat.le_trans (Nat.add_le_add_right (Nat.le_of_eq hms) _) (by omega)⟩)|(exact⟨by omega,by rw[Gx (by assumption) hse] at v2;exact v2,by simp;omega,by rw[E7];simp[tx];omega⟩)|(exact⟨by omega,by rw[Dn (by assumption)] at v2;exact v2,by simp;omega,by rw[E7];simp[tx];omega⟩))) (by dsimp only[Df];omega)⟩
 rw[List.drop_eq_nil_of_le (by omega),Ux] at v2
 refine⟨rfl,(Aa (congrArg (Blk.lst .ev) ?_) rfl)⟩
 rotate_left
 all_goals first|(exact v2)|((rw[←v2];done))
structure Eh where
 out:List Ev
 i:Nat
def Dg (l:List Ev):Fam:=⟨Eh,fun q1=>[(0,.v (.c (.seq .ev l))),(3,.v (vO 0)),(4,.v (vI ((q1.i:Nat):Int)))],fun q1=>[.lst .ev q1.out],fun q1=>q1.i≤List.length l∧L9 q1.out (List.drop q1.i l)=Fj l∧List.length q1.out≤q1.i∧sep q1.out (List.drop q1.i l),fun q1=>List.length l-q1.i⟩
structure G0 where
 i:Nat
 texts:List Int
 first:Ev
 found:Bool
def Ei (l:List Ev) (q1:Eh):Fam:=⟨G0,fun q2=>[(0,.v (.c (.seq .ev l))),(3,.v (vO 0)),(4,.v (vI ((q2.i:Nat):Int))),(6,.v (vO 1)),(7,.v (vP 2)),(8,.v (vB q2.found))],fun q2=>[.lst .ev q1.out,.lst .u8 q2.texts,.cells (cEv q2.first)],fun q2=>q2.i≤List.length l∧q1.i<q2.i∧V5 q1.out q2.first (List.map Cy q2.texts) q2.found (List.drop q2.i l) (Fj l)∧List.length q2.texts+tx (List.drop q2.i l)≤tx l,fun q2=>List.length l-q2.i⟩
theorem Agb (l:List Ev) (hp1:List.length l≤100000000) (hp2:tx l≤100000000):Fun Tryz.prog 124 [.c (.seq .ev l)] [] (.v (vO 0)) [.lst .ev (Fj l)]:=by
 have hN:bigN=274877906944:=rfl
 refine Af Tryz.func124 (by kernel_rfl) (by kernel_rfl) (w:=let z10:=((List.length l:Nat):Int);let z11:=Dg l;(.seg [.ty .ev,.at 0,.keep [0,3,4],.sel [0]] (.loop z11 fun q1=> .br (.intro (fun (x1:Ev)=>l[q1.i]? =some x1) fun x1=> .seg [.el .ev x1,.as 19 (.v (vI (((q1.i:Nat):Int)+1)))] (.br (.seg [.ty .ev,.ty .ev,.at 0,.keep [0,3,4],.sel [3]] (.next)) (.seg [.ord (os 7 [4,5]) [],.at 0,.keep [0,3,4,6,7,8],.sel [0,2,3]] (.loop (Ei l q1) fun q2=>let z3:=vI (((q2.i:Nat):Int)+1);.br (.intro (fun (x2:Ev)=>l[q2.i]? =some x2) fun x2=> .seg [.el .ev x2] (.br (.br (.seg [.el .ev x2] (.br (.seg [.el .ev x2,.el .ev x2,.ty .u8,.as 68 (.v z3),.at 0,.keep [0,3,4,6,7,8],.sel [0,3,2]] (.next)) (.seg [.el .ev x2,.ty .u8,.as 68 (.v z3),.at 0,.keep [0,3,4,6,7,8],.sel [0,3,2]] (.next)))) (.seg [.el .ev x2,.ty .u8,.as 68 (.v z3),.at 0,.keep [0,3,4,6,7,8],.sel [0,3,2]] (.next))) (.br (.seg [.ty .ev,.ty .ev,.at 0,.keep [0,3,4],.sel [4]] (.next)) (.seg [.at 0,.keep [0,3,4],.sel [0]] (.next))))) (.br (.seg [.ty .ev,.ty .ev,.at 0,.keep [0,3,4],.sel [4]] (.next)) (.seg [.at 0,.keep [0,3,4],.sel [0]] (.next))))))) (.leaf () [0])),z11.Has [(0,.v (.c (.seq .ev l))),(3,.v (vO 0)),(4,.v (vI 0))] [.lst .ev ([]:List Ev)]∧∀q1,z11.inv q1→(let z8:=((q1.i:Nat):Int);let z9:=Ei l q1;((decide (z8<z10))=true→(∃(x1:Ev),l[q1.i]? =some x1)∧∀(x1:Ev),(l[q1.i]? =some x1)→((l[q1.i]? =some x1)∧((0:Int)≤z8)∧((.v (vI (IntKind.i64.wrap (z8+1))):S)= .v (vI (z8+1)))∧((!decide (x1.kind=4))=true→(List.length q1.out+List.length [x1]≤bigN)∧z11.Nxt q1 [(0,.v (.c (.seq .ev l))),(3,.v (vO 0)),(4,.v (vI (z8+1)))] [.lst .ev (q1.out++[x1])])∧((!decide (x1.kind=4))=false→(List.length x1.text≤bigN)∧z9.Has [(0,.v (.c (.seq .ev l))),(3,.v (vO 0)),(4,.v (vI (z8+1))),(6,.v (vO 1)),(7,.v (vP 2)),(8,.v (vB (!decide (x1.text=[]))))] [.lst .ev q1.out,.lst .u8 (List.map (fun b=>(UInt8.toNat b:Int)) x1.text),.cells (cEv x1)]∧∀q2,z9.inv q2→(let z5:=((q2.i:Nat):Int);let z6:=q2.found=false→z11.Nxt q1 [(0,.v (.c (.seq .ev l))),(3,.v (vO 0)),(4,.v (vI z5))] [.lst .ev q1.out];let z7:=(⟨q2.first.kind,q2.first.field,q2.first.bits,q2.first.len,List.map Cy q2.texts,q2.first.code,q2.first.at_⟩:Ev);let z4:=q2.found=true→(List.length q1.out+List.length [z7]≤bigN)∧z11.Nxt q1 [(0,.v (.c (.seq .ev l))),(3,.v (vO 0)),(4,.v (vI z5))] [.lst .ev (q1.out++[z7])];((decide (z5<z10))=true→(∃(x2:Ev),l[q2.i]? =some x2)∧∀(x2:Ev),(l[q2.i]? =some x2)→(let z1:=List.map (fun b=>(UInt8.toNat b:Int)) x2.text;let z2:=l[q2.i]? =some x2;z2∧((0:Int)≤z5)∧((decide (x2.kind=4))=true→((!q2.found)=true→z2∧((0:Int)≤z5)∧((!decide (x2.text=[]))=true→z2∧((0:Int)≤z5)∧z2∧((0:Int)≤z5)∧(List.length q2.texts+List.length z1≤bigN)∧((.v (vI (IntKind.i64.wrap (z5+1))):S)= .v (vI (z5+1)))∧z9.Nxt q2 [(0,.v (.c (.seq .ev l))),(3,.v (vO 0)),(4,.v (vI (z5+1))),(6,.v (vO 1)),(7,.v (vP 2)),(8,.v (vB true))] [.lst .ev q1.out,.lst .u8 (q2.texts++z1),.cells (cEv x2)])∧((!decide (x2.text=[]))=false→z2∧((0:Int)≤z5)∧(List.length q2.texts+List.length z1≤bigN)∧((.v (vI (IntKind.i64.wrap (z5+1))):S)= .v (vI (z5+1)))∧z9.Nxt q2 [(0,.v (.c (.seq .ev l))),(3,.v (vO 0)),(4,.v (vI (z5+1))),(6,.v (vO 1)),(7,.v (vP 2)),(8,.v (vB q2.found))] [.lst .ev q1.out,.lst .u8 (q2.texts++z1),.cells (cEv q2.first)]))∧((!q2.found)=false→z2∧((0:Int)≤z5)∧(List.length q2.texts+List.length z1≤bigN)∧((.v (vI (IntKind.i64.wrap (z5+1))):S)= .v (vI (z5+1)))∧z9.Nxt q2 [(0,.v (.c (.seq .ev l))),(3,.v (vO 0)),(4,.v (vI (z5+1))),(6,.v (vO 1)),(7,.v (vP 2)),(8,.v (vB q2.found))] [.lst .ev q1.out,.lst .u8 (q2.texts++z1),.cells (cEv q2.first)]))∧((decide (x2.kind=4))=false→z4∧z6)))∧((decide (z5<z10))=false→z4∧z6)))))∧((decide (z8<z10))=false→(.v (vO 0):S)= .v (vO 0)∧([.lst .ev q1.out]:List Blk)=[.lst .ev (Fj l)])))) (by kernel_rfl) ?_
 refine⟨Bc (j:=(⟨([]:List Ev),0⟩:Eh)) (by first|rfl|simp) rfl (by dsimp only[Dg];exact⟨by omega,rfl,by simp,Ahz⟩),fun (q1:Eh) hq_q1=>?_⟩
 have hi_q1:q1.i≤List.length l∧L9 q1.out (List.drop q1.i l)=Fj l∧List.length q1.out≤q1.i∧sep q1.out (List.drop q1.i l):=hq_q1
 obtain ⟨v1,v2,v3,v4⟩:=hi_q1
 refine dsp (fun h1 p1=>?_) fun h1 p1=>?_
 refine⟨(Bo (l:=l) (i:=q1.i) (by omega)),fun x1 hx1=>?_⟩
 rw[C7 hx1,Gw] at v2
 have hdx:=C7 hx1
 have htl:tx (List.drop q1.i l)=x1.text.length+tx (List.drop (q1.i+1) l):=by rw[hdx,tx]
 have htl2:=Ad8 l q1.i
 have hse:=fun hk=>Ai3 v4 hx1 hk
 refine⟨hx1,(by omega),(Ah (by omega) (by omega)),fun h2=>have q2:=Am h2;have p2:=of_decide_eq_false q2;?_,fun h2=>have q2:=Aj h2;have p2:=of_decide_eq_true q2;?_⟩
 exact⟨(by simp only[List.length_cons,List.length_nil];omega),Bm (j:=(⟨q1.out++[x1],q1.i+1⟩:Eh)) (by first|rfl|simp) rfl (by dsimp only[Dg];exact(by first|(exact⟨by omega,by rw[Dn (by assumption)] at v2;exact v2,by simp;omega,Mw (by assumption)⟩)|(exact⟨by omega,(w3.1 (by assumption)).2,by simp;omega,hsp _⟩)|(exact⟨by omega,(w3.2 (by simpa using by assumption)).2,by omega,hsp _⟩))) (by dsimp only[Dg];omega)⟩
 have hse:=hse (by assumption)
 refine⟨(by omega),Bc (j:=(⟨q1.i+1,List.map (fun b=>(UInt8.toNat b:Int)) x1.text,x1,!decide (x1.text=[])⟩:G0)) (by first|rfl|simp) rfl (by dsimp only[Ei];exact(by first|(exact⟨by omega,by omega,by rw[Ca];exact Af8 (by assumption) hse v2,by simp;omega⟩))),fun (q2:G0) hq_q2=>?_⟩
 have hi_q2:q2.i≤List.length l∧q1.i<q2.i∧V5 q1.out q2.first (List.map Cy q2.texts) q2.found (List.drop q2.i l) (Fj l)∧List.length q2.texts+tx (List.drop q2.i l)≤tx l:=hq_q2
 obtain ⟨w1,w2,w3,w4⟩:=hi_q2
 refine dsp (fun h3 p3=>?_) fun h3 p3=>?_
 refine⟨(Bo (l:=l) (i:=q2.i) (by omega)),fun x2 hx2=>?_⟩
 have hdr:=C7 hx2
 have htx:tx (List.drop q2.i l)=x2.text.length+tx (List.drop (q2.i+1) l):=by rw[hdr,tx]
 refine⟨hx2,(by omega),dsp (fun h4 p4=>?_) fun h4 p4=>?_⟩
 refine⟨fun h5=>have q5:=Am h5;?_,fun h5=>have q5:=Aj h5;?_⟩
 refine⟨hx2,(by omega),fun h6=>have q6:=Am h6;have p6:=of_decide_eq_false q6;?_,fun h6=>have q6:=Aj h6;have p6:=of_decide_eq_true q6;?_⟩
 exact⟨hx2,(by omega),hx2,(by omega),(by simp only[List.length_map];omega),(Ah (by omega) (by omega)),Bm (j:=(⟨q2.i+1,q2.texts++(List.map (fun b=>(UInt8.toNat b:Int)) x2.text),x2,true⟩:G0)) (by first|rfl|simp) rfl (by dsimp only[Ei];exact(by first|(exact⟨by omega,by omega,by rw[List.map_append,Ca];exact Aj1 (hdr▸w3) (by assumption) (by simpa using by assumption),by simp;omega⟩)|(exact⟨by omega,by omega,by rw[List.map_append,Ca];exact Aj2 (hdr▸w3) (by assumption) (by assumption) (by simpa using by assumption) hse,by simp;omega⟩)|(exact⟨by omega,by omega,by rw[List.map_append,Ca];exact Aj3 (hdr▸w3) (by assumption) (by assumption) (by simpa using by assumption),by simp;omega⟩))) (by dsimp only[Ei];omega)⟩
 exact⟨hx2,(by omega),(by simp only[List.length_map];omega),(Ah (by omega) (by omega)),Bm (j:=(⟨q2.i+1,q2.texts++(List.map (fun b=>(UInt8.toNat b:Int)) x2.text),q2.first,q2.found⟩:G0)) (by first|rfl|simp) rfl (by dsimp only[Ei];exact(by first|(exact⟨by omega,by omega,by rw[List.map_append,Ca];exact Aj1 (hdr▸w3) (by assumption) (by simpa using by assumption),by simp;omega⟩)|(exact⟨by omega,by omega,by rw[List.map_append,Ca];exact Aj2 (hdr▸w3) (by assumption) (by assumption) (by simpa using by assumption) hse,by simp;omega⟩)|(exact⟨by omega,by omega,by rw[List.map_append,Ca];exact Aj3 (hdr▸w3) (by assumption) (by assumption) (by simpa using by assumption),by simp;omega⟩))) (by dsimp only[Ei];omega)⟩
 exact⟨hx2,(by omega),(by simp only[List.length_map];omega),(Ah (by omega) (by omega)),Bm (j:=(⟨q2.i+1,q2.texts++(List.map (fun b=>(UInt8.toNat b:Int)) x2.text),q2.first,q2.found⟩:G0)) (by first|rfl|simp) rfl (by dsimp only[Ei];exact(by first|(exact⟨by omega,by omega,by rw[List.map_append,Ca];exact Aj1 (hdr▸w3) (by assumption) (by simpa using by assumption),by simp;omega⟩)|(exact⟨by omega,by omega,by rw[List.map_append,Ca];exact Aj2 (hdr▸w3) (by assumption) (by assumption) (by simpa using by assumption) hse,by simp;omega⟩)|(exact⟨by omega,by omega,by rw[List.map_append,Ca];exact Aj3 (hdr▸w3) (by assumption) (by assumption) (by simpa using by assumption),by simp;omega⟩))) (by dsimp only[Ei];omega)⟩
 have hsp: ∀o,sep o (List.drop q2.i l):=fun o=>Aak (.inr ⟨x2,by assumption,by assumption⟩)
 refine⟨fun h5=>?_,fun h5=>?_⟩
 exact⟨(by simp only[List.length_map,List.length_cons,List.length_nil];omega),Bm (j:=(⟨q1.out++[(⟨q2.first.kind,q2.first.field,q2.first.bits,q2.first.len,List.map Cy q2.texts,q2.first.code,q2.first.at_⟩:Ev)],q2.i⟩:Eh)) rfl rfl (by dsimp only[Dg];exact(by first|(exact⟨by omega,by rw[Dn (by assumption)] at v2;exact v2,by simp;omega,Mw (by assumption)⟩)|(exact⟨by omega,(w3.1 (by assumption)).2,by simp;omega,hsp _⟩)|(exact⟨by omega,(w3.2 (by simpa using by assumption)).2,by omega,hsp _⟩))) (by dsimp only[Dg];omega)⟩
 exact Bm (j:=(⟨q1.out,q2.i⟩:Eh)) rfl rfl (by dsimp only[Dg];exact(by first|(exact⟨by omega,by rw[Dn (by assumption)] at v2;exact v2,by simp;omega,Mw (by assumption)⟩)|(exact⟨by omega,(w3.1 (by assumption)).2,by simp;omega,hsp _⟩)|(exact⟨by omega,(w3.2 (by simpa using by assumption)).2,by omega,hsp _⟩))) (by dsimp only[Dg];omega)
 have hsp: ∀o,sep o (List.drop q2.i l):=fun o=>Aak (.inl (by omega))
 refine⟨fun h4=>?_,fun h4=>?_⟩
 exact⟨(by simp only[List.length_map,List.length_cons,List.length_nil];omega),Bm (j:=(⟨q1.out++[(⟨q2.first.kind,q2.first.field,q2.first.bits,q2.first.len,List.map Cy q2.texts,q2.first.code,q2.first.at_⟩:Ev)],q2.i⟩:Eh)) rfl rfl (by dsimp only[Dg];exact(by first|(exact⟨by omega,by rw[Dn (by assumption)] at v2;exact v2,by simp;omega,Mw (by assumption)⟩)|(exact⟨by omega,(w3.1 (by assumption)).2,by simp;omega,hsp _⟩)|(exact⟨by omega,(w3.2 (by simpa using by assumption)).2,by omega,hsp _⟩))) (by dsimp only[Dg];omega)⟩
 exact Bm (j:=(⟨q1.out,q2.i⟩:Eh)) rfl rfl (by dsimp only[Dg];exact(by first|(exact⟨by omega,by rw[Dn (by assumption)] at v2;exact v2,by simp;omega,Mw (by assumption)⟩)|(exact⟨by omega,(w3.1 (by assumption)).2,by simp;omega,hsp _⟩)|(exact⟨by omega,(w3.2 (by simpa using by assumption)).2,by omega,hsp _⟩))) (by dsimp only[Dg];omega)
 rw[List.drop_eq_nil_of_le (by omega),Ux] at v2
 refine⟨rfl,(Aa (congrArg (Blk.lst .ev) ?_) rfl)⟩
 rotate_left
 all_goals first|(exact v2)|((rw[←v2];done))
theorem Ai7 (d:Dcd) (s:List UInt8) (hp1:List.length (d).plan.shapes≤1048576) (hp2: ∀e∈(d).plan.shapes,e.fields.length≤1048576) (hp3:List.length (d).stack≤1048576) (hp4:(0:Int)≤(d).scan.bits∧(d).scan.bits≤18446744073709551615) (hp5:s.length≤1048576):Fun Tryz.prog 71 [.agg (Bi d),vT s] [] (.tup [.agg (Ac 0 1 (Bb d s).d),vO 2]) [.tree (Bb d s).d.plan.shapes,.lst .lev (Bb d s).d.stack,.lst .ev (Bb d s).out]:=by
 have hN:bigN=274877906944:=rfl
 have hfb:=Aea d s
 refine Af Tryz.func71 (by kernel_rfl) (by kernel_rfl) (w:=let z1:=Ck ⟨d,[]⟩ s;let z2:=Ac 0 1 z1.d;(.seg [.call [] (.tup [.agg z2,vO 2]) [.tree z1.d.plan.shapes,.lst .lev z1.d.stack,.lst .ev z1.out],.tree (.first 0 (.first 1 (.one 2 (.one 3 (.first 4 (.done)))))) 3 [],.call [] (.v (vO 0)) [.lst .ev (Fj z1.out)]] (.leaf () [2,3,6]),(Fun Tryz.prog 123 [.agg (Bi d),vT s] [] (.tup [.agg z2,vO 2]) [.tree z1.d.plan.shapes,.lst .lev z1.d.stack,.lst .ev z1.out])∧(Fun Tryz.prog 124 [.c (.seq .ev z1.out)] [] (.v (vO 0)) [.lst .ev (Fj z1.out)])∧(.tup [.agg z2,vO 2]:S)= .tup [.agg (Ac 0 1 (Bb d s).d),vO 2]∧([.tree z1.d.plan.shapes,.lst .lev z1.d.stack,.lst .ev (Fj z1.out)]:List Blk)=[.tree (Bb d s).d.plan.shapes,.lst .lev (Bb d s).d.stack,.lst .ev (Bb d s).out])) (by kernel_rfl) ?_
 refine⟨(Aef d _ (by omega) (hp2) (by omega) (by omega) (by omega)),(Agb _ (by omega) (by omega)),?_⟩
 have hm1:(Bb d s).d=(Ck ⟨d,[]⟩ s).d:=by rfl
 have hm2:(Bb d s).out=Fj (Ck ⟨d,[]⟩ s).out:=by rfl
 exact⟨(by rw[hm1]<;>rfl),(by rw[hm1,hm2]<;>rfl)⟩
theorem Ai8 (d:Dcd) (s:List UInt8) (hp1:List.length (d).plan.shapes≤1048576) (hp2: ∀e∈(d).plan.shapes,e.fields.length≤1048576) (hp3:List.length (d).stack≤1048576) (hp4:(0:Int)≤(d).scan.bits∧(d).scan.bits≤18446744073709551615) (hp5:s.length≤1048576):Fun Tryz.prog 64 [.agg (Bi d),vT s] [] (.tup [.agg (Ac 0 1 (Bb d s).d),vO 2]) [.tree (Bb d s).d.plan.shapes,.lst .lev (Bb d s).d.stack,.lst .ev (Bb d s).out]:=by
 have hN:bigN=274877906944:=rfl
 have hfb:=Aea d s
 refine Af Tryz.func64 (by kernel_rfl) (by kernel_rfl) (w:=let z1:=Ck ⟨d,[]⟩ s;let z2:=Ac 0 1 z1.d;(.seg [.call [] (.tup [.agg z2,vO 2]) [.tree z1.d.plan.shapes,.lst .lev z1.d.stack,.lst .ev z1.out],.tree (.first 0 (.first 1 (.one 2 (.one 3 (.first 4 (.done)))))) 3 [],.call [] (.v (vO 0)) [.lst .ev (Fj z1.out)]] (.leaf () [2,3,6]),(Fun Tryz.prog 118 [.agg (Bi d),vT s] [] (.tup [.agg z2,vO 2]) [.tree z1.d.plan.shapes,.lst .lev z1.d.stack,.lst .ev z1.out])∧(Fun Tryz.prog 119 [.c (.seq .ev z1.out)] [] (.v (vO 0)) [.lst .ev (Fj z1.out)])∧(.tup [.agg z2,vO 2]:S)= .tup [.agg (Ac 0 1 (Bb d s).d),vO 2]∧([.tree z1.d.plan.shapes,.lst .lev z1.d.stack,.lst .ev (Fj z1.out)]:List Blk)=[.tree (Bb d s).d.plan.shapes,.lst .lev (Bb d s).d.stack,.lst .ev (Bb d s).out])) (by kernel_rfl) ?_
 refine⟨(Aei d _ (by omega) (hp2) (by omega) (by omega) (by omega)),(Aga _ (by omega) (by omega)),?_⟩
 have hm1:(Bb d s).d=(Ck ⟨d,[]⟩ s).d:=by rfl
 have hm2:(Bb d s).out=Fj (Ck ⟨d,[]⟩ s).out:=by rfl
 exact⟨(by rw[hm1]<;>rfl),(by rw[hm1,hm2]<;>rfl)⟩
structure Ag7 where
 next:Dcd
 out:List Ev
 v:Nat
structure Ag8 where
 d:Dcd
 out:List Ev
 i:Nat
theorem Aej (d:Dcd) (hp1:List.length (d).plan.shapes≤1048576) (hp2: ∀e∈(d).plan.shapes,e.fields.length≤1048576) (hp3:List.length (d).stack≤1048576) (hp4:(0:Int)≤(d).scan.bits∧(d).scan.bits≤18446744073709551615):Fun Tryz.prog 217 [.agg (Bi d)] [] (.v (vB (Da d))) []:=by
 have hN:bigN=274877906944:=rfl
 refine Af Tryz.func217 (by kernel_rfl) (by kernel_rfl) (w:=(.seg [.call [] (.v (vB (Be d))) []] (.br (.br (.leaf () []) (.leaf () [])) (.leaf () [])),(Fun Tryz.prog 134 [.agg (Bi d)] [] (.v (vB (Be d))) [])∧((Be d)=true→((decide (d.mode=1))=true→(.v (vB (decide (d.scan.have_=0))):S)= .v (vB (Da d))∧([]:List Blk)=[])∧((decide (d.mode=1))=false→(.v (vB false):S)= .v (vB (Da d))∧([]:List Blk)=[]))∧((Be d)=false→(.v (vB false):S)= .v (vB (Da d))∧([]:List Blk)=[]))) (by kernel_rfl) ?_
 refine⟨(Sy d (by omega) (by omega)),fun h1=>?_,fun h1=>?_⟩
 refine dsp (fun h2 p2=>?_) fun h2 p2=>?_
 refine⟨(sB ?_),rfl⟩
 rotate_left
 refine⟨(sB ?_),rfl⟩
 rotate_left
 refine⟨(sB ?_),rfl⟩
 rotate_left
 all_goals first|(simp[Da, *];done)|(simp_all[Da];done)|(grind[Da])
theorem Aek (d:Dcd) (hp1:List.length (d).plan.shapes≤1048576) (hp2: ∀e∈(d).plan.shapes,e.fields.length≤1048576) (hp3:List.length (d).stack≤1048576) (hp4:(0:Int)≤(d).scan.bits∧(d).scan.bits≤18446744073709551615):Fun Tryz.prog 183 [.agg (Bi d)] [] (.v (vB (Da d))) []:=by
 have hN:bigN=274877906944:=rfl
 refine Af Tryz.func183 (by kernel_rfl) (by kernel_rfl) (w:=(.seg [.call [] (.v (vB (Be d))) []] (.br (.br (.leaf () []) (.leaf () [])) (.leaf () [])),(Fun Tryz.prog 104 [.agg (Bi d)] [] (.v (vB (Be d))) [])∧((Be d)=true→((decide (d.mode=1))=true→(.v (vB (decide (d.scan.have_=0))):S)= .v (vB (Da d))∧([]:List Blk)=[])∧((decide (d.mode=1))=false→(.v (vB false):S)= .v (vB (Da d))∧([]:List Blk)=[]))∧((Be d)=false→(.v (vB false):S)= .v (vB (Da d))∧([]:List Blk)=[]))) (by kernel_rfl) ?_
 refine⟨(Sz d (by omega) (by omega)),fun h1=>?_,fun h1=>?_⟩
 refine dsp (fun h2 p2=>?_) fun h2 p2=>?_
 refine⟨(sB ?_),rfl⟩
 rotate_left
 refine⟨(sB ?_),rfl⟩
 rotate_left
 refine⟨(sB ?_),rfl⟩
 rotate_left
 all_goals first|(simp[Da, *];done)|(simp_all[Da];done)|(grind[Da])
theorem Agc (d:Dcd) (hp1:List.length (d).plan.shapes≤1048576) (hp2: ∀e∈(d).plan.shapes,e.fields.length≤1048576) (hp3:List.length (d).stack≤1048576) (hp4:(0:Int)≤(d).scan.bits∧(d).scan.bits≤18446744073709551615):Fun Tryz.prog 185 [.agg (Bi d)] [] (.tup [.agg (Ac 0 1 (Ea d).d),vO 2]) [.tree (Ea d).d.plan.shapes,.lst .lev (Ea d).d.stack,.lst .ev (Ea d).out]:=by
 have hN:bigN=274877906944:=rfl
 refine Af Tryz.func185 (by kernel_rfl) (by kernel_rfl) (w:=let zi:Int→C:= .int .i64;let z1:List C:=[.own 1,zi d.plan.root,zi d.plan.deep,zi d.plan.most,zi 9,.own 2,.int .u64 d.scan.bits,zi d.scan.have_,zi d.start,zi d.at_,zi d.field.number,zi d.field.kind,.bool d.field.rep,.bool d.field.packed,zi d.field.msg,zi d.wire,zi d.want,zi d.utf.want,zi d.utf.low,zi d.utf.high,zi 9,zi 0,.int .u64 0,zi 0,.str [],zi 0,zi d.at_,.own 4];let z2:List C:=[zi 9,zi 0,.int .u64 0,zi 0,.str [],zi 0,zi d.at_];let z7:=Ac 0 1 (Ea d).d;let z8:=([]:List Ev);let z3:=As (⟨d,z8⟩:Mac) 10 d.at_;let z5:List Blk:=[.cells (Ab 1 2 4 z3),.tree z3.d.plan.shapes,.lst .lev z3.d.stack,.dead,.lst .ev z3.out];let z6:=([.tree d.plan.shapes,.lst .lev d.stack,.lst .ev z8]:List Blk);let z9:=z8++[(⟨9,0,0,0,[],0,d.at_⟩:Ev)];let z4:List Blk:=[.cells z1,.tree d.plan.shapes,.lst .lev d.stack,.dead,.lst .ev z9];let z10:=Ac 0 1 d;(.seg [.call [] (.v (.agg z10)) [.tree d.plan.shapes,.lst .lev d.stack],.call [] (.v (vB (Be d))) []] (.br (.seg [.at 8,.mk 4 27 .ev,.ord (os 10 [8]) [1]] (.leaf () [2,3,5])) (.br (.seg [.at 8,.mk 4 27 .ev,.ord (os 10 [8]) [1]] (.leaf () [2,3,5])) (.seg [.call [] (.v (vB (Da d))) []] (.br (.seg [.at 6,.mk 4 27 .ev,.ord (os 13 [8,12]) [4],.call [4,2,3,5] (.tup []) z4,.ord (os 10 [8]) [1]] (.leaf () [2,3,6])) (.seg [.at 3,.mk 4 27 .ev,.call [4,2,3,5] (.tup []) z5,.ord (os 10 [8]) [1]] (.leaf () [2,3,6])))))),(Fun Tryz.prog 70 [.agg (Bi d)] [] (.v (.agg z10)) [.tree d.plan.shapes,.lst .lev d.stack])∧(Fun Tryz.prog 134 [.agg (Bi d)] [] (.v (vB (Be d))) [])∧((!(Be d))=true→(.tup [.agg z10,vO 2]:S)= .tup [.agg z7,vO 2]∧z6=[.tree (Ea d).d.plan.shapes,.lst .lev (Ea d).d.stack,.lst .ev (Ea d).out])∧((!(Be d))=false→((decide (d.mode=9))=true→(.tup [.agg z10,vO 2]:S)= .tup [.agg z7,vO 2]∧z6=[.tree (Ea d).d.plan.shapes,.lst .lev (Ea d).d.stack,.lst .ev (Ea d).out])∧((decide (d.mode=9))=false→(Fun Tryz.prog 217 [.agg (Bi d)] [] (.v (vB (Da d))) [])∧((Da d)=true→(Fun Tryz.prog 218 [vP 0,.agg z2] [.cells [.own 1,zi d.plan.root,zi d.plan.deep,zi d.plan.most,zi 9,.own 2,.int .u64 d.scan.bits,zi d.scan.have_,zi d.start,zi d.at_,zi d.field.number,zi d.field.kind,.bool d.field.rep,.bool d.field.packed,zi d.field.msg,zi d.wire,zi d.want,zi d.utf.want,zi d.utf.low,zi d.utf.high,zi 9,zi 0,.int .u64 0,zi 0,.str [],zi 0,zi d.at_,.own 3],.tree d.plan.shapes,.lst .lev d.stack,.lst .ev z8] (.tup []) z4)∧(.tup [.agg (.own 0::zi d.plan.root::zi d.plan.deep::zi d.plan.most::zi 9:: .own 1:: .int .u64 d.scan.bits::zi d.scan.have_::zi d.start::zi d.at_::zi d.field.number::zi d.field.kind:: .bool d.field.rep:: .bool d.field.packed::zi d.field.msg::zi d.wire::zi d.want::zi d.utf.want::zi d.utf.low::zi d.utf.high::z2),vO 2]:S)= .tup [.agg z7,vO 2]∧([.tree d.plan.shapes,.lst .lev d.stack,.lst .ev z9]:List Blk)=[.tree (Ea d).d.plan.shapes,.lst .lev (Ea d).d.stack,.lst .ev (Ea d).out])∧((Da d)=false→(Fun Tryz.prog 219 [vP 0,vI 10,vI d.at_] [.cells [.own 1,zi d.plan.root,zi d.plan.deep,zi d.plan.most,zi d.mode,.own 2,.int .u64 d.scan.bits,zi d.scan.have_,zi d.start,zi d.at_,zi d.field.number,zi d.field.kind,.bool d.field.rep,.bool d.field.packed,zi d.field.msg,zi d.wire,zi d.want,zi d.utf.want,zi d.utf.low,zi d.utf.high,zi d.end_.kind,zi d.end_.field,.int .u64 d.end_.bits,zi d.end_.len,.str d.end_.text,zi d.end_.code,zi d.end_.at_,.own 3],.tree d.plan.shapes,.lst .lev d.stack,.lst .ev z8] (.tup []) z5)∧(.tup [.agg (Ac 0 1 z3.d),vO 2]:S)= .tup [.agg z7,vO 2]∧([.tree z3.d.plan.shapes,.lst .lev z3.d.stack,.lst .ev z3.out]:List Blk)=[.tree (Ea d).d.plan.shapes,.lst .lev (Ea d).d.stack,.lst .ev (Ea d).out]))))) (by kernel_rfl) ?_
 refine⟨(K4 d (by omega) (hp2) (by omega)),(Sy d (by omega) (by omega)),fun h1=>have q1:=Am h1;?_,fun h1=>have q1:=Aj h1;?_⟩
 refine have hm1:(Ea d).d=d:=?_;?_
 rotate_left
 refine have hm2:(Ea d).out=([]:List Ev):=?_;?_
 rotate_left
 exact⟨(by rw[hm1]<;>rfl),(by rw[hm1,hm2]<;>rfl)⟩
 refine dsp (fun h2 p2=>?_) fun h2 p2=>?_
 refine have hm1:(Ea d).d=d:=?_;?_
 rotate_left
 refine have hm2:(Ea d).out=([]:List Ev):=?_;?_
 rotate_left
 exact⟨(by rw[hm1]<;>rfl),(by rw[hm1,hm2]<;>rfl)⟩
 refine⟨(Aej d (by omega) (hp2) (by omega) (by omega)),fun h3=>?_,fun h3=>?_⟩
 refine⟨(E9 (⟨(⟨d.plan,9,d.stack,d.scan,d.start,d.at_,d.field,d.wire,d.want,d.utf,(⟨9,0,0,0,[],0,d.at_⟩:Ev)⟩:Dcd),([]:List Ev)⟩:Mac) (⟨9,0,0,0,[],0,d.at_⟩:Ev) (by simp only[List.length_append,List.length_cons,List.length_nil,List.length_set,List.length_take];omega)),?_⟩
 refine have hm1:(Ea d).d=(⟨d.plan,9,d.stack,d.scan,d.start,d.at_,d.field,d.wire,d.want,d.utf,(⟨9,0,0,0,[],0,d.at_⟩:Ev)⟩:Dcd):=?_;?_
 rotate_left
 refine have hm2:(Ea d).out=([]:List Ev)++[(⟨9,0,0,0,[],0,d.at_⟩:Ev)]:=?_;?_
 rotate_left
 exact⟨(by rw[hm1]<;>rfl),(by rw[hm1,hm2]<;>rfl)⟩
 refine⟨(B2 (⟨d,([]:List Ev)⟩:Mac) _ _ (by simp only[List.length_append,List.length_cons,List.length_nil,List.length_set,List.length_take];omega)),?_⟩
 refine have hm1:(Ea d).d=(As (⟨d,([]:List Ev)⟩:Mac) 10 d.at_).d:=?_;?_
 rotate_left
 refine have hm2:(Ea d).out=(As (⟨d,([]:List Ev)⟩:Mac) 10 d.at_).out:=?_;?_
 rotate_left
 exact⟨(by rw[hm1]<;>rfl),(by rw[hm1,hm2]<;>rfl)⟩
 all_goals first|(simp_all[Ea,Da,As,Au,Tf];done)|(grind[Ea,Da,As,Au,Tf])
theorem Agd (d:Dcd) (hp1:List.length (d).plan.shapes≤1048576) (hp2: ∀e∈(d).plan.shapes,e.fields.length≤1048576) (hp3:List.length (d).stack≤1048576) (hp4:(0:Int)≤(d).scan.bits∧(d).scan.bits≤18446744073709551615):Fun Tryz.prog 138 [.agg (Bi d)] [] (.tup [.agg (Ac 0 1 (Ea d).d),vO 2]) [.tree (Ea d).d.plan.shapes,.lst .lev (Ea d).d.stack,.lst .ev (Ea d).out]:=by
 have hN:bigN=274877906944:=rfl
 refine Af Tryz.func138 (by kernel_rfl) (by kernel_rfl) (w:=let zi:Int→C:= .int .i64;let z1:List C:=[.int .u64 d.scan.bits,zi d.scan.have_,zi d.start,zi d.at_,zi d.field.number,zi d.field.kind,.bool d.field.rep,.bool d.field.packed,zi d.field.msg,zi d.wire,zi d.want,zi d.utf.want,zi d.utf.low,zi d.utf.high,zi 9,zi 0,.int .u64 0,zi 0,.str [],zi 0,zi d.at_];let z3:=Au d 10 d.at_;let z4:=([.tree d.plan.shapes,.lst .lev d.stack,.lst .ev ([]:List Ev)]:List Blk);let z5:List Blk:=[.dead,.dead,.tree z3.plan.shapes,.lst .lev z3.stack,.lst .ev [Av 10 d.at_]];let z6:=Ac 0 1 (Ea d).d;let z7:=Ac 0 1 d;let z8:=(⟨9,0,0,0,[],0,d.at_⟩:Ev);let z2:List Blk:=[.cells (.own 1::zi d.plan.root::zi d.plan.deep::zi d.plan.most::zi 9:: .own 2::z1),.tree d.plan.shapes,.lst .lev d.stack,.lst .ev [z8]];(.seg [.call [] (.v (.agg z7)) [.tree d.plan.shapes,.lst .lev d.stack],.call [] (.v (vB (Be d))) []] (.br (.seg [.ty .ev] (.leaf () [2,3,5])) (.br (.seg [.ty .ev] (.leaf () [2,3,5])) (.seg [.call [] (.v (vB (Da d))) []] (.br (.seg [.call [2,3] (.tup [.agg (Ac 2 3 z3),vO 4]) z5] (.leaf () [5,6,7])) (.seg [.tree (fr (.two 3 (.one 4 (.first 5 (.done))) 4 (.one 3 (.first 5 (.done)))) 0 3) 6 [1],.ty .ev,.at 0,.keep [2,3],.sel [1,2,3,5],.ty .ev,.at 0,.keep [2,3],.sel [1,2,3,5]] (.leaf () [1,2,3])))))),(Fun Tryz.prog 63 [.agg (Bi d)] [] (.v (.agg z7)) [.tree d.plan.shapes,.lst .lev d.stack])∧(Fun Tryz.prog 104 [.agg (Bi d)] [] (.v (vB (Be d))) [])∧((!(Be d))=true→(.tup [.agg z7,vO 2]:S)= .tup [.agg z6,vO 2]∧z4=[.tree (Ea d).d.plan.shapes,.lst .lev (Ea d).d.stack,.lst .ev (Ea d).out])∧((!(Be d))=false→((decide (d.mode=9))=true→(.tup [.agg z7,vO 2]:S)= .tup [.agg z6,vO 2]∧z4=[.tree (Ea d).d.plan.shapes,.lst .lev (Ea d).d.stack,.lst .ev (Ea d).out])∧((decide (d.mode=9))=false→(Fun Tryz.prog 183 [.agg (Bi d)] [] (.v (vB (Da d))) [])∧((!(Da d))=true→(Fun Tryz.prog 109 [.agg z7,vI 10,vI d.at_] [.tree d.plan.shapes,.lst .lev d.stack] (.tup [.agg (Ac 2 3 z3),vO 4]) z5)∧(.tup [.agg (Ac 0 1 z3),vO 2]:S)= .tup [.agg z6,vO 2]∧([.tree z3.plan.shapes,.lst .lev z3.stack,.lst .ev [Av 10 d.at_]]:List Blk)=[.tree (Ea d).d.plan.shapes,.lst .lev (Ea d).d.stack,.lst .ev (Ea d).out])∧((!(Da d))=false→((z2:List Blk)=z2)∧(([(2,.v (vP 0)),(3,.v (vO 3))]:List (Nat×S))=[(2,.v (vP 0)),(3,.v (vO 3))])∧(.tup [.agg (.own 0::zi d.plan.root::zi d.plan.deep::zi d.plan.most::zi 9:: .own 1::z1),vO 2]:S)= .tup [.agg z6,vO 2]∧([.tree d.plan.shapes,.lst .lev d.stack,.lst .ev [z8]]:List Blk)=[.tree (Ea d).d.plan.shapes,.lst .lev (Ea d).d.stack,.lst .ev (Ea d).out]))))) (by kernel_rfl) ?_
 refine⟨(Fr d (by omega) (hp2) (by omega)),(Sz d (by omega) (by omega)),fun h1=>have q1:=Am h1;?_,fun h1=>have q1:=Aj h1;?_⟩
 refine have hm1:(Ea d).d=d:=?_;?_
 rotate_left
 refine have hm2:(Ea d).out=([]:List Ev):=?_;?_
 rotate_left
 exact⟨(by rw[hm1]<;>rfl),(by rw[hm1,hm2]<;>rfl)⟩
 refine dsp (fun h2 p2=>?_) fun h2 p2=>?_
 refine have hm1:(Ea d).d=d:=?_;?_
 rotate_left
 refine have hm2:(Ea d).out=([]:List Ev):=?_;?_
 rotate_left
 exact⟨(by rw[hm1]<;>rfl),(by rw[hm1,hm2]<;>rfl)⟩
 refine⟨(Aek d (by omega) (hp2) (by omega) (by omega)),fun h3=>have q3:=Am h3;?_,fun h3=>have q3:=Aj h3;?_⟩
 refine⟨(Cn d _ _),?_⟩
 refine have hm1:(Ea d).d=(Au d 10 d.at_):=?_;?_
 rotate_left
 refine have hm2:(Ea d).out=[Av 10 d.at_]:=?_;?_
 rotate_left
 exact⟨(by rw[hm1]<;>rfl),(by rw[hm1,hm2]<;>rfl)⟩
 refine⟨rfl,rfl,?_⟩
 refine have hm1:(Ea d).d=(⟨d.plan,9,d.stack,d.scan,d.start,d.at_,d.field,d.wire,d.want,d.utf,(⟨9,0,0,0,[],0,d.at_⟩:Ev)⟩:Dcd):=?_;?_
 rotate_left
 refine have hm2:(Ea d).out=[(⟨9,0,0,0,[],0,d.at_⟩:Ev)]:=?_;?_
 rotate_left
 exact⟨(by rw[hm1]<;>rfl),(by rw[hm1,hm2]<;>rfl)⟩
 all_goals first|(simp_all[Ea,Da,As,Au,Tf];done)|(grind[Ea,Da,As,Au,Tf])
end Go.Proofs.YtpchkcpcdbdhdaaGreat.Ax
