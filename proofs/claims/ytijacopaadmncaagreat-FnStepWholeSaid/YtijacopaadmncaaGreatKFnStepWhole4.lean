/- The machine: bytes. The machine: a byte. A byte: the program. The reference: settling. The reference: frames, tags, lengths. The reference: lengths, numbers. The reference: bytes of numbers. A byte: the reference. Decoders that are the same. Whole inputs: the program. Models: Ez events. Chunks. Chunks of an input. Ends of decoders. Merged events. Models: the grammar. -/
import Derived.Test.YtijacopaadmncaaGreatKFnStepWhole3
import Derived.Test.YtijacopaadmncaaGreatKFnStepWhole2
import Derived.Test.YtijacopaadmncaaGreatKFnStepWhole1
set_option linter.unusedSimpArgs false
set_option linter.unusedVariables false
namespace Go.Proofs.YtijacopaadmncaaGreat.Ax
open Go.RowKit
theorem R6 (m:Mac) (b:Int) (hp1:MW (m).d) (hp2:List.length (m).out≤50000000) (hp3:(0:Int)≤b∧b≤255):Fun Tryz.prog 218 [vP 0,vI b] [.cells (Ab 1 2 3 m),.tree m.d.plan.shapes,.lst .lev m.d.stack,.lst .ev m.out] (.tup []) [.cells (Ab 4 5 6 (Dq m b ((m).d.at_-1))),.dead,.dead,.dead,.tree (Dq m b ((m).d.at_-1)).d.plan.shapes,.lst .lev (Dq m b ((m).d.at_-1)).d.stack,.lst .ev (Dq m b ((m).d.at_-1)).out]:=by
 have hN:Bk=274877906944:=rfl
 have hlv:=Co hp1.lv
 have hpt:=B8 hlv.1
 have htb:=No hp1.lv
 have hwm:=Ai5 m
 have hbb:=hp1.b0
 have hat:=hp1.at_
 have hwt:=hp1.want
 have hwd:=Rx m.d
 have hsb:=Xc (b:=b) hbb.1 hbb.2
 refine Ar Tryz.func218 Q4 Q4 (w:=let zi:Int→C:= .int .i64;let z1:List C:=[zi m.d.at_,zi m.d.field.number,zi m.d.field.kind,.bool m.d.field.rep,.bool m.d.field.packed,zi m.d.field.msg,zi m.d.wire,zi m.d.want,zi m.d.utf.want,zi m.d.utf.low,zi m.d.utf.high,zi m.d.end_.kind,zi m.d.end_.field,.int .u64 m.d.end_.bits,zi m.d.end_.len,.str m.d.end_.text,zi m.d.end_.code,zi m.d.end_.at_,.own 3];let z2:List C:=[zi m.d.at_,zi m.d.field.number,zi m.d.field.kind,.bool m.d.field.rep,.bool m.d.field.packed,zi m.d.field.msg,zi m.d.wire,zi m.d.want,zi m.d.utf.want,zi m.d.utf.low,zi m.d.utf.high,zi m.d.end_.kind,zi m.d.end_.field,.int .u64 m.d.end_.bits,zi m.d.end_.len,.str m.d.end_.text,zi m.d.end_.code,zi m.d.end_.at_,.own 6];let z3:List C:=[zi m.d.at_,zi m.d.field.number,zi m.d.field.kind,.bool m.d.field.rep,.bool m.d.field.packed,zi m.d.field.msg,zi m.d.wire,zi m.d.want,zi m.d.utf.want,zi m.d.utf.low,zi m.d.utf.high,zi m.d.end_.kind,zi m.d.end_.field,.int .u64 m.d.end_.bits,zi m.d.end_.len,.str m.d.end_.text,zi m.d.end_.code,zi m.d.end_.at_];let z6:=(⟨m.d.plan,m.d.mode,m.d.stack,(⟨0,0⟩:Scn),m.d.start,m.d.at_,m.d.field,m.d.wire,m.d.want,m.d.utf,m.d.end_⟩:Dcd);let z9:=(⟨m.d.plan,m.d.mode,m.d.stack,(⟨0,0⟩:Scn),m.d.at_-1,m.d.at_,m.d.field,m.d.wire,m.d.want,m.d.utf,m.d.end_⟩:Dcd);let z10:=An m.d.scan b;let z4:=A3 (⟨(⟨m.d.plan,m.d.mode,m.d.stack,z10.1,m.d.at_-1,m.d.at_,m.d.field,m.d.wire,m.d.want,m.d.utf,m.d.end_⟩:Dcd),m.out⟩:Mac) 9 m.d.at_;let z5:=A3 (⟨(⟨m.d.plan,m.d.mode,m.d.stack,z10.1,m.d.start,m.d.at_,m.d.field,m.d.wire,m.d.want,m.d.utf,m.d.end_⟩:Dcd),m.out⟩:Mac) 9 m.d.at_;let z14:=Ce (⟨z6,m.out⟩:Mac) z10.1.bits;let z15:List Blk:=[.cells (Ab 1 2 4 z4),.tree z4.d.plan.shapes,.lst .lev z4.d.stack,.dead,.lst .ev z4.out];let z16:List Blk:=[.cells (.own 1::zi m.d.plan.root::zi m.d.plan.deep::zi m.d.plan.most::zi m.d.mode:: .own 2:: .int .u64 z10.1.bits::zi z10.1.have_::zi m.d.start::z1),.tree m.d.plan.shapes,.lst .lev m.d.stack,.lst .ev m.out];let z17:List Blk:=[.cells (Ab 1 2 4 z5),.tree z5.d.plan.shapes,.lst .lev z5.d.stack,.dead,.lst .ev z5.out];let z18:List Blk:=[.cells (.own 1::zi m.d.plan.root::zi m.d.plan.deep::zi m.d.plan.most::zi m.d.mode:: .own 2:: .int .u64 0::zi 0::zi m.d.start::z1),.tree m.d.plan.shapes,.lst .lev m.d.stack,.lst .ev m.out];let z19:List Blk:=[.cells (Ab 4 5 6 z4),.dead,.dead,.dead,.tree z4.d.plan.shapes,.lst .lev z4.d.stack,.lst .ev z4.out];let z22:List Blk:=[.cells (Ab 4 5 6 z5),.dead,.dead,.dead,.tree z5.d.plan.shapes,.lst .lev z5.d.stack,.lst .ev z5.out];let z32:S:= .tup [.agg (Zt z10.1),vI z10.2];let z33:List Blk:=[.cells (Ab 1 2 4 z14),.tree z14.d.plan.shapes,.lst .lev z14.d.stack,.dead,.lst .ev z14.out];let z34:List V:=[vP 0,vI 9,vI m.d.at_];let z35:=m.d.at_-1;let z8:=A3 (⟨(⟨m.d.plan,m.d.mode,m.d.stack,m.d.scan,m.d.at_-1,m.d.at_,m.d.field,m.d.wire,m.d.want,m.d.utf,m.d.end_⟩:Dcd),m.out⟩:Mac) 1 z35;let z13:List Blk:=[.cells (.own 1::zi m.d.plan.root::zi m.d.plan.deep::zi m.d.plan.most::zi m.d.mode:: .own 2:: .int .u64 z10.1.bits::zi z10.1.have_::zi z35::z1),.tree m.d.plan.shapes,.lst .lev m.d.stack,.lst .ev m.out];let z23:List Blk:=[.cells (.own 1::zi m.d.plan.root::zi m.d.plan.deep::zi m.d.plan.most::zi m.d.mode:: .own 2:: .int .u64 m.d.scan.bits::zi m.d.scan.have_::zi z35::z1),.tree m.d.plan.shapes,.lst .lev m.d.stack,.lst .ev m.out];let z30:List Blk:=[.cells (.own 1::zi m.d.plan.root::zi m.d.plan.deep::zi m.d.plan.most::zi m.d.mode:: .own 2:: .int .u64 0::zi 0::zi z35::z1),.tree m.d.plan.shapes,.lst .lev m.d.stack,.lst .ev m.out];let z31:List Blk:=[.cells (Ab 1 2 4 z8),.tree z8.d.plan.shapes,.lst .lev z8.d.stack,.dead,.lst .ev z8.out];let z36:List Blk:=[.cells (Ab 4 5 6 z8),.dead,.dead,.dead,.tree z8.d.plan.shapes,.lst .lev z8.d.stack,.lst .ev z8.out];let z37:List V:=[vP 0,.c (.int .u64 z10.1.bits)];let z38:=decide (m.d.mode=8);let z39:=decide (m.d.want=0);let z41:S:= .v (vI (Eb m.d));let z42:=m.d.mode=1;let z43:=Ed (⟨z9,m.out⟩:Mac) z10.1.bits;let z24:List Blk:=[.cells (Ab 4 5 6 z43),.dead,.dead,.dead,.tree z43.d.plan.shapes,.lst .lev z43.d.stack,.lst .ev z43.out];let z44:=Ed (⟨z6,m.out⟩:Mac) z10.1.bits;let z25:List Blk:=[.cells (Ab 4 5 6 z44),.dead,.dead,.dead,.tree z44.d.plan.shapes,.lst .lev z44.d.stack,.lst .ev z44.out];let z45:=Ey (⟨z9,m.out⟩:Mac) z10.1.bits;let z26:List Blk:=[.cells (Ab 4 5 6 z45),.dead,.dead,.dead,.tree z45.d.plan.shapes,.lst .lev z45.d.stack,.lst .ev z45.out];let z46:=Ey (⟨z6,m.out⟩:Mac) z10.1.bits;let z27:List Blk:=[.cells (Ab 4 5 6 z46),.dead,.dead,.dead,.tree z46.d.plan.shapes,.lst .lev z46.d.stack,.lst .ev z46.out];let z47:=Li (⟨z9,m.out⟩:Mac) z10.1.bits;let z28:List Blk:=[.cells (Ab 4 5 6 z47),.dead,.dead,.dead,.tree z47.d.plan.shapes,.lst .lev z47.d.stack,.lst .ev z47.out];let z48:=Li (⟨z6,m.out⟩:Mac) z10.1.bits;let z29:List Blk:=[.cells (Ab 4 5 6 z48),.dead,.dead,.dead,.tree z48.d.plan.shapes,.lst .lev z48.d.stack,.lst .ev z48.out];let z49:List Blk:=[.cells (Ab 1 2 3 z14),.tree z14.d.plan.shapes,.lst .lev z14.d.stack,.lst .ev z14.out];let z50:=A3 m 1 z35;let z21:List Blk:=[.cells (Ab 1 2 4 z50),.tree z50.d.plan.shapes,.lst .lev z50.d.stack,.dead,.lst .ev z50.out];let z40:List Blk:=[.cells (Ab 4 5 6 z50),.dead,.dead,.dead,.tree z50.d.plan.shapes,.lst .lev z50.d.stack,.lst .ev z50.out];let z51:=decide (Eb m.d=0);let z52:=decide (m.d.mode=2);let z53:List Blk:=[.cells (Ab 1 2 3 m),.tree m.d.plan.shapes,.lst .lev m.d.stack,.lst .ev m.out];let z54:=Dq m b ((m).d.at_-1);let z7:List Blk:=[.cells (Ab 4 5 6 z54),.dead,.dead,.dead,.tree z54.d.plan.shapes,.lst .lev z54.d.stack,.lst .ev z54.out];let z11:=Lf (.tup []) (.tup []) [.cells (.own 4::zi m.d.plan.root::zi m.d.plan.deep::zi m.d.plan.most::zi m.d.mode:: .own 5:: .int .u64 z10.1.bits::zi z10.1.have_::zi z35::z2),.dead,.dead,.dead,.tree m.d.plan.shapes,.lst .lev m.d.stack,.lst .ev m.out] z7;let z12:=Lf (.tup []) (.tup []) [.cells (.own 4::zi m.d.plan.root::zi m.d.plan.deep::zi m.d.plan.most::zi m.d.mode:: .own 5:: .int .u64 z10.1.bits::zi z10.1.have_::zi m.d.start::z2),.dead,.dead,.dead,.tree m.d.plan.shapes,.lst .lev m.d.stack,.lst .ev m.out] z7;let z55:=decide (z10.2=2);let z56:=decide (z10.2=0);let z57:List V:=[vP 0,vI 1,vI z35];let z58:=decide (m.d.mode=4);let z59:=Zt m.d.scan;let z60:=decide z42;let z61:= !decide z42;let z62:=Ao z14;let z20:List Blk:=[.cells (Ab 4 5 6 z62),.dead,.dead,.dead,.tree z62.d.plan.shapes,.lst .lev z62.d.stack,.lst .ev z62.out];(.seg [.as 12 (.v (vI z35))] (.br (.br (.seg [.call [] z32 []] (.br (.seg [.call [0,1,2,3] (.tup []) z31,.at 0,.cut 0 0,.cut 0 5] (.leaf () [0,1,2,3,6,7,5])) (.br (.br (.seg [.call [] z41 []] (.br (.seg [.call [0,1,2,3] (.tup []) z15,.at 0,.cut 0 0,.cut 0 5] (.leaf () [0,1,2,3,6,7,5])) (.br (.br (.seg [.call [0,1,2,3] (.tup []) z15,.at 0,.cut 0 0,.cut 0 5] (.leaf () [0,1,2,3,6,7,5])) (.seg [.at 0,.cut 0 0,.cut 0 5,.cut 0 27] (.leaf () [0,1,2,3,5,6,7]))) (.seg [.at 0,.cut 0 0,.cut 0 5,.cut 0 27] (.leaf () [0,1,2,3,5,6,7]))))) (.br (.br (.seg [.call [0,1,2,3] (.tup []) z15,.at 0,.cut 0 0,.cut 0 5] (.leaf () [0,1,2,3,6,7,5])) (.seg [.at 0,.cut 0 0,.cut 0 5,.cut 0 27] (.leaf () [0,1,2,3,5,6,7]))) (.seg [.at 0,.cut 0 0,.cut 0 5,.cut 0 27] (.leaf () [0,1,2,3,5,6,7])))) (.seg [.br true,.call [0,1,2,3] (.tup []) z24] (.leaf () [0,1,2,3,5,6,7]))))) (.br (.seg [.call [] z32 []] (.br (.seg [.call [0,1,2,3] (.tup []) z31,.at 0,.cut 0 0,.cut 0 5] (.leaf () [0,1,2,3,6,7,5])) (.br (.br (.seg [.call [] z41 []] (.br (.seg [.call [0,1,2,3] (.tup []) z15,.at 0,.cut 0 0,.cut 0 5] (.leaf () [0,1,2,3,6,7,5])) (.br (.br (.seg [.call [0,1,2,3] (.tup []) z15,.at 0,.cut 0 0,.cut 0 5] (.leaf () [0,1,2,3,6,7,5])) (.seg [.at 0,.cut 0 0,.cut 0 5,.cut 0 27] (.leaf () [0,1,2,3,5,6,7]))) (.seg [.at 0,.cut 0 0,.cut 0 5,.cut 0 27] (.leaf () [0,1,2,3,5,6,7]))))) (.br (.br (.seg [.call [0,1,2,3] (.tup []) z15,.at 0,.cut 0 0,.cut 0 5] (.leaf () [0,1,2,3,6,7,5])) (.seg [.at 0,.cut 0 0,.cut 0 5,.cut 0 27] (.leaf () [0,1,2,3,5,6,7]))) (.seg [.at 0,.cut 0 0,.cut 0 5,.cut 0 27] (.leaf () [0,1,2,3,5,6,7])))) (.seg [.br false,.br true,.call [0,1,2,3] (.tup []) z28] (.leaf () [0,1,2,3,5,6,7]))))) (.br (.seg [.call [] z32 []] (.br (.seg [.call [0,1,2,3] (.tup []) z31,.at 0,.cut 0 0,.cut 0 5] (.leaf () [0,1,2,3,6,7,5])) (.br (.br (.seg [.call [] z41 []] (.br (.seg [.call [0,1,2,3] (.tup []) z15,.at 0,.cut 0 0,.cut 0 5] (.leaf () [0,1,2,3,6,7,5])) (.br (.br (.seg [.call [0,1,2,3] (.tup []) z15,.at 0,.cut 0 0,.cut 0 5] (.leaf () [0,1,2,3,6,7,5])) (.seg [.at 0,.cut 0 0,.cut 0 5,.cut 0 27] (.leaf () [0,1,2,3,5,6,7]))) (.seg [.at 0,.cut 0 0,.cut 0 5,.cut 0 27] (.leaf () [0,1,2,3,5,6,7]))))) (.br (.br (.seg [.call [0,1,2,3] (.tup []) z15,.at 0,.cut 0 0,.cut 0 5] (.leaf () [0,1,2,3,6,7,5])) (.seg [.at 0,.cut 0 0,.cut 0 5,.cut 0 27] (.leaf () [0,1,2,3,5,6,7]))) (.seg [.at 0,.cut 0 0,.cut 0 5,.cut 0 27] (.leaf () [0,1,2,3,5,6,7])))) (.seg [.br false,.br false,.br true,.call [0,1,2,3] (.tup []) z26] (.leaf () [0,1,2,3,5,6,7]))))) (.seg [.call [] z32 []] (.br (.seg [.call [0,1,2,3] (.tup []) z21,.at 0,.cut 0 0,.cut 0 5] (.leaf () [0,1,2,3,6,7,5])) (.br (.br (.seg [.call [] z41 []] (.br (.seg [.call [0,1,2,3] (.tup []) z17,.at 0,.cut 0 0,.cut 0 5] (.leaf () [0,1,2,3,6,7,5])) (.br (.br (.seg [.call [0,1,2,3] (.tup []) z17,.at 0,.cut 0 0,.cut 0 5] (.leaf () [0,1,2,3,6,7,5])) (.seg [.at 0,.cut 0 0,.cut 0 5,.cut 0 27] (.leaf () [0,1,2,3,5,6,7]))) (.seg [.at 0,.cut 0 0,.cut 0 5,.cut 0 27] (.leaf () [0,1,2,3,5,6,7]))))) (.br (.br (.seg [.call [0,1,2,3] (.tup []) z17,.at 0,.cut 0 0,.cut 0 5] (.leaf () [0,1,2,3,6,7,5])) (.seg [.at 0,.cut 0 0,.cut 0 5,.cut 0 27] (.leaf () [0,1,2,3,5,6,7]))) (.seg [.at 0,.cut 0 0,.cut 0 5,.cut 0 27] (.leaf () [0,1,2,3,5,6,7])))) (.seg [.br false,.br false,.br false,.call [0,1,2,3] (.tup []) z33,.call [0,1,2,5] (.tup []) z20] (.leaf () [0,1,2,3,6,7,8])))))))) (.seg [.call [] z32 []] (.br (.seg [.call [0,1,2,3] (.tup []) z21,.at 0,.cut 0 0,.cut 0 5] (.leaf () [0,1,2,3,6,7,5])) (.br (.br (.seg [.call [] z41 []] (.br (.seg [.call [0,1,2,3] (.tup []) z17,.at 0,.cut 0 0,.cut 0 5] (.leaf () [0,1,2,3,6,7,5])) (.br (.br (.seg [.call [0,1,2,3] (.tup []) z17,.at 0,.cut 0 0,.cut 0 5] (.leaf () [0,1,2,3,6,7,5])) (.seg [.at 0,.cut 0 0,.cut 0 5,.cut 0 27] (.leaf () [0,1,2,3,5,6,7]))) (.seg [.at 0,.cut 0 0,.cut 0 5,.cut 0 27] (.leaf () [0,1,2,3,5,6,7]))))) (.br (.br (.seg [.call [0,1,2,3] (.tup []) z17,.at 0,.cut 0 0,.cut 0 5] (.leaf () [0,1,2,3,6,7,5])) (.seg [.at 0,.cut 0 0,.cut 0 5,.cut 0 27] (.leaf () [0,1,2,3,5,6,7]))) (.seg [.at 0,.cut 0 0,.cut 0 5,.cut 0 27] (.leaf () [0,1,2,3,5,6,7])))) (.br (.seg [.call [0,1,2,3] (.tup []) z25] (.leaf () [0,1,2,3,5,6,7])) (.br (.seg [.call [0,1,2,3] (.tup []) z29] (.leaf () [0,1,2,3,5,6,7])) (.br (.seg [.call [0,1,2,3] (.tup []) z27] (.leaf () [0,1,2,3,5,6,7])) (.seg [.call [0,1,2,3] (.tup []) z33,.call [0,1,2,5] (.tup []) z20] (.leaf () [0,1,2,3,6,7,8]))))))))),(wI z35)∧Bc (decide (m.d.scan.have_=0)) (Bc z60 ((Fp 264 [.agg z59,vI b] [] z32 [])∧Bc z55 ((Fp 101 z57 z23 (.tup []) z31)∧Lf (.tup []) (.tup []) z36 z7) (Bc z56 (Bc z61 ((Fp 152 [.agg (.seq .shp m.d.plan.shapes::zi m.d.plan.root::zi m.d.plan.deep::zi m.d.plan.most::zi m.d.mode:: .seq .lev m.d.stack:: .int .u64 z10.1.bits::zi z10.1.have_::zi z35::z3)] [] z41 [])∧Bc z51 ((Fp 101 z34 z13 (.tup []) z15)∧Lf (.tup []) (.tup []) z19 z7) (Bc z38 (Bc z39 ((Fp 101 z34 z13 (.tup []) z15)∧Lf (.tup []) (.tup []) z19 z7) z11) z11)) (Bc z38 (Bc z39 ((Fp 101 z34 z13 (.tup []) z15)∧Lf (.tup []) (.tup []) z19 z7) z11) z11)) ((z60=true)∧(Fp 265 z37 z30 (.tup []) z24)∧Lf (.tup []) (.tup []) z24 z7))) (Bc z52 ((Fp 264 [.agg z59,vI b] [] z32 [])∧Bc z55 ((Fp 101 z57 z23 (.tup []) z31)∧Lf (.tup []) (.tup []) z36 z7) (Bc z56 (Bc z61 ((Fp 152 [.agg (.seq .shp m.d.plan.shapes::zi m.d.plan.root::zi m.d.plan.deep::zi m.d.plan.most::zi m.d.mode:: .seq .lev m.d.stack:: .int .u64 z10.1.bits::zi z10.1.have_::zi z35::z3)] [] z41 [])∧Bc z51 ((Fp 101 z34 z13 (.tup []) z15)∧Lf (.tup []) (.tup []) z19 z7) (Bc z38 (Bc z39 ((Fp 101 z34 z13 (.tup []) z15)∧Lf (.tup []) (.tup []) z19 z7) z11) z11)) (Bc z38 (Bc z39 ((Fp 101 z34 z13 (.tup []) z15)∧Lf (.tup []) (.tup []) z19 z7) z11) z11)) ((z60=false)∧(z52=true)∧(Fp 266 z37 z30 (.tup []) z28)∧Lf (.tup []) (.tup []) z28 z7))) (Bc z58 ((Fp 264 [.agg z59,vI b] [] z32 [])∧Bc z55 ((Fp 101 z57 z23 (.tup []) z31)∧Lf (.tup []) (.tup []) z36 z7) (Bc z56 (Bc z61 ((Fp 152 [.agg (.seq .shp m.d.plan.shapes::zi m.d.plan.root::zi m.d.plan.deep::zi m.d.plan.most::zi m.d.mode:: .seq .lev m.d.stack:: .int .u64 z10.1.bits::zi z10.1.have_::zi z35::z3)] [] z41 [])∧Bc z51 ((Fp 101 z34 z13 (.tup []) z15)∧Lf (.tup []) (.tup []) z19 z7) (Bc z38 (Bc z39 ((Fp 101 z34 z13 (.tup []) z15)∧Lf (.tup []) (.tup []) z19 z7) z11) z11)) (Bc z38 (Bc z39 ((Fp 101 z34 z13 (.tup []) z15)∧Lf (.tup []) (.tup []) z19 z7) z11) z11)) ((z60=false)∧(z52=false)∧(z58=true)∧(Fp 267 z37 z30 (.tup []) z26)∧Lf (.tup []) (.tup []) z26 z7))) ((Fp 264 [.agg z59,vI b] [] z32 [])∧Bc z55 ((Fp 101 z57 z53 (.tup []) z21)∧Lf (.tup []) (.tup []) z40 z7) (Bc z56 (Bc z61 ((Fp 152 [.agg (.seq .shp m.d.plan.shapes::zi m.d.plan.root::zi m.d.plan.deep::zi m.d.plan.most::zi m.d.mode:: .seq .lev m.d.stack:: .int .u64 z10.1.bits::zi z10.1.have_::zi m.d.start::z3)] [] z41 [])∧Bc z51 ((Fp 101 z34 z16 (.tup []) z17)∧Lf (.tup []) (.tup []) z22 z7) (Bc z38 (Bc z39 ((Fp 101 z34 z16 (.tup []) z17)∧Lf (.tup []) (.tup []) z22 z7) z12) z12)) (Bc z38 (Bc z39 ((Fp 101 z34 z16 (.tup []) z17)∧Lf (.tup []) (.tup []) z22 z7) z12) z12)) ((z60=false)∧(z52=false)∧(z58=false)∧(Fp 263 z37 z18 (.tup []) z33)∧(Fp 216 [vP 0] z49 (.tup []) z20)∧Lf (.tup []) (.tup []) z20 z7)))))) ((Fp 264 [.agg z59,vI b] [] z32 [])∧Bc z55 ((Fp 101 z57 z53 (.tup []) z21)∧Lf (.tup []) (.tup []) z40 z7) (Bc z56 (Bc z61 ((Fp 152 [.agg (.seq .shp m.d.plan.shapes::zi m.d.plan.root::zi m.d.plan.deep::zi m.d.plan.most::zi m.d.mode:: .seq .lev m.d.stack:: .int .u64 z10.1.bits::zi z10.1.have_::zi m.d.start::z3)] [] z41 [])∧Bc z51 ((Fp 101 z34 z16 (.tup []) z17)∧Lf (.tup []) (.tup []) z22 z7) (Bc z38 (Bc z39 ((Fp 101 z34 z16 (.tup []) z17)∧Lf (.tup []) (.tup []) z22 z7) z12) z12)) (Bc z38 (Bc z39 ((Fp 101 z34 z16 (.tup []) z17)∧Lf (.tup []) (.tup []) z22 z7) z12) z12)) (Bc z60 ((Fp 265 z37 z18 (.tup []) z25)∧Lf (.tup []) (.tup []) z25 z7) (Bc z52 ((Fp 266 z37 z18 (.tup []) z29)∧Lf (.tup []) (.tup []) z29 z7) (Bc z58 ((Fp 267 z37 z18 (.tup []) z27)∧Lf (.tup []) (.tup []) z27 z7) ((Fp 263 z37 z18 (.tup []) z33)∧(Fp 216 [vP 0] z49 (.tup []) z20)∧Lf (.tup []) (.tup []) z20 z7)))))))) Q4 ?_
 refine⟨(Af Q2 Q2),dsp (fun h1 p1=>?_) fun h1 p1=>?_⟩
 refine dsp (fun h2 p2=>?_) fun h2 p2=>?_
 refine⟨(Lq m.d.scan _ Q2),dsp (fun h3 p3=>?_) fun h3 p3=>?_⟩
 refine zE (Dq m b ((m).d.at_-1)) (A3 (⟨(⟨m.d.plan,m.d.mode,m.d.stack,m.d.scan,m.d.at_-1,m.d.at_,m.d.field,m.d.wire,m.d.want,m.d.utf,m.d.end_⟩:Dcd),m.out⟩:Mac) 1 (m.d.at_-1)) (fun hm1=>⟨(Ca (⟨(⟨m.d.plan,m.d.mode,m.d.stack,m.d.scan,m.d.at_-1,m.d.at_,m.d.field,m.d.wire,m.d.want,m.d.utf,m.d.end_⟩:Dcd),m.out⟩:Mac) _ _ Q6),rfl,Q7⟩) ?_
 rotate_left
 refine dsp (fun h4 p4=>?_) fun h4 p4=>?_
 refine⟨fun h5=>have q5:=Aq h5;have p5:=of_decide_eq_false q5;?_,fun h5=>have q5:=Ap h5;have p5:=of_decide_eq_true q5;?_⟩
 refine⟨(Dz (⟨m.d.plan,m.d.mode,m.d.stack,(An m.d.scan b).1,m.d.at_-1,m.d.at_,m.d.field,m.d.wire,m.d.want,m.d.utf,m.d.end_⟩:Dcd) Q6),dsp (fun h6 p6=>?_) fun h6 p6=>?_⟩
 refine zE (Dq m b ((m).d.at_-1)) (A3 (⟨(⟨m.d.plan,m.d.mode,m.d.stack,(An m.d.scan b).1,m.d.at_-1,m.d.at_,m.d.field,m.d.wire,m.d.want,m.d.utf,m.d.end_⟩:Dcd),m.out⟩:Mac) 9 m.d.at_) (fun hm1=>⟨(Ca (⟨(⟨m.d.plan,m.d.mode,m.d.stack,(An m.d.scan b).1,m.d.at_-1,m.d.at_,m.d.field,m.d.wire,m.d.want,m.d.utf,m.d.end_⟩:Dcd),m.out⟩:Mac) _ _ Q6),rfl,Q7⟩) ?_
 rotate_left
 refine dsp (fun h7 p7=>?_) fun h7 p7=>?_
 refine dsp (fun h8 p8=>?_) fun h8 p8=>?_
 refine zE (Dq m b ((m).d.at_-1)) (A3 (⟨(⟨m.d.plan,m.d.mode,m.d.stack,(An m.d.scan b).1,m.d.at_-1,m.d.at_,m.d.field,m.d.wire,m.d.want,m.d.utf,m.d.end_⟩:Dcd),m.out⟩:Mac) 9 m.d.at_) (fun hm1=>⟨(Ca (⟨(⟨m.d.plan,m.d.mode,m.d.stack,(An m.d.scan b).1,m.d.at_-1,m.d.at_,m.d.field,m.d.wire,m.d.want,m.d.utf,m.d.end_⟩:Dcd),m.out⟩:Mac) _ _ Q6),rfl,Q7⟩) ?_
 rotate_left
 refine zE (Dq m b ((m).d.at_-1)) (⟨(⟨m.d.plan,m.d.mode,m.d.stack,(An m.d.scan b).1,m.d.at_-1,m.d.at_,m.d.field,m.d.wire,m.d.want,m.d.utf,m.d.end_⟩:Dcd),m.out⟩:Mac) (fun hm1=>⟨rfl,Q7⟩) ?_
 rotate_left
 refine zE (Dq m b ((m).d.at_-1)) (⟨(⟨m.d.plan,m.d.mode,m.d.stack,(An m.d.scan b).1,m.d.at_-1,m.d.at_,m.d.field,m.d.wire,m.d.want,m.d.utf,m.d.end_⟩:Dcd),m.out⟩:Mac) (fun hm1=>⟨rfl,Q7⟩) ?_
 rotate_left
 refine dsp (fun h6 p6=>?_) fun h6 p6=>?_
 refine dsp (fun h7 p7=>?_) fun h7 p7=>?_
 refine zE (Dq m b ((m).d.at_-1)) (A3 (⟨(⟨m.d.plan,m.d.mode,m.d.stack,(An m.d.scan b).1,m.d.at_-1,m.d.at_,m.d.field,m.d.wire,m.d.want,m.d.utf,m.d.end_⟩:Dcd),m.out⟩:Mac) 9 m.d.at_) (fun hm1=>⟨(Ca (⟨(⟨m.d.plan,m.d.mode,m.d.stack,(An m.d.scan b).1,m.d.at_-1,m.d.at_,m.d.field,m.d.wire,m.d.want,m.d.utf,m.d.end_⟩:Dcd),m.out⟩:Mac) _ _ Q6),rfl,Q7⟩) ?_
 rotate_left
 refine zE (Dq m b ((m).d.at_-1)) (⟨(⟨m.d.plan,m.d.mode,m.d.stack,(An m.d.scan b).1,m.d.at_-1,m.d.at_,m.d.field,m.d.wire,m.d.want,m.d.utf,m.d.end_⟩:Dcd),m.out⟩:Mac) (fun hm1=>⟨rfl,Q7⟩) ?_
 rotate_left
 refine zE (Dq m b ((m).d.at_-1)) (⟨(⟨m.d.plan,m.d.mode,m.d.stack,(An m.d.scan b).1,m.d.at_-1,m.d.at_,m.d.field,m.d.wire,m.d.want,m.d.utf,m.d.end_⟩:Dcd),m.out⟩:Mac) (fun hm1=>⟨rfl,Q7⟩) ?_
 rotate_left
 refine zE (Dq m b ((m).d.at_-1)) (Ed (⟨(⟨m.d.plan,m.d.mode,m.d.stack,(⟨0,0⟩:Scn),m.d.at_-1,m.d.at_,m.d.field,m.d.wire,m.d.want,m.d.utf,m.d.end_⟩:Dcd),m.out⟩:Mac) (An m.d.scan b).1.bits) (fun hm1=>⟨h2,(Ag3 (⟨(⟨m.d.plan,m.d.mode,m.d.stack,(⟨0,0⟩:Scn),m.d.at_-1,m.d.at_,m.d.field,m.d.wire,m.d.want,m.d.utf,m.d.end_⟩:Dcd),m.out⟩:Mac) _ (Q19) Q6 Q2),rfl,Q7⟩) ?_
 rotate_left
 refine dsp (fun h3 p3=>?_) fun h3 p3=>?_
 refine⟨(Lq m.d.scan _ Q2),dsp (fun h4 p4=>?_) fun h4 p4=>?_⟩
 refine zE (Dq m b ((m).d.at_-1)) (A3 (⟨(⟨m.d.plan,m.d.mode,m.d.stack,m.d.scan,m.d.at_-1,m.d.at_,m.d.field,m.d.wire,m.d.want,m.d.utf,m.d.end_⟩:Dcd),m.out⟩:Mac) 1 (m.d.at_-1)) (fun hm1=>⟨(Ca (⟨(⟨m.d.plan,m.d.mode,m.d.stack,m.d.scan,m.d.at_-1,m.d.at_,m.d.field,m.d.wire,m.d.want,m.d.utf,m.d.end_⟩:Dcd),m.out⟩:Mac) _ _ Q6),rfl,Q7⟩) ?_
 rotate_left
 refine dsp (fun h5 p5=>?_) fun h5 p5=>?_
 refine⟨fun h6=>have q6:=Aq h6;have p6:=of_decide_eq_false q6;?_,fun h6=>have q6:=Ap h6;have p6:=of_decide_eq_true q6;?_⟩
 refine⟨(Dz (⟨m.d.plan,m.d.mode,m.d.stack,(An m.d.scan b).1,m.d.at_-1,m.d.at_,m.d.field,m.d.wire,m.d.want,m.d.utf,m.d.end_⟩:Dcd) Q6),dsp (fun h7 p7=>?_) fun h7 p7=>?_⟩
 refine zE (Dq m b ((m).d.at_-1)) (A3 (⟨(⟨m.d.plan,m.d.mode,m.d.stack,(An m.d.scan b).1,m.d.at_-1,m.d.at_,m.d.field,m.d.wire,m.d.want,m.d.utf,m.d.end_⟩:Dcd),m.out⟩:Mac) 9 m.d.at_) (fun hm1=>⟨(Ca (⟨(⟨m.d.plan,m.d.mode,m.d.stack,(An m.d.scan b).1,m.d.at_-1,m.d.at_,m.d.field,m.d.wire,m.d.want,m.d.utf,m.d.end_⟩:Dcd),m.out⟩:Mac) _ _ Q6),rfl,Q7⟩) ?_
 rotate_left
 refine dsp (fun h8 p8=>?_) fun h8 p8=>?_
 refine dsp (fun h9 p9=>?_) fun h9 p9=>?_
 refine zE (Dq m b ((m).d.at_-1)) (A3 (⟨(⟨m.d.plan,m.d.mode,m.d.stack,(An m.d.scan b).1,m.d.at_-1,m.d.at_,m.d.field,m.d.wire,m.d.want,m.d.utf,m.d.end_⟩:Dcd),m.out⟩:Mac) 9 m.d.at_) (fun hm1=>⟨(Ca (⟨(⟨m.d.plan,m.d.mode,m.d.stack,(An m.d.scan b).1,m.d.at_-1,m.d.at_,m.d.field,m.d.wire,m.d.want,m.d.utf,m.d.end_⟩:Dcd),m.out⟩:Mac) _ _ Q6),rfl,Q7⟩) ?_
 rotate_left
 refine zE (Dq m b ((m).d.at_-1)) (⟨(⟨m.d.plan,m.d.mode,m.d.stack,(An m.d.scan b).1,m.d.at_-1,m.d.at_,m.d.field,m.d.wire,m.d.want,m.d.utf,m.d.end_⟩:Dcd),m.out⟩:Mac) (fun hm1=>⟨rfl,Q7⟩) ?_
 rotate_left
 refine zE (Dq m b ((m).d.at_-1)) (⟨(⟨m.d.plan,m.d.mode,m.d.stack,(An m.d.scan b).1,m.d.at_-1,m.d.at_,m.d.field,m.d.wire,m.d.want,m.d.utf,m.d.end_⟩:Dcd),m.out⟩:Mac) (fun hm1=>⟨rfl,Q7⟩) ?_
 rotate_left
 refine dsp (fun h7 p7=>?_) fun h7 p7=>?_
 refine dsp (fun h8 p8=>?_) fun h8 p8=>?_
 refine zE (Dq m b ((m).d.at_-1)) (A3 (⟨(⟨m.d.plan,m.d.mode,m.d.stack,(An m.d.scan b).1,m.d.at_-1,m.d.at_,m.d.field,m.d.wire,m.d.want,m.d.utf,m.d.end_⟩:Dcd),m.out⟩:Mac) 9 m.d.at_) (fun hm1=>⟨(Ca (⟨(⟨m.d.plan,m.d.mode,m.d.stack,(An m.d.scan b).1,m.d.at_-1,m.d.at_,m.d.field,m.d.wire,m.d.want,m.d.utf,m.d.end_⟩:Dcd),m.out⟩:Mac) _ _ Q6),rfl,Q7⟩) ?_
 rotate_left
 refine zE (Dq m b ((m).d.at_-1)) (⟨(⟨m.d.plan,m.d.mode,m.d.stack,(An m.d.scan b).1,m.d.at_-1,m.d.at_,m.d.field,m.d.wire,m.d.want,m.d.utf,m.d.end_⟩:Dcd),m.out⟩:Mac) (fun hm1=>⟨rfl,Q7⟩) ?_
 rotate_left
 refine zE (Dq m b ((m).d.at_-1)) (⟨(⟨m.d.plan,m.d.mode,m.d.stack,(An m.d.scan b).1,m.d.at_-1,m.d.at_,m.d.field,m.d.wire,m.d.want,m.d.utf,m.d.end_⟩:Dcd),m.out⟩:Mac) (fun hm1=>⟨rfl,Q7⟩) ?_
 rotate_left
 refine zE (Dq m b ((m).d.at_-1)) (Li (⟨(⟨m.d.plan,m.d.mode,m.d.stack,(⟨0,0⟩:Scn),m.d.at_-1,m.d.at_,m.d.field,m.d.wire,m.d.want,m.d.utf,m.d.end_⟩:Dcd),m.out⟩:Mac) (An m.d.scan b).1.bits) (fun hm1=>⟨h2,h3,(Ao7 (⟨(⟨m.d.plan,m.d.mode,m.d.stack,(⟨0,0⟩:Scn),m.d.at_-1,m.d.at_,m.d.field,m.d.wire,m.d.want,m.d.utf,m.d.end_⟩:Dcd),m.out⟩:Mac) _ (Q19) Q6 Q2),rfl,Q7⟩) ?_
 rotate_left
 refine dsp (fun h4 p4=>?_) fun h4 p4=>?_
 refine⟨(Lq m.d.scan _ Q2),dsp (fun h5 p5=>?_) fun h5 p5=>?_⟩
 refine zE (Dq m b ((m).d.at_-1)) (A3 (⟨(⟨m.d.plan,m.d.mode,m.d.stack,m.d.scan,m.d.at_-1,m.d.at_,m.d.field,m.d.wire,m.d.want,m.d.utf,m.d.end_⟩:Dcd),m.out⟩:Mac) 1 (m.d.at_-1)) (fun hm1=>⟨(Ca (⟨(⟨m.d.plan,m.d.mode,m.d.stack,m.d.scan,m.d.at_-1,m.d.at_,m.d.field,m.d.wire,m.d.want,m.d.utf,m.d.end_⟩:Dcd),m.out⟩:Mac) _ _ Q6),rfl,Q7⟩) ?_
 rotate_left
 refine dsp (fun h6 p6=>?_) fun h6 p6=>?_
 refine⟨fun h7=>have q7:=Aq h7;have p7:=of_decide_eq_false q7;?_,fun h7=>have q7:=Ap h7;have p7:=of_decide_eq_true q7;?_⟩
 refine⟨(Dz (⟨m.d.plan,m.d.mode,m.d.stack,(An m.d.scan b).1,m.d.at_-1,m.d.at_,m.d.field,m.d.wire,m.d.want,m.d.utf,m.d.end_⟩:Dcd) Q6),dsp (fun h8 p8=>?_) fun h8 p8=>?_⟩
 refine zE (Dq m b ((m).d.at_-1)) (A3 (⟨(⟨m.d.plan,m.d.mode,m.d.stack,(An m.d.scan b).1,m.d.at_-1,m.d.at_,m.d.field,m.d.wire,m.d.want,m.d.utf,m.d.end_⟩:Dcd),m.out⟩:Mac) 9 m.d.at_) (fun hm1=>⟨(Ca (⟨(⟨m.d.plan,m.d.mode,m.d.stack,(An m.d.scan b).1,m.d.at_-1,m.d.at_,m.d.field,m.d.wire,m.d.want,m.d.utf,m.d.end_⟩:Dcd),m.out⟩:Mac) _ _ Q6),rfl,Q7⟩) ?_
 rotate_left
 refine dsp (fun h9 p9=>?_) fun h9 p9=>?_
 refine dsp (fun h10 p10=>?_) fun h10 p10=>?_
 refine zE (Dq m b ((m).d.at_-1)) (A3 (⟨(⟨m.d.plan,m.d.mode,m.d.stack,(An m.d.scan b).1,m.d.at_-1,m.d.at_,m.d.field,m.d.wire,m.d.want,m.d.utf,m.d.end_⟩:Dcd),m.out⟩:Mac) 9 m.d.at_) (fun hm1=>⟨(Ca (⟨(⟨m.d.plan,m.d.mode,m.d.stack,(An m.d.scan b).1,m.d.at_-1,m.d.at_,m.d.field,m.d.wire,m.d.want,m.d.utf,m.d.end_⟩:Dcd),m.out⟩:Mac) _ _ Q6),rfl,Q7⟩) ?_
 rotate_left
 refine zE (Dq m b ((m).d.at_-1)) (⟨(⟨m.d.plan,m.d.mode,m.d.stack,(An m.d.scan b).1,m.d.at_-1,m.d.at_,m.d.field,m.d.wire,m.d.want,m.d.utf,m.d.end_⟩:Dcd),m.out⟩:Mac) (fun hm1=>⟨rfl,Q7⟩) ?_
 rotate_left
 refine zE (Dq m b ((m).d.at_-1)) (⟨(⟨m.d.plan,m.d.mode,m.d.stack,(An m.d.scan b).1,m.d.at_-1,m.d.at_,m.d.field,m.d.wire,m.d.want,m.d.utf,m.d.end_⟩:Dcd),m.out⟩:Mac) (fun hm1=>⟨rfl,Q7⟩) ?_
 rotate_left
 refine dsp (fun h8 p8=>?_) fun h8 p8=>?_
 refine dsp (fun h9 p9=>?_) fun h9 p9=>?_
 refine zE (Dq m b ((m).d.at_-1)) (A3 (⟨(⟨m.d.plan,m.d.mode,m.d.stack,(An m.d.scan b).1,m.d.at_-1,m.d.at_,m.d.field,m.d.wire,m.d.want,m.d.utf,m.d.end_⟩:Dcd),m.out⟩:Mac) 9 m.d.at_) (fun hm1=>⟨(Ca (⟨(⟨m.d.plan,m.d.mode,m.d.stack,(An m.d.scan b).1,m.d.at_-1,m.d.at_,m.d.field,m.d.wire,m.d.want,m.d.utf,m.d.end_⟩:Dcd),m.out⟩:Mac) _ _ Q6),rfl,Q7⟩) ?_
 rotate_left
 refine zE (Dq m b ((m).d.at_-1)) (⟨(⟨m.d.plan,m.d.mode,m.d.stack,(An m.d.scan b).1,m.d.at_-1,m.d.at_,m.d.field,m.d.wire,m.d.want,m.d.utf,m.d.end_⟩:Dcd),m.out⟩:Mac) (fun hm1=>⟨rfl,Q7⟩) ?_
 rotate_left
 refine zE (Dq m b ((m).d.at_-1)) (⟨(⟨m.d.plan,m.d.mode,m.d.stack,(An m.d.scan b).1,m.d.at_-1,m.d.at_,m.d.field,m.d.wire,m.d.want,m.d.utf,m.d.end_⟩:Dcd),m.out⟩:Mac) (fun hm1=>⟨rfl,Q7⟩) ?_
 rotate_left
 refine zE (Dq m b ((m).d.at_-1)) (Ey (⟨(⟨m.d.plan,m.d.mode,m.d.stack,(⟨0,0⟩:Scn),m.d.at_-1,m.d.at_,m.d.field,m.d.wire,m.d.want,m.d.utf,m.d.end_⟩:Dcd),m.out⟩:Mac) (An m.d.scan b).1.bits) (fun hm1=>⟨h2,h3,h4,(Amb (⟨(⟨m.d.plan,m.d.mode,m.d.stack,(⟨0,0⟩:Scn),m.d.at_-1,m.d.at_,m.d.field,m.d.wire,m.d.want,m.d.utf,m.d.end_⟩:Dcd),m.out⟩:Mac) _ (Q19) Q6 Q2 (hp1.kn)),rfl,Q7⟩) ?_
 rotate_left
 refine⟨(Lq m.d.scan _ Q2),dsp (fun h5 p5=>?_) fun h5 p5=>?_⟩
 refine zE (Dq m b ((m).d.at_-1)) (A3 m 1 (m.d.at_-1)) (fun hm1=>⟨(Ca m _ _ Q2),rfl,Q7⟩) ?_
 rotate_left
 refine dsp (fun h6 p6=>?_) fun h6 p6=>?_
 refine⟨fun h7=>have q7:=Aq h7;have p7:=of_decide_eq_false q7;?_,fun h7=>have q7:=Ap h7;have p7:=of_decide_eq_true q7;?_⟩
 refine⟨(Dz (⟨m.d.plan,m.d.mode,m.d.stack,(An m.d.scan b).1,m.d.start,m.d.at_,m.d.field,m.d.wire,m.d.want,m.d.utf,m.d.end_⟩:Dcd) Q6),dsp (fun h8 p8=>?_) fun h8 p8=>?_⟩
 refine zE (Dq m b ((m).d.at_-1)) (A3 (⟨(⟨m.d.plan,m.d.mode,m.d.stack,(An m.d.scan b).1,m.d.start,m.d.at_,m.d.field,m.d.wire,m.d.want,m.d.utf,m.d.end_⟩:Dcd),m.out⟩:Mac) 9 m.d.at_) (fun hm1=>⟨(Ca (⟨(⟨m.d.plan,m.d.mode,m.d.stack,(An m.d.scan b).1,m.d.start,m.d.at_,m.d.field,m.d.wire,m.d.want,m.d.utf,m.d.end_⟩:Dcd),m.out⟩:Mac) _ _ Q6),rfl,Q7⟩) ?_
 rotate_left
 refine dsp (fun h9 p9=>?_) fun h9 p9=>?_
 refine dsp (fun h10 p10=>?_) fun h10 p10=>?_
 refine zE (Dq m b ((m).d.at_-1)) (A3 (⟨(⟨m.d.plan,m.d.mode,m.d.stack,(An m.d.scan b).1,m.d.start,m.d.at_,m.d.field,m.d.wire,m.d.want,m.d.utf,m.d.end_⟩:Dcd),m.out⟩:Mac) 9 m.d.at_) (fun hm1=>⟨(Ca (⟨(⟨m.d.plan,m.d.mode,m.d.stack,(An m.d.scan b).1,m.d.start,m.d.at_,m.d.field,m.d.wire,m.d.want,m.d.utf,m.d.end_⟩:Dcd),m.out⟩:Mac) _ _ Q6),rfl,Q7⟩) ?_
 rotate_left
 refine zE (Dq m b ((m).d.at_-1)) (⟨(⟨m.d.plan,m.d.mode,m.d.stack,(An m.d.scan b).1,m.d.start,m.d.at_,m.d.field,m.d.wire,m.d.want,m.d.utf,m.d.end_⟩:Dcd),m.out⟩:Mac) (fun hm1=>⟨rfl,Q7⟩) ?_
 rotate_left
 refine zE (Dq m b ((m).d.at_-1)) (⟨(⟨m.d.plan,m.d.mode,m.d.stack,(An m.d.scan b).1,m.d.start,m.d.at_,m.d.field,m.d.wire,m.d.want,m.d.utf,m.d.end_⟩:Dcd),m.out⟩:Mac) (fun hm1=>⟨rfl,Q7⟩) ?_
 rotate_left
 refine dsp (fun h8 p8=>?_) fun h8 p8=>?_
 refine dsp (fun h9 p9=>?_) fun h9 p9=>?_
 refine zE (Dq m b ((m).d.at_-1)) (A3 (⟨(⟨m.d.plan,m.d.mode,m.d.stack,(An m.d.scan b).1,m.d.start,m.d.at_,m.d.field,m.d.wire,m.d.want,m.d.utf,m.d.end_⟩:Dcd),m.out⟩:Mac) 9 m.d.at_) (fun hm1=>⟨(Ca (⟨(⟨m.d.plan,m.d.mode,m.d.stack,(An m.d.scan b).1,m.d.start,m.d.at_,m.d.field,m.d.wire,m.d.want,m.d.utf,m.d.end_⟩:Dcd),m.out⟩:Mac) _ _ Q6),rfl,Q7⟩) ?_
 rotate_left
 refine zE (Dq m b ((m).d.at_-1)) (⟨(⟨m.d.plan,m.d.mode,m.d.stack,(An m.d.scan b).1,m.d.start,m.d.at_,m.d.field,m.d.wire,m.d.want,m.d.utf,m.d.end_⟩:Dcd),m.out⟩:Mac) (fun hm1=>⟨rfl,Q7⟩) ?_
 rotate_left
 refine zE (Dq m b ((m).d.at_-1)) (⟨(⟨m.d.plan,m.d.mode,m.d.stack,(An m.d.scan b).1,m.d.start,m.d.at_,m.d.field,m.d.wire,m.d.want,m.d.utf,m.d.end_⟩:Dcd),m.out⟩:Mac) (fun hm1=>⟨rfl,Q7⟩) ?_
 rotate_left
 refine zE (Dq m b ((m).d.at_-1)) (Ao (Ce (⟨(⟨m.d.plan,m.d.mode,m.d.stack,(⟨0,0⟩:Scn),m.d.start,m.d.at_,m.d.field,m.d.wire,m.d.want,m.d.utf,m.d.end_⟩:Dcd),m.out⟩:Mac) (An m.d.scan b).1.bits)) (fun hm1=>⟨h2,h3,h4,(Abf (⟨(⟨m.d.plan,m.d.mode,m.d.stack,(⟨0,0⟩:Scn),m.d.start,m.d.at_,m.d.field,m.d.wire,m.d.want,m.d.utf,m.d.end_⟩:Dcd),m.out⟩:Mac) _ Q6 Q2),(D8 (Ce (⟨(⟨m.d.plan,m.d.mode,m.d.stack,(⟨0,0⟩:Scn),m.d.start,m.d.at_,m.d.field,m.d.wire,m.d.want,m.d.utf,m.d.end_⟩:Dcd),m.out⟩:Mac) (An m.d.scan b).1.bits) (Q19) (Nat.le_trans (Fz _ _) Q46)),rfl,Q7⟩) ?_
 rotate_left
 refine⟨(Lq m.d.scan _ Q2),dsp (fun h2 p2=>?_) fun h2 p2=>?_⟩
 refine zE (Dq m b ((m).d.at_-1)) (A3 m 1 (m.d.at_-1)) (fun hm1=>⟨(Ca m _ _ Q2),rfl,Q7⟩) ?_
 rotate_left
 refine dsp (fun h3 p3=>?_) fun h3 p3=>?_
 refine⟨fun h4=>have q4:=Aq h4;have p4:=of_decide_eq_false q4;?_,fun h4=>have q4:=Ap h4;have p4:=of_decide_eq_true q4;?_⟩
 refine⟨(Dz (⟨m.d.plan,m.d.mode,m.d.stack,(An m.d.scan b).1,m.d.start,m.d.at_,m.d.field,m.d.wire,m.d.want,m.d.utf,m.d.end_⟩:Dcd) Q6),dsp (fun h5 p5=>?_) fun h5 p5=>?_⟩
 refine zE (Dq m b ((m).d.at_-1)) (A3 (⟨(⟨m.d.plan,m.d.mode,m.d.stack,(An m.d.scan b).1,m.d.start,m.d.at_,m.d.field,m.d.wire,m.d.want,m.d.utf,m.d.end_⟩:Dcd),m.out⟩:Mac) 9 m.d.at_) (fun hm1=>⟨(Ca (⟨(⟨m.d.plan,m.d.mode,m.d.stack,(An m.d.scan b).1,m.d.start,m.d.at_,m.d.field,m.d.wire,m.d.want,m.d.utf,m.d.end_⟩:Dcd),m.out⟩:Mac) _ _ Q6),rfl,Q7⟩) ?_
 rotate_left
 refine dsp (fun h6 p6=>?_) fun h6 p6=>?_
 refine dsp (fun h7 p7=>?_) fun h7 p7=>?_
 refine zE (Dq m b ((m).d.at_-1)) (A3 (⟨(⟨m.d.plan,m.d.mode,m.d.stack,(An m.d.scan b).1,m.d.start,m.d.at_,m.d.field,m.d.wire,m.d.want,m.d.utf,m.d.end_⟩:Dcd),m.out⟩:Mac) 9 m.d.at_) (fun hm1=>⟨(Ca (⟨(⟨m.d.plan,m.d.mode,m.d.stack,(An m.d.scan b).1,m.d.start,m.d.at_,m.d.field,m.d.wire,m.d.want,m.d.utf,m.d.end_⟩:Dcd),m.out⟩:Mac) _ _ Q6),rfl,Q7⟩) ?_
 rotate_left
 refine zE (Dq m b ((m).d.at_-1)) (⟨(⟨m.d.plan,m.d.mode,m.d.stack,(An m.d.scan b).1,m.d.start,m.d.at_,m.d.field,m.d.wire,m.d.want,m.d.utf,m.d.end_⟩:Dcd),m.out⟩:Mac) (fun hm1=>⟨rfl,Q7⟩) ?_
 rotate_left
 refine zE (Dq m b ((m).d.at_-1)) (⟨(⟨m.d.plan,m.d.mode,m.d.stack,(An m.d.scan b).1,m.d.start,m.d.at_,m.d.field,m.d.wire,m.d.want,m.d.utf,m.d.end_⟩:Dcd),m.out⟩:Mac) (fun hm1=>⟨rfl,Q7⟩) ?_
 rotate_left
 refine dsp (fun h5 p5=>?_) fun h5 p5=>?_
 refine dsp (fun h6 p6=>?_) fun h6 p6=>?_
 refine zE (Dq m b ((m).d.at_-1)) (A3 (⟨(⟨m.d.plan,m.d.mode,m.d.stack,(An m.d.scan b).1,m.d.start,m.d.at_,m.d.field,m.d.wire,m.d.want,m.d.utf,m.d.end_⟩:Dcd),m.out⟩:Mac) 9 m.d.at_) (fun hm1=>⟨(Ca (⟨(⟨m.d.plan,m.d.mode,m.d.stack,(An m.d.scan b).1,m.d.start,m.d.at_,m.d.field,m.d.wire,m.d.want,m.d.utf,m.d.end_⟩:Dcd),m.out⟩:Mac) _ _ Q6),rfl,Q7⟩) ?_
 rotate_left
 refine zE (Dq m b ((m).d.at_-1)) (⟨(⟨m.d.plan,m.d.mode,m.d.stack,(An m.d.scan b).1,m.d.start,m.d.at_,m.d.field,m.d.wire,m.d.want,m.d.utf,m.d.end_⟩:Dcd),m.out⟩:Mac) (fun hm1=>⟨rfl,Q7⟩) ?_
 rotate_left
 refine zE (Dq m b ((m).d.at_-1)) (⟨(⟨m.d.plan,m.d.mode,m.d.stack,(An m.d.scan b).1,m.d.start,m.d.at_,m.d.field,m.d.wire,m.d.want,m.d.utf,m.d.end_⟩:Dcd),m.out⟩:Mac) (fun hm1=>⟨rfl,Q7⟩) ?_
 rotate_left
 refine dsp (fun h4 p4=>?_) fun h4 p4=>?_
 refine zE (Dq m b ((m).d.at_-1)) (Ed (⟨(⟨m.d.plan,m.d.mode,m.d.stack,(⟨0,0⟩:Scn),m.d.start,m.d.at_,m.d.field,m.d.wire,m.d.want,m.d.utf,m.d.end_⟩:Dcd),m.out⟩:Mac) (An m.d.scan b).1.bits) (fun hm1=>⟨(Ag3 (⟨(⟨m.d.plan,m.d.mode,m.d.stack,(⟨0,0⟩:Scn),m.d.start,m.d.at_,m.d.field,m.d.wire,m.d.want,m.d.utf,m.d.end_⟩:Dcd),m.out⟩:Mac) _ (Q19) Q6 Q2),rfl,Q7⟩) ?_
 rotate_left
 refine dsp (fun h5 p5=>?_) fun h5 p5=>?_
 refine zE (Dq m b ((m).d.at_-1)) (Li (⟨(⟨m.d.plan,m.d.mode,m.d.stack,(⟨0,0⟩:Scn),m.d.start,m.d.at_,m.d.field,m.d.wire,m.d.want,m.d.utf,m.d.end_⟩:Dcd),m.out⟩:Mac) (An m.d.scan b).1.bits) (fun hm1=>⟨(Ao7 (⟨(⟨m.d.plan,m.d.mode,m.d.stack,(⟨0,0⟩:Scn),m.d.start,m.d.at_,m.d.field,m.d.wire,m.d.want,m.d.utf,m.d.end_⟩:Dcd),m.out⟩:Mac) _ (Q19) Q6 Q2),rfl,Q7⟩) ?_
 rotate_left
 refine dsp (fun h6 p6=>?_) fun h6 p6=>?_
 refine zE (Dq m b ((m).d.at_-1)) (Ey (⟨(⟨m.d.plan,m.d.mode,m.d.stack,(⟨0,0⟩:Scn),m.d.start,m.d.at_,m.d.field,m.d.wire,m.d.want,m.d.utf,m.d.end_⟩:Dcd),m.out⟩:Mac) (An m.d.scan b).1.bits) (fun hm1=>⟨(Amb (⟨(⟨m.d.plan,m.d.mode,m.d.stack,(⟨0,0⟩:Scn),m.d.start,m.d.at_,m.d.field,m.d.wire,m.d.want,m.d.utf,m.d.end_⟩:Dcd),m.out⟩:Mac) _ (Q19) Q6 Q2 (hp1.kn)),rfl,Q7⟩) ?_
 rotate_left
 refine zE (Dq m b ((m).d.at_-1)) (Ao (Ce (⟨(⟨m.d.plan,m.d.mode,m.d.stack,(⟨0,0⟩:Scn),m.d.start,m.d.at_,m.d.field,m.d.wire,m.d.want,m.d.utf,m.d.end_⟩:Dcd),m.out⟩:Mac) (An m.d.scan b).1.bits)) (fun hm1=>⟨(Abf (⟨(⟨m.d.plan,m.d.mode,m.d.stack,(⟨0,0⟩:Scn),m.d.start,m.d.at_,m.d.field,m.d.wire,m.d.want,m.d.utf,m.d.end_⟩:Dcd),m.out⟩:Mac) _ Q6 Q2),(D8 (Ce (⟨(⟨m.d.plan,m.d.mode,m.d.stack,(⟨0,0⟩:Scn),m.d.start,m.d.at_,m.d.field,m.d.wire,m.d.want,m.d.utf,m.d.end_⟩:Dcd),m.out⟩:Mac) (An m.d.scan b).1.bits) (Q19) (Nat.le_trans (Fz _ _) Q46)),rfl,Q7⟩) ?_
 rotate_left
 all_goals first|(simp_all[Dq,Nn,Mq,Zw,A3,Gw,scn0];done)|(grind[Dq,Nn,Mq,Zw,A3,Gw,scn0])
theorem R7 (m:Mac) (b:Int) (hp1:MW (m).d) (hp2:List.length (m).out≤50000000) (hp3:(0:Int)≤b∧b≤255):Fun Tryz.prog 217 [vP 0,vI b] [.cells (Ab 1 2 3 m),.tree m.d.plan.shapes,.lst .lev m.d.stack,.lst .ev m.out] (.tup []) [.cells (Ab 4 5 6 (Hb m b)),.dead,.dead,.dead,.tree (Hb m b).d.plan.shapes,.lst .lev (Hb m b).d.stack,.lst .ev (Hb m b).out]:=by
 have hN:Bk=274877906944:=rfl
 have hlv:=Co hp1.lv
 have hpt:=B8 hlv.1
 have htb:=No hp1.lv
 have hwm:=Ai5 m
 have hbb:=hp1.b0
 have hat:=hp1.at_
 have hwt:=hp1.want
 have hwd:=Rx m.d
 have hfb:=Agf (b:=b) hbb
 refine Ar Tryz.func217 Q4 Q4 (w:=let zi:Int→C:= .int .i64;let z3:List Blk:=[.cells (Ab 4 5 6 (Hb m b)),.dead,.dead,.dead,.tree (Hb m b).d.plan.shapes,.lst .lev (Hb m b).d.stack,.lst .ev (Hb m b).out];let z6:=B9 m.d.scan b;let z1:=Ce (⟨(⟨m.d.plan,m.d.mode,m.d.stack,(⟨0,0⟩:Scn),m.d.start,m.d.at_,m.d.field,m.d.wire,m.d.want,m.d.utf,m.d.end_⟩:Dcd),m.out⟩:Mac) z6.bits;let z2:List Blk:=[.cells (Ab 4 5 6 (Ao z1)),.dead,.dead,.dead,.tree (Ao z1).d.plan.shapes,.lst .lev (Ao z1).d.stack,.lst .ev (Ao z1).out];let z4:List Blk:=[.cells (Ab 1 2 3 z1),.tree z1.d.plan.shapes,.lst .lev z1.d.stack,.lst .ev z1.out];let z5:=A3 z1 9 z1.d.at_;let z7:List Blk:=[.cells (Ab 1 2 4 z1),.tree z1.d.plan.shapes,.lst .lev z1.d.stack,.dead,.lst .ev z1.out];let z8:List Blk:=[.cells (Ab 1 2 4 z5),.tree z5.d.plan.shapes,.lst .lev z5.d.stack,.dead,.lst .ev z5.out];(.seg [.ord [(0,true),(1,true),(2,true),(3,true),(5,true),(6,true),(7,true),(8,true),(9,true),(10,true),(4,false),(11,true),(12,true)] [],.call [] (.v (vI (Bx m.d))) [],.call [] (.v (.agg (Zt z6))) []] (.br (.seg [.at 0,.cut 0 0,.cut 0 5,.cut 0 27] (.leaf () [0,1,2,3,4,5,6])) (.seg [.call [0,1,2,3] (.tup []) z7] (.br (.br (.br (.seg [.call [0,1,2,4] (.tup []) z8,.at 0,.cut 0 0,.cut 0 5] (.leaf () [0,1,2,3,6,7,5])) (.seg [.call [0,1,2,4] (.tup []) z2] (.leaf () [0,1,2,3,5,6,7]))) (.seg [.call [0,1,2,4] (.tup []) z2] (.leaf () [0,1,2,3,5,6,7]))) (.seg [.call [0,1,2,4] (.tup []) z2] (.leaf () [0,1,2,3,5,6,7]))))),(Fp 213 [.agg (C4 m.d)] [] (.v (vI (Bx m.d))) [])∧(Fp 262 [.agg (Zt m.d.scan),vI b] [] (.v (.agg (Zt z6))) [])∧Bc (decide (z6.have_<Bx m.d)) (Lf (.tup []) (.tup []) [.cells [.own 4,zi m.d.plan.root,zi m.d.plan.deep,zi m.d.plan.most,zi m.d.mode,.own 5,.int .u64 z6.bits,zi z6.have_,zi m.d.start,zi m.d.at_,zi m.d.field.number,zi m.d.field.kind,.bool m.d.field.rep,.bool m.d.field.packed,zi m.d.field.msg,zi m.d.wire,zi m.d.want,zi m.d.utf.want,zi m.d.utf.low,zi m.d.utf.high,zi m.d.end_.kind,zi m.d.end_.field,.int .u64 m.d.end_.bits,zi m.d.end_.len,.str m.d.end_.text,zi m.d.end_.code,zi m.d.end_.at_,.own 6],.dead,.dead,.dead,.tree m.d.plan.shapes,.lst .lev m.d.stack,.lst .ev m.out] z3) ((Fp 263 [vP 0,.c (.int .u64 z6.bits)] [.cells [.own 1,zi m.d.plan.root,zi m.d.plan.deep,zi m.d.plan.most,zi m.d.mode,.own 2,.int .u64 0,zi 0,zi m.d.start,zi m.d.at_,zi m.d.field.number,zi m.d.field.kind,.bool m.d.field.rep,.bool m.d.field.packed,zi m.d.field.msg,zi m.d.wire,zi m.d.want,zi m.d.utf.want,zi m.d.utf.low,zi m.d.utf.high,zi m.d.end_.kind,zi m.d.end_.field,.int .u64 m.d.end_.bits,zi m.d.end_.len,.str m.d.end_.text,zi m.d.end_.code,zi m.d.end_.at_,.own 3],.tree m.d.plan.shapes,.lst .lev m.d.stack,.lst .ev m.out] (.tup []) z7)∧Bc (decide (m.d.mode=8)) (Bc (decide (0<z1.d.want)) (Bc (decide (z1.d.want<Bx m.d)) ((Fp 101 [vP 0,vI 9,vI z1.d.at_] z4 (.tup []) z8)∧Lf (.tup []) (.tup []) [.cells (Ab 4 5 6 z5),.dead,.dead,.dead,.tree z5.d.plan.shapes,.lst .lev z5.d.stack,.lst .ev z5.out] z3) ((Fp 216 [vP 0] z4 (.tup []) z2)∧Lf (.tup []) (.tup []) z2 z3)) ((Fp 216 [vP 0] z4 (.tup []) z2)∧Lf (.tup []) (.tup []) z2 z3)) ((Fp 216 [vP 0] z4 (.tup []) z2)∧Lf (.tup []) (.tup []) z2 z3)))) Q4 ?_
 refine⟨(Pv m.d),(Ag4 m.d.scan _),dsp (fun h1 p1=>?_) fun h1 p1=>?_⟩
 refine zE (Hb m b) (⟨(⟨m.d.plan,m.d.mode,m.d.stack,(B9 m.d.scan b),m.d.start,m.d.at_,m.d.field,m.d.wire,m.d.want,m.d.utf,m.d.end_⟩:Dcd),m.out⟩:Mac) (fun hm1=>⟨rfl,Q7⟩) ?_
 rotate_left
 refine⟨(Abf (⟨(⟨m.d.plan,m.d.mode,m.d.stack,(⟨0,0⟩:Scn),m.d.start,m.d.at_,m.d.field,m.d.wire,m.d.want,m.d.utf,m.d.end_⟩:Dcd),m.out⟩:Mac) _ Q6 Q2),dsp (fun h2 p2=>?_) fun h2 p2=>?_⟩
 refine dsp (fun h3 p3=>?_) fun h3 p3=>?_
 refine dsp (fun h4 p4=>?_) fun h4 p4=>?_
 refine zE (Hb m b) (A3 (Ce (⟨(⟨m.d.plan,m.d.mode,m.d.stack,(⟨0,0⟩:Scn),m.d.start,m.d.at_,m.d.field,m.d.wire,m.d.want,m.d.utf,m.d.end_⟩:Dcd),m.out⟩:Mac) (B9 m.d.scan b).bits) 9 (Ce (⟨(⟨m.d.plan,m.d.mode,m.d.stack,(⟨0,0⟩:Scn),m.d.start,m.d.at_,m.d.field,m.d.wire,m.d.want,m.d.utf,m.d.end_⟩:Dcd),m.out⟩:Mac) (B9 m.d.scan b).bits).d.at_) (fun hm1=>⟨(Ca (Ce (⟨(⟨m.d.plan,m.d.mode,m.d.stack,(⟨0,0⟩:Scn),m.d.start,m.d.at_,m.d.field,m.d.wire,m.d.want,m.d.utf,m.d.end_⟩:Dcd),m.out⟩:Mac) (B9 m.d.scan b).bits) _ _ (Nat.le_trans (Fz _ _) Q46)),rfl,Q7⟩) ?_
 rotate_left
 refine zE (Hb m b) (Ao (Ce (⟨(⟨m.d.plan,m.d.mode,m.d.stack,(⟨0,0⟩:Scn),m.d.start,m.d.at_,m.d.field,m.d.wire,m.d.want,m.d.utf,m.d.end_⟩:Dcd),m.out⟩:Mac) (B9 m.d.scan b).bits)) (fun hm1=>⟨(D8 (Ce (⟨(⟨m.d.plan,m.d.mode,m.d.stack,(⟨0,0⟩:Scn),m.d.start,m.d.at_,m.d.field,m.d.wire,m.d.want,m.d.utf,m.d.end_⟩:Dcd),m.out⟩:Mac) (B9 m.d.scan b).bits) (Q19) (Nat.le_trans (Fz _ _) Q46)),rfl,Q7⟩) ?_
 rotate_left
 refine zE (Hb m b) (Ao (Ce (⟨(⟨m.d.plan,m.d.mode,m.d.stack,(⟨0,0⟩:Scn),m.d.start,m.d.at_,m.d.field,m.d.wire,m.d.want,m.d.utf,m.d.end_⟩:Dcd),m.out⟩:Mac) (B9 m.d.scan b).bits)) (fun hm1=>⟨(D8 (Ce (⟨(⟨m.d.plan,m.d.mode,m.d.stack,(⟨0,0⟩:Scn),m.d.start,m.d.at_,m.d.field,m.d.wire,m.d.want,m.d.utf,m.d.end_⟩:Dcd),m.out⟩:Mac) (B9 m.d.scan b).bits) (Q19) (Nat.le_trans (Fz _ _) Q46)),rfl,Q7⟩) ?_
 rotate_left
 refine zE (Hb m b) (Ao (Ce (⟨(⟨m.d.plan,m.d.mode,m.d.stack,(⟨0,0⟩:Scn),m.d.start,m.d.at_,m.d.field,m.d.wire,m.d.want,m.d.utf,m.d.end_⟩:Dcd),m.out⟩:Mac) (B9 m.d.scan b).bits)) (fun hm1=>⟨(D8 (Ce (⟨(⟨m.d.plan,m.d.mode,m.d.stack,(⟨0,0⟩:Scn),m.d.start,m.d.at_,m.d.field,m.d.wire,m.d.want,m.d.utf,m.d.end_⟩:Dcd),m.out⟩:Mac) (B9 m.d.scan b).bits) (Q19) (Nat.le_trans (Fz _ _) Q46)),rfl,Q7⟩) ?_
 rotate_left
 all_goals first|(simp_all[Hb,Mq,A3,Gw,scn0,Zy,Vg];done)|(grind[Hb,Mq,A3,Gw,scn0,Zy,Vg])
theorem Xk (m:Mac) (b:Int) (hp1:MW (m).d) (hp2:List.length (m).out≤50000000) (hp3:(0:Int)≤b∧b≤255):Fun Tryz.prog 215 [vP 0,vI b] [.cells (Ab 1 2 3 m),.tree m.d.plan.shapes,.lst .lev m.d.stack,.lst .ev m.out] (.tup []) [.cells (Ab 4 5 6 (Ej m b)),.dead,.dead,.dead,.tree (Ej m b).d.plan.shapes,.lst .lev (Ej m b).d.stack,.lst .ev (Ej m b).out]:=by
 have hN:Bk=274877906944:=rfl
 have hlv:=Co hp1.lv
 have hpt:=B8 hlv.1
 have htb:=No hp1.lv
 have hwm:=Ai5 m
 have hbb:=hp1.b0
 have hat:=hp1.at_
 have hwt:=hp1.want
 have hwd:=Rx m.d
 refine Ar Tryz.func215 Q4 Q4 (w:=let zi:Int→C:= .int .i64;let z3:List C:=[zi 4,zi 0,.int .u64 0,zi 0,.str (List.map Bo [b]),zi 0,zi 0];let z6:=(⟨4,0,0,0,List.map Bo [b],0,0⟩:Ev);let z5:=Ao (⟨(m).d,(m).out++[z6]⟩:Mac);let z7:List Blk:=[.cells (Ab 4 5 6 (Ej m b)),.dead,.dead,.dead,.tree (Ej m b).d.plan.shapes,.lst .lev (Ej m b).d.stack,.lst .ev (Ej m b).out];let z11:List Blk:=[.cells (Ab 4 5 6 z5),.dead,.dead,.dead,.tree z5.d.plan.shapes,.lst .lev z5.d.stack,.lst .ev z5.out];let z12:List Blk:=[.cells (Ab 1 2 4 m),.tree (m).d.plan.shapes,.lst .lev (m).d.stack,.dead,.lst .ev ((m).out++[z6])];let z14:List Blk:=[.cells (Ab 1 2 3 m),.tree m.d.plan.shapes,.lst .lev m.d.stack,.lst .ev m.out];let z16:=(.v (.c (.int .u8 (IntKind.u8.wrap (b)))):S)= .v (.c (.int .u8 b));let z18:=B0 m.d.utf b;let z8:=z18.getD m.d.utf;let z1:List C:=[.own 1,zi m.d.plan.root,zi m.d.plan.deep,zi m.d.plan.most,zi m.d.mode,.own 2,.int .u64 m.d.scan.bits,zi m.d.scan.have_,zi m.d.start,zi m.d.at_,zi m.d.field.number,zi m.d.field.kind,.bool m.d.field.rep,.bool m.d.field.packed,zi m.d.field.msg,zi m.d.wire,zi m.d.want,zi z8.want,zi z8.low,zi z8.high,zi m.d.end_.kind,zi m.d.end_.field,.int .u64 m.d.end_.bits,zi m.d.end_.len,.str m.d.end_.text,zi m.d.end_.code,zi m.d.end_.at_,.own 4];let z2:List C:=[.own 1,zi m.d.plan.root,zi m.d.plan.deep,zi m.d.plan.most,zi m.d.mode,.own 2,.int .u64 m.d.scan.bits,zi m.d.scan.have_,zi m.d.start,zi m.d.at_,zi m.d.field.number,zi m.d.field.kind,.bool m.d.field.rep,.bool m.d.field.packed,zi m.d.field.msg,zi m.d.wire,zi m.d.want,zi z8.want,zi z8.low,zi z8.high,zi m.d.end_.kind,zi m.d.end_.field,.int .u64 m.d.end_.bits,zi m.d.end_.len,.str m.d.end_.text,zi m.d.end_.code,zi m.d.end_.at_,.own 3];let z4:=Ao (⟨(⟨m.d.plan,m.d.mode,m.d.stack,m.d.scan,m.d.start,m.d.at_,m.d.field,m.d.wire,m.d.want,z8,m.d.end_⟩:Dcd),m.out++[z6]⟩:Mac);let z10:List Blk:=[.cells (Ab 4 5 6 z4),.dead,.dead,.dead,.tree z4.d.plan.shapes,.lst .lev z4.d.stack,.lst .ev z4.out];let z15:List Blk:=[.cells z1,.tree m.d.plan.shapes,.lst .lev m.d.stack,.dead,.lst .ev (m.out++[z6])];let z17:S:= .tup [.agg (N9 z8),vB z18.isSome];let z19:=m.d.at_-1;let z9:=A3 m 5 z19;let z13:List Blk:=[.cells (Ab 1 2 4 z9),.tree z9.d.plan.shapes,.lst .lev z9.d.stack,.dead,.lst .ev z9.out];(.br (.seg [.call [] z17 []] (.br (.seg [.as 31 (.v (vI z19)),.call [0,1,2,3] (.tup []) z13,.at 0,.cut 0 0,.cut 0 5] (.leaf () [0,1,2,3,6,7,5])) (.seg [.as 40 (.v (.c (.int .u8 b))),.ty .u8,.call [0,1,2,3] (.tup []) z15,.call [0,1,2,6] (.tup []) z10] (.leaf () [0,1,2,3,7,8,9])))) (.seg [.as 40 (.v (.c (.int .u8 b))),.ty .u8,.call [0,1,2,3] (.tup []) z12,.call [0,1,2,5] (.tup []) z11] (.leaf () [0,1,2,3,6,7,8])),Bc (decide (m.d.field.kind=6)) ((Fp 243 [.agg (N9 m.d.utf),vI b] [] z17 [])∧Bc (!z18.isSome) ((wI z19)∧(Fp 101 [vP 0,vI 5,vI z19] z14 (.tup []) z13)∧Lf (.tup []) (.tup []) [.cells (Ab 4 5 6 z9),.dead,.dead,.dead,.tree z9.d.plan.shapes,.lst .lev z9.d.stack,.lst .ev z9.out] z7) (z16∧(Fp 100 [vP 0,.agg z3] [.cells z2,.tree m.d.plan.shapes,.lst .lev m.d.stack,.lst .ev m.out] (.tup []) z15)∧(Fp 216 [vP 0] [.cells z2,.tree m.d.plan.shapes,.lst .lev m.d.stack,.lst .ev (m.out++[z6])] (.tup []) z10)∧Lf (.tup []) (.tup []) z10 z7)) (z16∧(Fp 100 [vP 0,.agg z3] z14 (.tup []) z12)∧(Fp 216 [vP 0] [.cells (Ab 1 2 3 m),.tree (m).d.plan.shapes,.lst .lev (m).d.stack,.lst .ev ((m).out++[z6])] (.tup []) z11)∧Lf (.tup []) (.tup []) z11 z7))) Q4 ?_
 refine dsp (fun h1 p1=>?_) fun h1 p1=>?_
 refine⟨(Agp m.d.utf _),fun h2=>have q2:=Aq h2;?_,fun h2=>have q2:=Ap h2;?_⟩
 refine zE (Ej m b) (A3 m 5 (m.d.at_-1)) (fun hm1=>⟨(Af Q2 Q2),(Ca m _ _ Q2),rfl,Q7⟩) ?_
 rotate_left
 refine zE (Ej m b) (Ao (⟨(⟨m.d.plan,m.d.mode,m.d.stack,m.d.scan,m.d.start,m.d.at_,m.d.field,m.d.wire,m.d.want,((B0 m.d.utf b).getD m.d.utf),m.d.end_⟩:Dcd),m.out++[(⟨4,0,0,0,List.map Bo [b],0,0⟩:Ev)]⟩:Mac)) (fun hm1=>⟨(P9 Q2 Q2),(Fk (⟨(⟨m.d.plan,m.d.mode,m.d.stack,m.d.scan,m.d.start,m.d.at_,m.d.field,m.d.wire,m.d.want,((B0 m.d.utf b).getD m.d.utf),m.d.end_⟩:Dcd),m.out⟩:Mac) (⟨4,0,0,0,List.map Bo [b],0,0⟩:Ev) Q6),(D8 (⟨(⟨m.d.plan,m.d.mode,m.d.stack,m.d.scan,m.d.start,m.d.at_,m.d.field,m.d.wire,m.d.want,((B0 m.d.utf b).getD m.d.utf),m.d.end_⟩:Dcd),m.out++[(⟨4,0,0,0,List.map Bo [b],0,0⟩:Ev)]⟩:Mac) (Q19) Q16),rfl,Q7⟩) ?_
 rotate_left
 refine zE (Ej m b) (Ao (⟨(m).d,(m).out++[(⟨4,0,0,0,List.map Bo [b],0,0⟩:Ev)]⟩:Mac)) (fun hm1=>⟨(P9 Q2 Q2),(Fk m (⟨4,0,0,0,List.map Bo [b],0,0⟩:Ev) Q2),(D8 (⟨(m).d,(m).out++[(⟨4,0,0,0,List.map Bo [b],0,0⟩:Ev)]⟩:Mac) (Q19) Q16),rfl,Q7⟩) ?_
 rotate_left
 all_goals first|(simp_all[Ej,Ap8,A3,Gw,Abb];done)|(grind[Ej,Ap8,A3,Gw,Abb])
theorem Ao8 (m:Mac) (b:Int) (hp1:MW (m).d) (hp2:List.length (m).out≤50000000) (hp3:(0:Int)≤b∧b≤255) (hp4:((m).d.stack.length=0∨1≤Eb (m).d)) (hp5:(m).d.at_≤1000000000) (hp6:((m).d.mode=6∨(m).d.mode=7∨(m).d.mode=8)→0≤(m).d.want):Fun Tryz.prog 156 [vP 0,vI b] [.cells (Ab 1 2 3 m),.tree m.d.plan.shapes,.lst .lev m.d.stack,.lst .ev m.out] (.tup []) [.cells (Ab 4 5 6 (Dd m b)),.dead,.dead,.dead,.tree (Dd m b).d.plan.shapes,.lst .lev (Dd m b).d.stack,.lst .ev (Dd m b).out]:=by
 have hN:Bk=274877906944:=rfl
 have hlv:=Co hp1.lv
 have hpt:=B8 hlv.1
 have htb:=No hp1.lv
 have hwm:=Ai5 m
 have hbb:=hp1.b0
 have hat:=hp1.at_
 have hwt:=hp1.want
 have hwd:=Rx m.d
 have hms:=hp1.step hp4 hp5 hp6
 refine Ar Tryz.func156 Q4 Q4 (w:=let zi:Int→C:= .int .i64;let z12:List C:=[zi m.d.utf.want,zi m.d.utf.low,zi m.d.utf.high,zi m.d.end_.kind,zi m.d.end_.field,.int .u64 m.d.end_.bits,zi m.d.end_.len,.str m.d.end_.text,zi m.d.end_.code,zi m.d.end_.at_];let z13:List C:=[zi m.d.utf.want,zi m.d.utf.low,zi m.d.utf.high,zi m.d.end_.kind,zi m.d.end_.field,.int .u64 m.d.end_.bits,zi m.d.end_.len,.str m.d.end_.text,zi m.d.end_.code,zi m.d.end_.at_,.own 3];let z14:=(⟨m.d.plan,m.d.mode,m.d.stack,m.d.scan,m.d.start,m.d.at_+1,m.d.field,m.d.wire,m.d.want-1,m.d.utf,m.d.end_⟩:Dcd);let z15:=(⟨m.d.plan,m.d.mode,m.d.stack,m.d.scan,m.d.start,m.d.at_+1,m.d.field,m.d.wire,m.d.want,m.d.utf,m.d.end_⟩:Dcd);let z16:List Blk:=[.cells (Ab 4 5 6 (Dd m b)),.dead,.dead,.dead,.tree (Dd m b).d.plan.shapes,.lst .lev (Dd m b).d.stack,.lst .ev (Dd m b).out];let z17:=((List.length m.d.stack:Nat):Int);let z26:=decide (m.d.mode=6);let z27:=m.d.want-1;let z28:=decide (m.d.mode=7);let z29:S:= .v (vI (Bx m.d));let z32:=Ej (⟨z14,m.out⟩:Mac) b;let z21:List Blk:=[.cells (Ab 4 5 6 z32),.dead,.dead,.dead,.tree z32.d.plan.shapes,.lst .lev z32.d.stack,.lst .ev z32.out];let z33:=Ao (⟨z14,m.out⟩:Mac);let z22:List Blk:=[.cells (Ab 4 5 6 z33),.dead,.dead,.dead,.tree z33.d.plan.shapes,.lst .lev z33.d.stack,.lst .ev z33.out];let z34:=m.d.at_+1;let z10:List C:= .own 1::zi m.d.plan.root::zi m.d.plan.deep::zi m.d.plan.most::zi m.d.mode:: .own 2:: .int .u64 m.d.scan.bits::zi m.d.scan.have_::zi m.d.start::zi z34::zi m.d.field.number::zi m.d.field.kind:: .bool m.d.field.rep:: .bool m.d.field.packed::zi m.d.field.msg::zi m.d.wire::zi z27::z13;let z11:List C:= .own 1::zi m.d.plan.root::zi m.d.plan.deep::zi m.d.plan.most::zi m.d.mode:: .own 2:: .int .u64 m.d.scan.bits::zi m.d.scan.have_::zi m.d.start::zi z34::zi m.d.field.number::zi m.d.field.kind:: .bool m.d.field.rep:: .bool m.d.field.packed::zi m.d.field.msg::zi m.d.wire::zi m.d.want::z13;let z18:=z34-1;let z25:List Blk:=[.cells z10,.tree m.d.plan.shapes,.lst .lev m.d.stack,.lst .ev m.out];let z30:=Dq (⟨z14,m.out⟩:Mac) b z18;let z19:List Blk:=[.cells (Ab 4 5 6 z30),.dead,.dead,.dead,.tree z30.d.plan.shapes,.lst .lev z30.d.stack,.lst .ev z30.out];let z31:=Dq (⟨z15,m.out⟩:Mac) b z18;let z20:List Blk:=[.cells (Ab 4 5 6 z31),.dead,.dead,.dead,.tree z31.d.plan.shapes,.lst .lev z31.d.stack,.lst .ev z31.out];let z35:=Hb (⟨z14,m.out⟩:Mac) b;let z23:List Blk:=[.cells (Ab 4 5 6 z35),.dead,.dead,.dead,.tree z35.d.plan.shapes,.lst .lev z35.d.stack,.lst .ev z35.out];let z36:=Hb (⟨z15,m.out⟩:Mac) b;let z24:List Blk:=[.cells (Ab 4 5 6 z36),.dead,.dead,.dead,.tree z36.d.plan.shapes,.lst .lev z36.d.stack,.lst .ev z36.out];let z37:List V:=[vP 0,vI b];let z38:=Int.toNat (z17-1);let z39:=decide (0<Bx m.d);let z40:List Blk:=[.cells z11,.tree m.d.plan.shapes,.lst .lev m.d.stack,.lst .ev m.out];let z41:=(0:Int)≤z17-1;let z42:=z26=false;let z43:S:= .v (vI z27);let z44:=z17-1<z17;let z45:=m.d.stack[Int.toNat (z17-1)]?;let z46:=z28=false;(.seg [.as 9 (.v (vI z34))] (.br (.intro (Sx z45) fun x1=>let z1:=(⟨m.d.plan,m.d.mode,List.set m.d.stack z38 (⟨x1.msg,x1.left-1⟩:Lev),m.d.scan,m.d.start,m.d.at_+1,m.d.field,m.d.wire,m.d.want-1,m.d.utf,m.d.end_⟩:Dcd);let z2:=(⟨m.d.plan,m.d.mode,List.set m.d.stack z38 (⟨x1.msg,x1.left-1⟩:Lev),m.d.scan,m.d.start,m.d.at_+1,m.d.field,m.d.wire,m.d.want,m.d.utf,m.d.end_⟩:Dcd);.seg [.ord (os 19 [18]) [],.as 31 (.v (vI (z17-1))),.el .lev x1,.as 35 (.v (vI (x1.left-1))),.el .lev x1] (.br (.seg [.as 65 z43,.br true,.call [0,1,2,3] (.tup []) [.cells (Ab 4 5 6 (Ej (⟨z1,m.out⟩:Mac) b)),.dead,.dead,.dead,.tree (Ej (⟨z1,m.out⟩:Mac) b).d.plan.shapes,.lst .lev (Ej (⟨z1,m.out⟩:Mac) b).d.stack,.lst .ev (Ej (⟨z1,m.out⟩:Mac) b).out]] (.leaf () [0,1,2,3,4,5,6])) (.br (.seg [.as 65 z43,.br false,.br true,.call [0,1,2,3] (.tup []) [.cells (Ab 4 5 6 (Ao (⟨z1,m.out⟩:Mac))),.dead,.dead,.dead,.tree (Ao (⟨z1,m.out⟩:Mac)).d.plan.shapes,.lst .lev (Ao (⟨z1,m.out⟩:Mac)).d.stack,.lst .ev (Ao (⟨z1,m.out⟩:Mac)).out]] (.leaf () [0,1,2,3,4,5,6])) (.br (.seg [.as 65 z43,.br false,.br false,.call [] z29 []] (.br (.seg [.call [0,1,2,3] (.tup []) [.cells (Ab 4 5 6 (Hb (⟨z1,m.out⟩:Mac) b)),.dead,.dead,.dead,.tree (Hb (⟨z1,m.out⟩:Mac) b).d.plan.shapes,.lst .lev (Hb (⟨z1,m.out⟩:Mac) b).d.stack,.lst .ev (Hb (⟨z1,m.out⟩:Mac) b).out]] (.leaf () [0,1,2,3,4,5,6])) (.seg [.call [0,1,2,3] (.tup []) [.cells (Ab 4 5 6 (Dq (⟨z1,m.out⟩:Mac) b z18)),.dead,.dead,.dead,.tree (Dq (⟨z1,m.out⟩:Mac) b z18).d.plan.shapes,.lst .lev (Dq (⟨z1,m.out⟩:Mac) b z18).d.stack,.lst .ev (Dq (⟨z1,m.out⟩:Mac) b z18).out]] (.leaf () [0,1,2,3,4,5,6])))) (.seg [.br false,.br false,.call [] z29 []] (.br (.seg [.call [0,1,2,3] (.tup []) [.cells (Ab 4 5 6 (Hb (⟨z2,m.out⟩:Mac) b)),.dead,.dead,.dead,.tree (Hb (⟨z2,m.out⟩:Mac) b).d.plan.shapes,.lst .lev (Hb (⟨z2,m.out⟩:Mac) b).d.stack,.lst .ev (Hb (⟨z2,m.out⟩:Mac) b).out]] (.leaf () [0,1,2,3,4,5,6])) (.seg [.call [0,1,2,3] (.tup []) [.cells (Ab 4 5 6 (Dq (⟨z2,m.out⟩:Mac) b z18)),.dead,.dead,.dead,.tree (Dq (⟨z2,m.out⟩:Mac) b z18).d.plan.shapes,.lst .lev (Dq (⟨z2,m.out⟩:Mac) b z18).d.stack,.lst .ev (Dq (⟨z2,m.out⟩:Mac) b z18).out]] (.leaf () [0,1,2,3,4,5,6])))))))) (.br (.seg [.as 65 z43,.br true,.call [0,1,2,3] (.tup []) z21] (.leaf () [0,1,2,3,4,5,6])) (.br (.seg [.as 65 z43,.br false,.br true,.call [0,1,2,3] (.tup []) z22] (.leaf () [0,1,2,3,4,5,6])) (.br (.seg [.as 65 z43,.br false,.br false,.call [] z29 []] (.br (.seg [.call [0,1,2,3] (.tup []) z23] (.leaf () [0,1,2,3,4,5,6])) (.seg [.call [0,1,2,3] (.tup []) z19] (.leaf () [0,1,2,3,4,5,6])))) (.seg [.br false,.br false,.call [] z29 []] (.br (.seg [.call [0,1,2,3] (.tup []) z24] (.leaf () [0,1,2,3,4,5,6])) (.seg [.call [0,1,2,3] (.tup []) z20] (.leaf () [0,1,2,3,4,5,6])))))))),(wI z34)∧Bc (decide (0<z17)) (El z45 fun x1=>(let z8:=m.d.stack[Int.toNat (z17-1)]? =some x1;let z9:=(⟨x1.msg,x1.left-1⟩:Lev);let z3:=(⟨m.d.plan,m.d.mode,List.set m.d.stack z38 z9,m.d.scan,m.d.start,m.d.at_+1,m.d.field,m.d.wire,m.d.want-1,m.d.utf,m.d.end_⟩:Dcd);let z4:=(⟨m.d.plan,m.d.mode,List.set m.d.stack z38 z9,m.d.scan,m.d.start,m.d.at_+1,m.d.field,m.d.wire,m.d.want,m.d.utf,m.d.end_⟩:Dcd);let z7:=List.set m.d.stack z38 z9;let z5:List Blk:=[.cells z10,.tree m.d.plan.shapes,.lst .lev z7,.lst .ev m.out];let z6:List Blk:=[.cells z11,.tree m.d.plan.shapes,.lst .lev z7,.lst .ev m.out];(wI (z17-1))∧(wI (z17-1))∧z44∧z41∧z44∧z41∧z8∧z8∧(wI (x1.left-1))∧(wI (x1.left-1))∧z44∧z41∧z44∧z41∧z8∧Bc z26 ((wI z27)∧(z26=true)∧(Fp 215 z37 z5 (.tup []) [.cells (Ab 4 5 6 (Ej (⟨z3,m.out⟩:Mac) b)),.dead,.dead,.dead,.tree (Ej (⟨z3,m.out⟩:Mac) b).d.plan.shapes,.lst .lev (Ej (⟨z3,m.out⟩:Mac) b).d.stack,.lst .ev (Ej (⟨z3,m.out⟩:Mac) b).out])∧Lf (.tup []) (.tup []) [.cells (Ab 4 5 6 (Ej (⟨z3,m.out⟩:Mac) b)),.dead,.dead,.dead,.tree (Ej (⟨z3,m.out⟩:Mac) b).d.plan.shapes,.lst .lev (Ej (⟨z3,m.out⟩:Mac) b).d.stack,.lst .ev (Ej (⟨z3,m.out⟩:Mac) b).out] z16) (Bc z28 ((wI z27)∧z42∧(z28=true)∧(Fp 216 [vP 0] z5 (.tup []) [.cells (Ab 4 5 6 (Ao (⟨z3,m.out⟩:Mac))),.dead,.dead,.dead,.tree (Ao (⟨z3,m.out⟩:Mac)).d.plan.shapes,.lst .lev (Ao (⟨z3,m.out⟩:Mac)).d.stack,.lst .ev (Ao (⟨z3,m.out⟩:Mac)).out])∧Lf (.tup []) (.tup []) [.cells (Ab 4 5 6 (Ao (⟨z3,m.out⟩:Mac))),.dead,.dead,.dead,.tree (Ao (⟨z3,m.out⟩:Mac)).d.plan.shapes,.lst .lev (Ao (⟨z3,m.out⟩:Mac)).d.stack,.lst .ev (Ao (⟨z3,m.out⟩:Mac)).out] z16) (Bc (decide (m.d.mode=8)) ((wI z27)∧z42∧z46∧(Fp 213 [.agg (.seq .shp m.d.plan.shapes::zi m.d.plan.root::zi m.d.plan.deep::zi m.d.plan.most::zi m.d.mode:: .seq .lev z7:: .int .u64 m.d.scan.bits::zi m.d.scan.have_::zi m.d.start::zi z34::zi m.d.field.number::zi m.d.field.kind:: .bool m.d.field.rep:: .bool m.d.field.packed::zi m.d.field.msg::zi m.d.wire::zi z27::z12)] [] z29 [])∧Bc z39 ((Fp 217 z37 z5 (.tup []) [.cells (Ab 4 5 6 (Hb (⟨z3,m.out⟩:Mac) b)),.dead,.dead,.dead,.tree (Hb (⟨z3,m.out⟩:Mac) b).d.plan.shapes,.lst .lev (Hb (⟨z3,m.out⟩:Mac) b).d.stack,.lst .ev (Hb (⟨z3,m.out⟩:Mac) b).out])∧Lf (.tup []) (.tup []) [.cells (Ab 4 5 6 (Hb (⟨z3,m.out⟩:Mac) b)),.dead,.dead,.dead,.tree (Hb (⟨z3,m.out⟩:Mac) b).d.plan.shapes,.lst .lev (Hb (⟨z3,m.out⟩:Mac) b).d.stack,.lst .ev (Hb (⟨z3,m.out⟩:Mac) b).out] z16) ((Fp 218 z37 z5 (.tup []) [.cells (Ab 4 5 6 (Dq (⟨z3,m.out⟩:Mac) b z18)),.dead,.dead,.dead,.tree (Dq (⟨z3,m.out⟩:Mac) b z18).d.plan.shapes,.lst .lev (Dq (⟨z3,m.out⟩:Mac) b z18).d.stack,.lst .ev (Dq (⟨z3,m.out⟩:Mac) b z18).out])∧Lf (.tup []) (.tup []) [.cells (Ab 4 5 6 (Dq (⟨z3,m.out⟩:Mac) b z18)),.dead,.dead,.dead,.tree (Dq (⟨z3,m.out⟩:Mac) b z18).d.plan.shapes,.lst .lev (Dq (⟨z3,m.out⟩:Mac) b z18).d.stack,.lst .ev (Dq (⟨z3,m.out⟩:Mac) b z18).out] z16)) (z42∧z46∧(Fp 213 [.agg (.seq .shp m.d.plan.shapes::zi m.d.plan.root::zi m.d.plan.deep::zi m.d.plan.most::zi m.d.mode:: .seq .lev z7:: .int .u64 m.d.scan.bits::zi m.d.scan.have_::zi m.d.start::zi z34::zi m.d.field.number::zi m.d.field.kind:: .bool m.d.field.rep:: .bool m.d.field.packed::zi m.d.field.msg::zi m.d.wire::zi m.d.want::z12)] [] z29 [])∧Bc z39 ((Fp 217 z37 z6 (.tup []) [.cells (Ab 4 5 6 (Hb (⟨z4,m.out⟩:Mac) b)),.dead,.dead,.dead,.tree (Hb (⟨z4,m.out⟩:Mac) b).d.plan.shapes,.lst .lev (Hb (⟨z4,m.out⟩:Mac) b).d.stack,.lst .ev (Hb (⟨z4,m.out⟩:Mac) b).out])∧Lf (.tup []) (.tup []) [.cells (Ab 4 5 6 (Hb (⟨z4,m.out⟩:Mac) b)),.dead,.dead,.dead,.tree (Hb (⟨z4,m.out⟩:Mac) b).d.plan.shapes,.lst .lev (Hb (⟨z4,m.out⟩:Mac) b).d.stack,.lst .ev (Hb (⟨z4,m.out⟩:Mac) b).out] z16) ((Fp 218 z37 z6 (.tup []) [.cells (Ab 4 5 6 (Dq (⟨z4,m.out⟩:Mac) b z18)),.dead,.dead,.dead,.tree (Dq (⟨z4,m.out⟩:Mac) b z18).d.plan.shapes,.lst .lev (Dq (⟨z4,m.out⟩:Mac) b z18).d.stack,.lst .ev (Dq (⟨z4,m.out⟩:Mac) b z18).out])∧Lf (.tup []) (.tup []) [.cells (Ab 4 5 6 (Dq (⟨z4,m.out⟩:Mac) b z18)),.dead,.dead,.dead,.tree (Dq (⟨z4,m.out⟩:Mac) b z18).d.plan.shapes,.lst .lev (Dq (⟨z4,m.out⟩:Mac) b z18).d.stack,.lst .ev (Dq (⟨z4,m.out⟩:Mac) b z18).out] z16)))))) (Bc z26 ((wI z27)∧(z26=true)∧(Fp 215 z37 z25 (.tup []) z21)∧Lf (.tup []) (.tup []) z21 z16) (Bc z28 ((wI z27)∧z42∧(z28=true)∧(Fp 216 [vP 0] z25 (.tup []) z22)∧Lf (.tup []) (.tup []) z22 z16) (Bc (decide (m.d.mode=8)) ((wI z27)∧z42∧z46∧(Fp 213 [.agg (.seq .shp m.d.plan.shapes::zi m.d.plan.root::zi m.d.plan.deep::zi m.d.plan.most::zi m.d.mode:: .seq .lev m.d.stack:: .int .u64 m.d.scan.bits::zi m.d.scan.have_::zi m.d.start::zi z34::zi m.d.field.number::zi m.d.field.kind:: .bool m.d.field.rep:: .bool m.d.field.packed::zi m.d.field.msg::zi m.d.wire::zi z27::z12)] [] z29 [])∧Bc z39 ((Fp 217 z37 z25 (.tup []) z23)∧Lf (.tup []) (.tup []) z23 z16) ((Fp 218 z37 z25 (.tup []) z19)∧Lf (.tup []) (.tup []) z19 z16)) (z42∧z46∧(Fp 213 [.agg (.seq .shp m.d.plan.shapes::zi m.d.plan.root::zi m.d.plan.deep::zi m.d.plan.most::zi m.d.mode:: .seq .lev m.d.stack:: .int .u64 m.d.scan.bits::zi m.d.scan.have_::zi m.d.start::zi z34::zi m.d.field.number::zi m.d.field.kind:: .bool m.d.field.rep:: .bool m.d.field.packed::zi m.d.field.msg::zi m.d.wire::zi m.d.want::z12)] [] z29 [])∧Bc z39 ((Fp 217 z37 z40 (.tup []) z24)∧Lf (.tup []) (.tup []) z24 z16) ((Fp 218 z37 z40 (.tup []) z20)∧Lf (.tup []) (.tup []) z20 z16))))))) Q4 ?_
 refine⟨(Af Q2 Q2),dsp (fun h1 p1=>?_) fun h1 p1=>?_⟩
 have hne:m.d.stack≠[]:=fun e=>by have:=congrArg List.length e;simp only[List.length_nil] at this;omega
 refine⟨(Bp (l:=m.d.stack) (i:=Int.toNat (((List.length m.d.stack:Nat):Int)-1)) Q2),fun x1 hx1=>?_⟩
 have hll:=Yh (d:=m.d) (by rw[←hx1];congr 1;omega)
 have hix:Int.toNat ((m.d.stack.length:Int)-1)=m.d.stack.length-1:=by omega
 refine⟨(Af Q2 Q2),(Af Q2 Q2),Q2,Q2,Q2,Q2,hx1,hx1,(Af Q2 Q2),(Af Q2 Q2),Q2,Q2,Q2,Q2,hx1,dsp (fun h2 p2=>?_) fun h2 p2=>?_⟩
 refine zE (Dd m b) (Ej (⟨(⟨m.d.plan,m.d.mode,List.set m.d.stack (Int.toNat (((List.length m.d.stack:Nat):Int)-1)) (⟨x1.msg,x1.left-1⟩:Lev),m.d.scan,m.d.start,m.d.at_+1,m.d.field,m.d.wire,m.d.want-1,m.d.utf,m.d.end_⟩:Dcd),m.out⟩:Mac) b) (fun hm1=>⟨(Af Q2 Q2),h2,(Xk (⟨(⟨m.d.plan,m.d.mode,List.set m.d.stack (Int.toNat (((List.length m.d.stack:Nat):Int)-1)) (⟨x1.msg,x1.left-1⟩:Lev),m.d.scan,m.d.start,m.d.at_+1,m.d.field,m.d.wire,m.d.want-1,m.d.utf,m.d.end_⟩:Dcd),m.out⟩:Mac) _ (Q14) Q6 Q2),rfl,Q7⟩) ?_
 rotate_left
 refine dsp (fun h3 p3=>?_) fun h3 p3=>?_
 refine zE (Dd m b) (Ao (⟨(⟨m.d.plan,m.d.mode,List.set m.d.stack (Int.toNat (((List.length m.d.stack:Nat):Int)-1)) (⟨x1.msg,x1.left-1⟩:Lev),m.d.scan,m.d.start,m.d.at_+1,m.d.field,m.d.wire,m.d.want-1,m.d.utf,m.d.end_⟩:Dcd),m.out⟩:Mac)) (fun hm1=>⟨(Af Q2 Q2),h2,h3,(D8 (⟨(⟨m.d.plan,m.d.mode,List.set m.d.stack (Int.toNat (((List.length m.d.stack:Nat):Int)-1)) (⟨x1.msg,x1.left-1⟩:Lev),m.d.scan,m.d.start,m.d.at_+1,m.d.field,m.d.wire,m.d.want-1,m.d.utf,m.d.end_⟩:Dcd),m.out⟩:Mac) ((by have e:Da m.d=(⟨m.d.plan,m.d.mode,List.set m.d.stack (Int.toNat (((List.length m.d.stack:Nat):Int)-1)) (⟨x1.msg,x1.left-1⟩:Lev),m.d.scan,m.d.start,m.d.at_+1,m.d.field,m.d.wire,m.d.want-1,m.d.utf,m.d.end_⟩:Dcd):=(by first|((simp_all[Da];done))|(grind[Da]));exact((e▸hms:MW (⟨m.d.plan,m.d.mode,List.set m.d.stack (Int.toNat (((List.length m.d.stack:Nat):Int)-1)) (⟨x1.msg,x1.left-1⟩:Lev),m.d.scan,m.d.start,m.d.at_+1,m.d.field,m.d.wire,m.d.want-1,m.d.utf,m.d.end_⟩:Dcd))).lv)) Q6),rfl,Q7⟩) ?_
 rotate_left
 refine dsp (fun h4 p4=>?_) fun h4 p4=>?_
 refine⟨(Af Q2 Q2),h2,h3,(Pv (⟨m.d.plan,m.d.mode,List.set m.d.stack (Int.toNat (((List.length m.d.stack:Nat):Int)-1)) (⟨x1.msg,x1.left-1⟩:Lev),m.d.scan,m.d.start,m.d.at_+1,m.d.field,m.d.wire,m.d.want-1,m.d.utf,m.d.end_⟩:Dcd)),dsp (fun h5 p5=>?_) fun h5 p5=>?_⟩
 refine zE (Dd m b) (Hb (⟨(⟨m.d.plan,m.d.mode,List.set m.d.stack (Int.toNat (((List.length m.d.stack:Nat):Int)-1)) (⟨x1.msg,x1.left-1⟩:Lev),m.d.scan,m.d.start,m.d.at_+1,m.d.field,m.d.wire,m.d.want-1,m.d.utf,m.d.end_⟩:Dcd),m.out⟩:Mac) b) (fun hm1=>⟨(R7 (⟨(⟨m.d.plan,m.d.mode,List.set m.d.stack (Int.toNat (((List.length m.d.stack:Nat):Int)-1)) (⟨x1.msg,x1.left-1⟩:Lev),m.d.scan,m.d.start,m.d.at_+1,m.d.field,m.d.wire,m.d.want-1,m.d.utf,m.d.end_⟩:Dcd),m.out⟩:Mac) _ (Q14) Q6 Q2),rfl,Q7⟩) ?_
 rotate_left
 refine zE (Dd m b) (Dq (⟨(⟨m.d.plan,m.d.mode,List.set m.d.stack (Int.toNat (((List.length m.d.stack:Nat):Int)-1)) (⟨x1.msg,x1.left-1⟩:Lev),m.d.scan,m.d.start,m.d.at_+1,m.d.field,m.d.wire,m.d.want-1,m.d.utf,m.d.end_⟩:Dcd),m.out⟩:Mac) b ((m.d.at_+1)-1)) (fun hm1=>⟨(R6 (⟨(⟨m.d.plan,m.d.mode,List.set m.d.stack (Int.toNat (((List.length m.d.stack:Nat):Int)-1)) (⟨x1.msg,x1.left-1⟩:Lev),m.d.scan,m.d.start,m.d.at_+1,m.d.field,m.d.wire,m.d.want-1,m.d.utf,m.d.end_⟩:Dcd),m.out⟩:Mac) _ (Q14) Q6 Q2),rfl,Q7⟩) ?_
 rotate_left
 refine⟨h2,h3,(Pv (⟨m.d.plan,m.d.mode,List.set m.d.stack (Int.toNat (((List.length m.d.stack:Nat):Int)-1)) (⟨x1.msg,x1.left-1⟩:Lev),m.d.scan,m.d.start,m.d.at_+1,m.d.field,m.d.wire,m.d.want,m.d.utf,m.d.end_⟩:Dcd)),dsp (fun h5 p5=>?_) fun h5 p5=>?_⟩
 refine zE (Dd m b) (Hb (⟨(⟨m.d.plan,m.d.mode,List.set m.d.stack (Int.toNat (((List.length m.d.stack:Nat):Int)-1)) (⟨x1.msg,x1.left-1⟩:Lev),m.d.scan,m.d.start,m.d.at_+1,m.d.field,m.d.wire,m.d.want,m.d.utf,m.d.end_⟩:Dcd),m.out⟩:Mac) b) (fun hm1=>⟨(R7 (⟨(⟨m.d.plan,m.d.mode,List.set m.d.stack (Int.toNat (((List.length m.d.stack:Nat):Int)-1)) (⟨x1.msg,x1.left-1⟩:Lev),m.d.scan,m.d.start,m.d.at_+1,m.d.field,m.d.wire,m.d.want,m.d.utf,m.d.end_⟩:Dcd),m.out⟩:Mac) _ (Q26) Q6 Q2),rfl,Q7⟩) ?_
 rotate_left
 refine zE (Dd m b) (Dq (⟨(⟨m.d.plan,m.d.mode,List.set m.d.stack (Int.toNat (((List.length m.d.stack:Nat):Int)-1)) (⟨x1.msg,x1.left-1⟩:Lev),m.d.scan,m.d.start,m.d.at_+1,m.d.field,m.d.wire,m.d.want,m.d.utf,m.d.end_⟩:Dcd),m.out⟩:Mac) b ((m.d.at_+1)-1)) (fun hm1=>⟨(R6 (⟨(⟨m.d.plan,m.d.mode,List.set m.d.stack (Int.toNat (((List.length m.d.stack:Nat):Int)-1)) (⟨x1.msg,x1.left-1⟩:Lev),m.d.scan,m.d.start,m.d.at_+1,m.d.field,m.d.wire,m.d.want,m.d.utf,m.d.end_⟩:Dcd),m.out⟩:Mac) _ (Q26) Q6 Q2),rfl,Q7⟩) ?_
 rotate_left
 have hne:m.d.stack=[]:=List.eq_nil_of_length_eq_zero (by omega)
 refine dsp (fun h2 p2=>?_) fun h2 p2=>?_
 refine zE (Dd m b) (Ej (⟨(⟨m.d.plan,m.d.mode,m.d.stack,m.d.scan,m.d.start,m.d.at_+1,m.d.field,m.d.wire,m.d.want-1,m.d.utf,m.d.end_⟩:Dcd),m.out⟩:Mac) b) (fun hm1=>⟨(Af Q2 Q2),h2,(Xk (⟨(⟨m.d.plan,m.d.mode,m.d.stack,m.d.scan,m.d.start,m.d.at_+1,m.d.field,m.d.wire,m.d.want-1,m.d.utf,m.d.end_⟩:Dcd),m.out⟩:Mac) _ (Q21) Q6 Q2),rfl,Q7⟩) ?_
 rotate_left
 refine dsp (fun h3 p3=>?_) fun h3 p3=>?_
 refine zE (Dd m b) (Ao (⟨(⟨m.d.plan,m.d.mode,m.d.stack,m.d.scan,m.d.start,m.d.at_+1,m.d.field,m.d.wire,m.d.want-1,m.d.utf,m.d.end_⟩:Dcd),m.out⟩:Mac)) (fun hm1=>⟨(Af Q2 Q2),h2,h3,(D8 (⟨(⟨m.d.plan,m.d.mode,m.d.stack,m.d.scan,m.d.start,m.d.at_+1,m.d.field,m.d.wire,m.d.want-1,m.d.utf,m.d.end_⟩:Dcd),m.out⟩:Mac) (Q19) Q6),rfl,Q7⟩) ?_
 rotate_left
 refine dsp (fun h4 p4=>?_) fun h4 p4=>?_
 refine⟨(Af Q2 Q2),h2,h3,(Pv (⟨m.d.plan,m.d.mode,m.d.stack,m.d.scan,m.d.start,m.d.at_+1,m.d.field,m.d.wire,m.d.want-1,m.d.utf,m.d.end_⟩:Dcd)),dsp (fun h5 p5=>?_) fun h5 p5=>?_⟩
 refine zE (Dd m b) (Hb (⟨(⟨m.d.plan,m.d.mode,m.d.stack,m.d.scan,m.d.start,m.d.at_+1,m.d.field,m.d.wire,m.d.want-1,m.d.utf,m.d.end_⟩:Dcd),m.out⟩:Mac) b) (fun hm1=>⟨(R7 (⟨(⟨m.d.plan,m.d.mode,m.d.stack,m.d.scan,m.d.start,m.d.at_+1,m.d.field,m.d.wire,m.d.want-1,m.d.utf,m.d.end_⟩:Dcd),m.out⟩:Mac) _ (Q21) Q6 Q2),rfl,Q7⟩) ?_
 rotate_left
 refine zE (Dd m b) (Dq (⟨(⟨m.d.plan,m.d.mode,m.d.stack,m.d.scan,m.d.start,m.d.at_+1,m.d.field,m.d.wire,m.d.want-1,m.d.utf,m.d.end_⟩:Dcd),m.out⟩:Mac) b ((m.d.at_+1)-1)) (fun hm1=>⟨(R6 (⟨(⟨m.d.plan,m.d.mode,m.d.stack,m.d.scan,m.d.start,m.d.at_+1,m.d.field,m.d.wire,m.d.want-1,m.d.utf,m.d.end_⟩:Dcd),m.out⟩:Mac) _ (Q21) Q6 Q2),rfl,Q7⟩) ?_
 rotate_left
 refine⟨h2,h3,(Pv (⟨m.d.plan,m.d.mode,m.d.stack,m.d.scan,m.d.start,m.d.at_+1,m.d.field,m.d.wire,m.d.want,m.d.utf,m.d.end_⟩:Dcd)),dsp (fun h5 p5=>?_) fun h5 p5=>?_⟩
 refine zE (Dd m b) (Hb (⟨(⟨m.d.plan,m.d.mode,m.d.stack,m.d.scan,m.d.start,m.d.at_+1,m.d.field,m.d.wire,m.d.want,m.d.utf,m.d.end_⟩:Dcd),m.out⟩:Mac) b) (fun hm1=>⟨(R7 (⟨(⟨m.d.plan,m.d.mode,m.d.stack,m.d.scan,m.d.start,m.d.at_+1,m.d.field,m.d.wire,m.d.want,m.d.utf,m.d.end_⟩:Dcd),m.out⟩:Mac) _ (Q33) Q6 Q2),rfl,Q7⟩) ?_
 rotate_left
 refine zE (Dd m b) (Dq (⟨(⟨m.d.plan,m.d.mode,m.d.stack,m.d.scan,m.d.start,m.d.at_+1,m.d.field,m.d.wire,m.d.want,m.d.utf,m.d.end_⟩:Dcd),m.out⟩:Mac) b ((m.d.at_+1)-1)) (fun hm1=>⟨(R6 (⟨(⟨m.d.plan,m.d.mode,m.d.stack,m.d.scan,m.d.start,m.d.at_+1,m.d.field,m.d.wire,m.d.want,m.d.utf,m.d.end_⟩:Dcd),m.out⟩:Mac) _ (Q33) Q6 Q2),rfl,Q7⟩) ?_
 rotate_left
 all_goals first|(simp_all[Dd,Da];done)|((have hw0:Bx m.d=0:=(by omega);simp_all[Dd,Da];done))|(grind[Dd,Da])
theorem Ank (d:Dcd):Fun Tryz.prog 155 [.agg (C4 d)] [] (.v (vB (Fb d))) []:=by
 have hN:Bk=274877906944:=rfl
 refine Ar Tryz.func155 Q4 Q4 (w:=(.br (.leaf () []) (.leaf () []),Bc (!decide (d.mode=9)) (Lf (.v (vB (decide (d.at_<1000000000)))) (.v (vB (Fb d))) [] []) (Lf (.v (vB false)) (.v (vB (Fb d))) [] []))) Q4 ?_
 refine⟨fun h1=>have q1:=Aq h1;have p1:=of_decide_eq_false q1;?_,fun h1=>have q1:=Ap h1;have p1:=of_decide_eq_true q1;?_⟩
 refine⟨(sB ?_),rfl⟩
 rotate_left
 refine⟨(sB ?_),rfl⟩
 rotate_left
 all_goals first|(simp[Fb, *];done)|(simp_all[Fb];done)|(grind[Fb])
structure Ajn where
 i:Nat
structure Anm where
 d:Dcd
 out:List Ev
structure Ajo where
 i:Nat
structure Ajp where
 k:Nat
structure Ajq where
 i:Nat
theorem Ao9 {x y:Ev} (h:x.kind=y.kind∧x.field=y.field∧x.bits=y.bits∧x.len=y.len∧x.text=y.text∧x.code=y.code∧x.at_=y.at_):x=y:=by
 cases x;cases y;simp at h ⊢;exact h
theorem Ag5 {a b:List Ev} {i:Nat} {x y:Ev} (h:a.take i=b.take i) (hx:a[i]? =some x) (hy:b[i]? =some y) (e:x=y):a.take (i+1)=b.take (i+1):=by
 rw[List.take_add_one,List.take_add_one,h,hx,hy,e]
theorem Ajr {a b:List Ev} {i:Nat} (h:a.take i=b.take i) (hl:a.length=b.length) (hi:a.length≤i):a=b:=by
 rwa [List.take_of_length_le hi,List.take_of_length_le (by omega)] at h
structure K4 where
 i:Nat
def K5 (a:List Ev) (b:List Ev):Fam:=⟨K4,fun q1=>[(0,.v (.c (.seq .ev a))),(1,.v (.c (.seq .ev b))),(5,.v (vI ((q1.i:Nat):Int)))],fun _=>[],fun q1=>q1.i≤List.length a∧List.length a=List.length b∧List.take q1.i a=List.take q1.i b,fun q1=>List.length a-q1.i⟩
theorem Ag6 (a:List Ev) (b:List Ev) (hp1:List.length a≤Bk) (hp2:List.length b≤Bk):Fun Tryz.prog 22 [.c (.seq .ev a),.c (.seq .ev b)] [] (.v (vB (decide (a=b)))) []:=by
 have hN:Bk=274877906944:=rfl
 refine Ar Tryz.func22 Q4 Q4 (w:=let z2:=Lf (.v (vB false)) (.v (vB (decide (a=b)))) [] [];let z3:=K5 a b;(.br (.leaf () []) (.seg [.at 0,.keep [0,1,5],.sel []] (.loop z3 fun q1=> .br (.intro (Sx (a[q1.i]?)) fun x1=> .intro (Sx (b[q1.i]?)) fun x2=> .seg [.ord (os 9 []) [],.el .ev x1,.el .ev x2] (.br (.leaf () []) (.seg [.as 16 (.v (vI (((q1.i:Nat):Int)+1))),.at 0,.keep [0,1,5],.sel []] (.next)))) (.leaf () []))),Bc (!decide (((List.length a:Nat):Int)=((List.length b:Nat):Int))) z2 (z3.Has [(0,.v (.c (.seq .ev a))),(1,.v (.c (.seq .ev b))),(5,.v (vI 0))] []∧∀q1,z3.inv q1→(let z1:=((q1.i:Nat):Int);Bc (decide (z1<((List.length a:Nat):Int))) (El (a[q1.i]?) fun x1=>(El (b[q1.i]?) fun x2=>((a[q1.i]? =some x1)∧((0:Int)≤z1)∧(a[q1.i]? =some x1)∧((0:Int)≤z1)∧(b[q1.i]? =some x2)∧((0:Int)≤z1)∧(b[q1.i]? =some x2)∧((0:Int)≤z1)∧Bc (!(decide (x1.kind=x2.kind)&&(decide (x1.field=x2.field)&&(decide (x1.bits=x2.bits)&&(decide (x1.len=x2.len)&&(decide (x1.text=x2.text)&&(decide (x1.code=x2.code)&&decide (x1.at_=x2.at_)))))))) z2 ((wI (z1+1))∧z3.Nxt q1 [(0,.v (.c (.seq .ev a))),(1,.v (.c (.seq .ev b))),(5,.v (vI (z1+1)))] [])))) (Lf (.v (vB true)) (.v (vB (decide (a=b)))) [] []))))) Q4 ?_
 refine⟨fun h1=>have q1:=Aq h1;have p1:=of_decide_eq_false q1;?_,fun h1=>have q1:=Ap h1;have p1:=of_decide_eq_true q1;?_⟩
 refine⟨(sB ?_),rfl⟩
 rotate_left
 refine⟨Cn (j:=(⟨0⟩:K4)) Q9 rfl (by dsimp only[K5];exact⟨by omega,by omega,by simp⟩),fun (q1:K4) hq_q1=>?_⟩
 have hi_q1:q1.i≤List.length a∧List.length a=List.length b∧List.take q1.i a=List.take q1.i b:=hq_q1
 obtain ⟨v1,v2,v3⟩:=hi_q1
 refine dsp (fun h2 p2=>?_) fun h2 p2=>?_
 refine⟨(Bp (l:=a) (i:=q1.i) Q2),fun x1 hx1=>?_⟩
 refine⟨(Bp (l:=b) (i:=q1.i) Q2),fun x2 hx2=>?_⟩
 refine⟨hx1,Q2,hx1,Q2,hx2,Q2,hx2,Q2,fun h3=>have q3:=Aq h3;have p3:=(Dh dT (Dh dT (Dh dT (Dh dT (Dh dT (Dh dT dF)))))).1 q3;?_,fun h3=>have q3:=Ap h3;have p3:=(Dg dT (Dg dT (Dg dT (Dg dT (Dg dT (Dg dT dT)))))).1 q3;?_⟩
 refine⟨(sB ?_),rfl⟩
 rotate_left
 exact⟨(Af Q2 Q2),Be (j:=(⟨q1.i+1⟩:K4)) Q9 rfl (by dsimp only[K5];exact⟨by omega,v2,Ag5 v3 hx1 hx2 (Ao9 p3)⟩) (by dsimp only[K5];omega)⟩
 refine⟨(sB ?_),rfl⟩
 rotate_left
 all_goals first|(exact(decide_eq_true (Ajr v3 v2 (by omega))).symm)|(exact(decide_eq_false (fun h=>by subst h;omega)).symm)|(exact(decide_eq_false (fun h=>by subst h;rw[hx1] at hx2;cases hx2;simp at p3)).symm)
theorem Xm  :Fun Tryz.prog 98 [] [] (.tup []) []:=by
 have hN:Bk=274877906944:=rfl
 refine Ar Tryz.func98 Q4 Q4 (w:=(.leaf () [],Lf (.tup []) (.tup []) [] [])) Q4 ?_
 exact⟨rfl,rfl⟩
structure Lr where
 m:Mac
 v:Nat
def Lt (m:Mac) (s:List UInt8):Fam:=⟨Lr,fun q1=>[(0,.v (vP 0)),(1,.v (vT s)),(2,.v (.c (.fn 98 []))),(8,.v (vI ((List.length s:Nat):Int))),(9,.v (vI ((q1.v:Nat):Int)))],fun q1=>[.cells (Ab 4 5 6 q1.m),.dead,.dead,.dead,.tree q1.m.d.plan.shapes,.lst .lev q1.m.d.stack,.lst .ev q1.m.out],fun q1=>q1.v≤List.length s∧B7 q1.m (List.drop q1.v s)=B7 m s∧Cd (q1.m).d=true∧List.length (q1.m).out≤List.length m.out+14*q1.v,fun q1=>List.length s-q1.v⟩
theorem Ann (m:Mac) (s:List UInt8) (hp1:Cd (m).d=true) (hp2:List.length (m).out≤1000000) (hp3:List.length s≤1048576):Fun Tryz.prog 97 [vP 0,vT s,.c (.fn 98 [])] [.cells (Ab 1 2 3 m),.tree m.d.plan.shapes,.lst .lev m.d.stack,.lst .ev m.out] (.tup []) [.cells (Ab 4 5 6 (B7 m s)),.dead,.dead,.dead,.tree (B7 m s).d.plan.shapes,.lst .lev (B7 m s).d.stack,.lst .ev (B7 m s).out]:=by
 have hN:Bk=274877906944:=rfl
 refine Ar Tryz.func97 Q4 Q4 (w:=let z7:=((List.length s:Nat):Int);let z8:=Lt m s;(.seg [.at 0,.cut 0 0,.cut 0 5,.cut 0 27,.keep [0,1,2,8,9],.sel [0,1,2,3,4,5,6]] (.loop z8 fun q1=>let z4:S:= .v (vI (((q1.v:Nat):Int)+1));.br (.seg [.call [] (.v (vB (Fb q1.m.d))) []] (.br (.intro (Sx (s[q1.v]?)) fun x1=>let z1:=Dd q1.m ((UInt8.toNat x1:Nat):Int);.seg [.ch x1,.as 21 (.v (vI ((UInt8.toNat x1:Nat):Int))),.call [0,4,5,6] (.tup []) [.cells (Ab 4 5 6 z1),.dead,.dead,.dead,.tree z1.d.plan.shapes,.lst .lev z1.d.stack,.lst .ev z1.out],.call [] (.tup []) [],.as 25 z4,.at 0,.keep [0,1,2,8,9],.sel [0,1,2,3,7,8,9]] (.next)) (.seg [.call [] (.tup []) [],.as 25 z4,.at 0,.keep [0,1,2,8,9],.sel [0,1,2,3,4,5,6]] (.next)))) (.leaf () [0,1,2,3,4,5,6])),z8.Has [(0,.v (vP 0)),(1,.v (vT s)),(2,.v (.c (.fn 98 []))),(8,.v (vI z7)),(9,.v (vI 0))] [.cells (Ab 4 5 6 m),.dead,.dead,.dead,.tree m.d.plan.shapes,.lst .lev m.d.stack,.lst .ev m.out]∧∀q1,z8.inv q1→(let z5:List Blk:=[.cells (Ab 4 5 6 q1.m),.dead,.dead,.dead,.tree q1.m.d.plan.shapes,.lst .lev q1.m.d.stack,.lst .ev q1.m.out];let z6:=((q1.v:Nat):Int);Bc (decide (z6<z7)) ((Fp 155 [.agg (C4 q1.m.d)] [] (.v (vB (Fb q1.m.d))) [])∧Bc (Fb q1.m.d) (El (s[q1.v]?) fun x1=>(let z3:=((UInt8.toNat x1:Nat):Int);let z2:=Dd q1.m z3;(s[q1.v]? =some x1)∧((0:Int)≤z6)∧(wI (z3))∧(Fp 156 [vP 0,vI z3] [.cells (Ab 1 2 3 q1.m),.tree q1.m.d.plan.shapes,.lst .lev q1.m.d.stack,.lst .ev q1.m.out] (.tup []) [.cells (Ab 4 5 6 z2),.dead,.dead,.dead,.tree z2.d.plan.shapes,.lst .lev z2.d.stack,.lst .ev z2.out])∧(Fp 98 [] [] (.tup []) [])∧(wI (z6+1))∧z8.Nxt q1 [(0,.v (vP 0)),(1,.v (vT s)),(2,.v (.c (.fn 98 []))),(8,.v (vI z7)),(9,.v (vI (z6+1)))] [.cells (Ab 4 5 6 z2),.dead,.dead,.dead,.tree z2.d.plan.shapes,.lst .lev z2.d.stack,.lst .ev z2.out])) ((Fp 98 [] [] (.tup []) [])∧(wI (z6+1))∧z8.Nxt q1 [(0,.v (vP 0)),(1,.v (vT s)),(2,.v (.c (.fn 98 []))),(8,.v (vI z7)),(9,.v (vI (z6+1)))] z5)) (Lf (.tup []) (.tup []) z5 [.cells (Ab 4 5 6 (B7 m s)),.dead,.dead,.dead,.tree (B7 m s).d.plan.shapes,.lst .lev (B7 m s).d.stack,.lst .ev (B7 m s).out])))) Q4 ?_
 refine⟨Cn (j:=(⟨m,0⟩:Lr)) Q9 rfl (by dsimp only[Lt];exact⟨by omega,rfl,hp1,by omega⟩),fun (q1:Lr) hq_q1=>?_⟩
 have hi_q1:q1.v≤List.length s∧B7 q1.m (List.drop q1.v s)=B7 m s∧Cd (q1.m).d=true∧List.length (q1.m).out≤List.length m.out+14*q1.v:=hq_q1
 obtain ⟨v1,v2,v3,v4⟩:=hi_q1
 have hbt:=Sv v3
 have hmw:=Acn v3 hbt
 have hlv:=Co hmw.lv
 have hpt:=B8 hlv.1
 refine dsp (fun h1 p1=>?_) fun h1 p1=>?_
 refine⟨(Ank q1.m.d),fun h2=>?_,fun h2=>?_⟩
 have hta:Fb q1.m.d=true:=h2
 have htk:=Ac0 hta
 have hst:=Aco v3 htk.1
 refine⟨(Bp (l:=s) (i:=q1.v) Q2),fun x1 hx1=>?_⟩
 have hb_x1:=UInt8.toNat_lt x1
 rw[Fe hx1,Ho] at v2
 have hub:=Aqn x1
 have hsm:=Xj (m:=q1.m) v3 hta hub
 exact⟨hx1,Q2,(Af Q2 Q2),(Ao8 q1.m _ (hmw) Q2 Q2 Q2 Q2 (hst.2.2.1)),(Xm),(Af Q2 Q2),Be (j:=(⟨(Dd q1.m ((UInt8.toNat x1:Nat):Int)),q1.v+1⟩:Lr)) Q9 rfl Q37 (by dsimp only[Lt];omega)⟩
 have hnt:Fb q1.m.d=false:=h2
 exact⟨(Xm),(Af Q2 Q2),Be (j:=(⟨q1.m,q1.v+1⟩:Lr)) Q9 rfl Q37 (by dsimp only[Lt];omega)⟩
 rw[List.drop_eq_nil_of_le (by omega),Ag2] at v2
 refine zE (B7 m s) q1.m (fun hm1=>⟨rfl,Q7⟩) ?_
 rotate_left
 all_goals first|((rw[←v2];done))|(rfl)|(grind)
theorem Ag7 (d:Dcd) (s:List UInt8) (hp1:List.length (d).plan.shapes≤1048576) (hp2: ∀e∈(d).plan.shapes,List.length e.fields≤1048576) (hp3:List.length (d).stack≤1048576) (hp4:(0:Int)≤(d).scan.bits∧(d).scan.bits≤18446744073709551615) (hp5:List.length s≤1048576):Fun Tryz.prog 47 [.agg (C4 d),vT s] [] (.tup [.agg (C0 0 1 (B7 ⟨d,[]⟩ s).d),vO 2]) [.tree (B7 ⟨d,[]⟩ s).d.plan.shapes,.lst .lev (B7 ⟨d,[]⟩ s).d.stack,.lst .ev (B7 ⟨d,[]⟩ s).out]:=by
 have hN:Bk=274877906944:=rfl
 refine Ar Tryz.func47 Q4 Q4 (w:=let zi:Int→C:= .int .i64;let z1:=B7 (⟨d,([]:List Ev)⟩:Mac) s;let z2:List Blk:=[.cells (Ab 4 5 6 z1),.dead,.dead,.dead,.tree z1.d.plan.shapes,.lst .lev z1.d.stack,.lst .ev z1.out];let z3:=B7 ⟨d,[]⟩ s;let z4:S:= .tup [.agg (C0 0 1 z3.d),vO 2];(.seg [.call [] (.v (.agg (C0 0 1 d))) (L2 d),.call [] (.v (vB (Cd d))) []] (.br (.seg [.at 4,.mk 4 27 .ev,.call [4,2,3,5] (.tup []) z2,.ord (os 10 [8]) [1]] (.leaf () [6,7,8])) (.seg [.ord (os 10 [8]) [1],.at 0,.mkS 5 .ev] (.leaf () [2,3,5]))),(Fp 82 [.agg (C4 d)] [] (.v (.agg (C0 0 1 d))) (L2 d))∧(Fp 96 [.agg (C4 d)] [] (.v (vB (Cd d))) [])∧Bc (Cd d) ((Fp 97 [vP 0,vT s,.c (.fn 98 [])] [.cells [.own 1,zi d.plan.root,zi d.plan.deep,zi d.plan.most,zi d.mode,.own 2,.int .u64 d.scan.bits,zi d.scan.have_,zi d.start,zi d.at_,zi d.field.number,zi d.field.kind,.bool d.field.rep,.bool d.field.packed,zi d.field.msg,zi d.wire,zi d.want,zi d.utf.want,zi d.utf.low,zi d.utf.high,zi d.end_.kind,zi d.end_.field,.int .u64 d.end_.bits,zi d.end_.len,.str d.end_.text,zi d.end_.code,zi d.end_.at_,.own 3],.tree d.plan.shapes,.lst .lev d.stack,.lst .ev ([]:List Ev)] (.tup []) z2)∧Lf (.tup [.agg (C0 0 1 z1.d),vO 2]) z4 (Ls z1.d z1.out) (Ls z3.d z3.out)) (Lf (.tup [.agg (C0 0 1 d),vO 2]) z4 (Ls d ([]:List Ev)) (Ls z3.d z3.out)))) Q4 ?_
 refine⟨(Z4 d Q2 (hp2) Q2),(Abe d Q2 Q2),fun h1=>?_,fun h1=>?_⟩
 refine zM Mac.d Mac.out (B7 ⟨d,[]⟩ s) (B7 (⟨d,([]:List Ev)⟩:Mac) s) (fun hm1 hm2=>⟨(Ann (⟨d,([]:List Ev)⟩:Mac) _ Q6 Q16 Q2),Q7,Q55⟩) ?_ ?_
 rotate_left 2
 have hbad:B7 ⟨d,[]⟩ s=⟨d,[]⟩:=Z5 (m:=⟨d,[]⟩) (by simpa using h1) s
 refine zD ((B7 ⟨d,[]⟩ s).d) d ((B7 ⟨d,[]⟩ s).out) ([]:List Ev) (fun hm1 hm2=>⟨Q7,Q55⟩) ?_ ?_
 rotate_left 2
 all_goals first|(rfl)|((rw[hbad];done))|(grind)
def Wn (l:List Ev):Ev:=l.getD (l.length-1) ev0
def Sy (e:Ev) (t:List UInt8):Ev:=⟨e.kind,e.field,e.bits,e.len,t,e.code,e.at_⟩
def tx:List Ev→Nat
 |[]=>0
 |e::r=>e.text.length+tx r
def Hd (o:List Ev) (e:Ev):List Ev:=
 if e.kind=4∧e.text=[] then o
 else if e.kind=4∧0<o.length∧(Wn o).kind=4 then o.set (o.length-1) (Sy (Wn o) ((Wn o).text++e.text))
 else o++[e]
def H5 (o l:List Ev):List Ev:=l.foldl Hd o
def Ez (l:List Ev):List Ev:=H5 [] l
theorem Ad7 (o:List Ev):H5 o []=o:=rfl
theorem Qv (o:List Ev) (e:Ev) (r:List Ev):H5 o (e::r)=H5 (Hd o e) r:=List.foldl_cons ..
theorem R8: ∀(a b:List Ev),tx (a++b)=tx a+tx b
 |[],b=>by simp[tx]
 |e::r,b=>by rw[List.cons_append,tx,tx,R8 r b];omega
theorem Amc: ∀ {l:List Ev} {i:Nat} {x:Ev},l[i]? =some x→x.text.length≤tx l
 |[],i,x,h=>by simp at h
 |y::r,0,x,h=>by simp at h;subst h;rw[tx];omega
 |y::r,i+1,x,h=>by
  have:=Amc (l:=r) (i:=i) (x:=x) (by simpa using h)
  rw[tx];omega
theorem Amd: ∀ {l:List Ev} {i:Nat} {x:Ev} (t:List UInt8),l[i]? =some x→tx (l.set i (Sy x (x.text++t)))=tx l+t.length
 |[],i,x,t,h=>by simp at h
 |y::r,0,x,t,h=>by simp at h;subst h;simp only[List.set_cons_zero,tx,Sy,List.length_append];omega
 |y::r,i+1,x,t,h=>by
  have:=Amd (l:=r) (i:=i) (x:=x) t (by simpa using h)
  simp only[List.set_cons_succ,tx,this];omega
theorem Ug {l:List Ev} {x:Ev} (h:l[l.length-1]? =some x):Wn l=x:=by unfold Wn;exact U8 h
theorem Ad8 (o:List Ev) (e:Ev):Wn (o++[e])=e:=Ug (by simp)
theorem Vo {o:List Ev} {e:Ev} (h:e.kind=4) (ht:e.text=[]):Hd o e=o:=by unfold Hd;rw[if_pos ⟨h,ht⟩]
theorem Pa {o:List Ev} {e:Ev} (h:e.kind≠4):Hd o e=o++[e]:=by unfold Hd;rw[if_neg (fun x=>h x.1),if_neg (fun x=>h x.1)]
theorem Xn {o:List Ev} {e:Ev} (ht:e.text≠[]) (hs: ¬(0<o.length∧(Wn o).kind=4)):Hd o e=o++[e]:=by unfold Hd;rw[if_neg (fun x=>ht x.2),if_neg (fun x=>hs x.2)]
theorem Vp {o:List Ev} {e x:Ev} (hk:e.kind=4) (ht:e.text≠[]) (h0:0<o.length) (hx:o[o.length-1]? =some x) (hx4:x.kind=4):Hd o e=o.set (o.length-1) (Sy x (x.text++e.text)):=by
 unfold Hd
 rw[if_neg (fun y=>ht y.2),if_pos ⟨hk,h0,by rw[Ug hx];exact hx4⟩,Ug hx]
theorem Abg {o:List Ev} {e f:Ev} {t:List UInt8} (hk:e.kind=4) (ht:e.text≠[]) (hf:f.kind=4):Hd (o++[Sy f t]) e=o++[Sy f (t++e.text)]:=by
 rw[Vp (x:=Sy f t) hk ht (by simp) (by simp) hf]
 have e1:(o++[Sy f t]).length-1=o.length:=by simp
 rw[e1,List.set_append_right _ _ (Nat.le_refl _)]
 simp[Sy]
theorem Abh {o:List Ev} {f e:Ev} {t:List UInt8} (hf:f.kind=4) (hk:e.kind=4):Hd (o++[Sy f t]) e=o++[Sy f (t++e.text)]:=by
 by_cases ht:e.text=[]
 ·rw[Vo hk ht,ht,List.append_nil]
 ·exact Abg hk ht hf
theorem Ad9 (o:List Ev) (e:Ev):(Hd o e).length≤o.length+1:=by
 unfold Hd
 split
 ·omega
 ·split<;>simp
theorem Xo: ∀(l o:List Ev),(H5 o l).length≤o.length+l.length
 |[],o=>Nat.le_refl _
 |e::r,o=>by
  have h1:=Ad9 o e
  have h2:=Xo r (Hd o e)
  rw[Qv,List.length_cons];omega
theorem Aea (l:List Ev):(Ez l).length≤l.length:=by have:=Xo l [];simpa [Ez] using this
def Uh (l:List Ev):Prop:= ∀e∈l,e.text.length≤1
theorem Ys:Uh []:=fun _ h=>by cases h
theorem Ac2 {a b:List Ev} (ha:Uh a) (hb:Uh b):Uh (a++b):=fun e h=>(List.mem_append.1 h).elim (ha e) (hb e)
theorem Ajs {e:Ev} (h:e.text.length≤1):Uh [e]:=fun x hx=>by simp at hx;rw[hx];exact h
theorem G0 {a:List Ev} {e:Ev} (ha:Uh a) (h:e.text.length≤1):Uh (a++[e]):=Ac2 ha (Ajs h)
theorem Ag8: ∀ {l:List Ev},Uh l→tx l≤l.length
 |[],_=>Nat.le_refl _
 |e::r,h=>by
  have h1:=h e (List.mem_cons_self ..)
  have h2:=Ag8 (l:=r) fun x hx=>h x (List.mem_cons_of_mem _ hx)
  rw[tx,List.length_cons];omega
theorem Dr {m:Mac} {c a:Int} (h:Uh m.out):Uh (A3 m c a).out:=G0 h (Nat.zero_le _)
theorem Abi {m q:Mac} (h:Uh m.out) (hc:A2 m=some q):Uh q.out:=by
 unfold A2 at hc
 split at hc
 ·split at hc
  ·cases hc;exact Dr h
  ·cases hc;exact G0 h (Nat.zero_le _)
 ·split at hc
  ·cases hc;exact h
  ·split at hc
   ·split at hc<;>(cases hc;exact G0 h (Nat.zero_le _))
   ·cases hc
theorem Dp {m:Mac} (h:Uh m.out):Uh (Ao m).out:=by
 suffices ∀(k:Nat) (m:Mac),wM m≤k→Uh m.out→Uh (Ao m).out from this _ m (Nat.le_refl _) h
 intro k
 induction k with
 |zero=>
  intro m hk h
  cases hc:A2 m with
  |none=>rw[B6 hc];exact h
  |some q=>have:=(D2 hc).1;omega
 |succ k ih=>
  intro m hk h
  cases hc:A2 m with
  |none=>rw[B6 hc];exact h
  |some q=>rw[Cu hc];exact ih q (by have:=(D2 hc).1;omega) (Abi h hc)
theorem Qw {m:Mac} {u:Int} (h:Uh m.out):Uh (Ce m u).out:=by
 unfold Ce
 simp only
 split
 ·exact h
 ·exact G0 h (Nat.zero_le _)
theorem Aeb {m:Mac} {b:Int} (h:Uh m.out):Uh (Dd m b).out:=by
 unfold Dd
 split
 ·unfold Ej
  split
  ·split
   ·exact Dr h
   ·exact Dp (G0 h (Nat.le_refl _))
  ·exact Dp (G0 h (Nat.le_refl _))
 ·split
  ·exact Dp h
  ·split
   ·unfold Hb
    split
    ·exact h
    ·split
     ·exact Dr (Qw h)
     ·exact Dp (Qw h)
   ·unfold Dq
    split
    ·exact Dr h
    ·split
     ·unfold Zw
      split
      ·exact Dr h
      ·exact h
     ·split
      ·unfold Ed
       split
       ·exact Dr h
       ·exact Dp (G0 h (Nat.zero_le _))
      ·split
       ·unfold Li
        split
        ·exact Dr h
        ·split
         ·exact Dr h
         ·split
          ·exact Dr h
          ·split
           ·exact Dr h
           ·exact h
       ·split
        ·unfold Ey
         split
         ·exact Dr h
         ·split
          ·exact Dp h
          ·split
           ·split
            ·exact Dr h
            ·exact Dp (G0 h (Nat.zero_le _))
           ·split
            ·exact Dp (G0 h (Nat.zero_le _))
            ·split
             ·exact Dr h
             ·exact Dp h
        ·exact Dp (Qw h)
theorem Aec {m:Mac} {b:Int} (h:Uh m.out):Uh (R3 m b).out:=by
 unfold R3
 refine Ac2 h ?_
 unfold Le
 split
 ·exact Aeb Ys
 ·exact Ys
theorem Xp: ∀(s:List UInt8) (m:Mac),Uh m.out→Uh (B7 m s).out
 |[],m,h=>h
 |b::r,m,h=>by rw[Ho];exact Xp r _ (Aec h)
theorem Apa (d:Dcd) (s:List UInt8):(B7 ⟨d,[]⟩ s).out.length≤14*s.length∧tx (B7 ⟨d,[]⟩ s).out≤14*s.length:=by
 have h1:=(Vn s ⟨d,[]⟩).2.2.1
 have h2:=Ag8 (Xp s ⟨d,[]⟩ Ys)
 simp only[List.length_nil] at h1
 omega
def Ajt (a:Int):Ev:=⟨9,0,0,0,[],0,a⟩
def J7 (d:Dcd):Bool:=Cd d&&decide (d.mode=1)&&decide (d.scan.have_=0)
def Km (d:Dcd):Mac:=if Cd d=false∨d.mode=9 then ⟨d,[]⟩ else if d.mode=1∧d.scan.have_=0 then ⟨⟨d.plan,9,d.stack,d.scan,d.start,d.at_,d.field,d.wire,d.want,d.utf,Ajt d.at_⟩,[Ajt d.at_]⟩ else ⟨Gw d 10 d.at_,[Bj 10 d.at_]⟩
theorem Yt (d:Dcd):(Km d).out.length≤1:=by unfold Km;split;simp;split<;>simp
def Aqo (d:Dcd) (c:Int):Mac:=if Cd d=true∧d.mode≠9∧1≤c then ⟨Gw d c d.at_,[Bj c d.at_]⟩ else ⟨d,[]⟩
theorem Aqa {d:Dcd} (h:d.mode=9):(∀s:List UInt8,B7 ⟨d,[]⟩ s=⟨d,[]⟩)∧Km d=⟨d,[]⟩∧∀c,Aqo d c=⟨d,[]⟩:=by
 refine⟨fun s=>?_,?_,fun c=>?_⟩
 ·exact R4 (m:=⟨d,[]⟩) (by simp[Fb,h]) s
 ·unfold Km;rw[if_pos (.inr h)]
 ·unfold Aqo;rw[if_neg (fun hc=>hc.2.1 h)]
theorem Ag9 (d:Dcd) (hp1:List.length (d).plan.shapes≤1048576) (hp2: ∀e∈(d).plan.shapes,List.length e.fields≤1048576) (hp3:List.length (d).stack≤1048576) (hp4:(0:Int)≤(d).scan.bits∧(d).scan.bits≤18446744073709551615):Fun Tryz.prog 99 [.agg (C4 d)] [] (.v (vB (J7 d))) []:=by
 have hN:Bk=274877906944:=rfl
 refine Ar Tryz.func99 Q4 Q4 (w:=let z1:=Lf (.v (vB false)) (.v (vB (J7 d))) [] [];(.seg [.call [] (.v (vB (Cd d))) []] (.br (.br (.leaf () []) (.leaf () [])) (.leaf () [])),(Fp 96 [.agg (C4 d)] [] (.v (vB (Cd d))) [])∧Bc (Cd d) (Bc (decide (d.mode=1)) (Lf (.v (vB (decide (d.scan.have_=0)))) (.v (vB (J7 d))) [] []) z1) z1)) Q4 ?_
 refine⟨(Abe d Q2 Q2),fun h1=>?_,fun h1=>?_⟩
 refine dsp (fun h2 p2=>?_) fun h2 p2=>?_
 refine⟨(sB ?_),rfl⟩
 rotate_left
 refine⟨(sB ?_),rfl⟩
 rotate_left
 refine⟨(sB ?_),rfl⟩
 rotate_left
 all_goals first|(simp[J7, *];done)|(simp_all[J7];done)|(grind[J7])
theorem Aju (d:Dcd) (hp1:List.length (d).plan.shapes≤1048576) (hp2: ∀e∈(d).plan.shapes,List.length e.fields≤1048576) (hp3:List.length (d).stack≤1048576) (hp4:(0:Int)≤(d).scan.bits∧(d).scan.bits≤18446744073709551615):Fun Tryz.prog 48 [.agg (C4 d)] [] (.tup [.agg (C0 0 1 (Km d).d),vO 2]) [.tree (Km d).d.plan.shapes,.lst .lev (Km d).d.stack,.lst .ev (Km d).out]:=by
 have hN:Bk=274877906944:=rfl
 refine Ar Tryz.func48 Q4 Q4 (w:=let zi:Int→C:= .int .i64;let z1:List C:=[.own 1,zi d.plan.root,zi d.plan.deep,zi d.plan.most,zi 9,.own 2,.int .u64 d.scan.bits,zi d.scan.have_,zi d.start,zi d.at_,zi d.field.number,zi d.field.kind,.bool d.field.rep,.bool d.field.packed,zi d.field.msg,zi d.wire,zi d.want,zi d.utf.want,zi d.utf.low,zi d.utf.high,zi 9,zi 0,.int .u64 0,zi 0,.str [],zi 0,zi d.at_,.own 4];let z2:List C:=[zi 9,zi 0,.int .u64 0,zi 0,.str [],zi 0,zi d.at_];let z7:S:= .tup [.agg (C0 0 1 (Km d).d),vO 2];let z8:=([]:List Ev);let z3:=A3 (⟨d,z8⟩:Mac) 10 d.at_;let z6:List Blk:=[.cells (Ab 1 2 4 z3),.tree z3.d.plan.shapes,.lst .lev z3.d.stack,.dead,.lst .ev z3.out];let z9:=Ls (Km d).d (Km d).out;let z4:=Lf (.tup [.agg (C0 0 1 d),vO 2]) z7 (Ls d z8) z9;let z10:=z8++[(⟨9,0,0,0,[],0,d.at_⟩:Ev)];let z5:List Blk:=[.cells z1,.tree d.plan.shapes,.lst .lev d.stack,.dead,.lst .ev z10];(.seg [.call [] (.v (.agg (C0 0 1 d))) (L2 d),.call [] (.v (vB (Cd d))) []] (.br (.seg [.at 8,.mk 4 27 .ev,.ord (os 10 [8]) [1]] (.leaf () [2,3,5])) (.br (.seg [.at 8,.mk 4 27 .ev,.ord (os 10 [8]) [1]] (.leaf () [2,3,5])) (.seg [.call [] (.v (vB (J7 d))) []] (.br (.seg [.at 6,.mk 4 27 .ev,.ord (os 13 [8,12]) [4],.call [4,2,3,5] (.tup []) z5,.ord (os 10 [8]) [1]] (.leaf () [2,3,6])) (.seg [.at 3,.mk 4 27 .ev,.call [4,2,3,5] (.tup []) z6,.ord (os 10 [8]) [1]] (.leaf () [2,3,6])))))),(Fp 82 [.agg (C4 d)] [] (.v (.agg (C0 0 1 d))) (L2 d))∧(Fp 96 [.agg (C4 d)] [] (.v (vB (Cd d))) [])∧Bc (!(Cd d)) z4 (Bc (decide (d.mode=9)) z4 ((Fp 99 [.agg (C4 d)] [] (.v (vB (J7 d))) [])∧Bc (J7 d) ((Fp 100 [vP 0,.agg z2] [.cells [.own 1,zi d.plan.root,zi d.plan.deep,zi d.plan.most,zi 9,.own 2,.int .u64 d.scan.bits,zi d.scan.have_,zi d.start,zi d.at_,zi d.field.number,zi d.field.kind,.bool d.field.rep,.bool d.field.packed,zi d.field.msg,zi d.wire,zi d.want,zi d.utf.want,zi d.utf.low,zi d.utf.high,zi 9,zi 0,.int .u64 0,zi 0,.str [],zi 0,zi d.at_,.own 3],.tree d.plan.shapes,.lst .lev d.stack,.lst .ev z8] (.tup []) z5)∧Lf (.tup [.agg (.own 0::zi d.plan.root::zi d.plan.deep::zi d.plan.most::zi 9:: .own 1:: .int .u64 d.scan.bits::zi d.scan.have_::zi d.start::zi d.at_::zi d.field.number::zi d.field.kind:: .bool d.field.rep:: .bool d.field.packed::zi d.field.msg::zi d.wire::zi d.want::zi d.utf.want::zi d.utf.low::zi d.utf.high::z2),vO 2]) z7 (Ls d z10) z9) ((Fp 101 [vP 0,vI 10,vI d.at_] [.cells [.own 1,zi d.plan.root,zi d.plan.deep,zi d.plan.most,zi d.mode,.own 2,.int .u64 d.scan.bits,zi d.scan.have_,zi d.start,zi d.at_,zi d.field.number,zi d.field.kind,.bool d.field.rep,.bool d.field.packed,zi d.field.msg,zi d.wire,zi d.want,zi d.utf.want,zi d.utf.low,zi d.utf.high,zi d.end_.kind,zi d.end_.field,.int .u64 d.end_.bits,zi d.end_.len,.str d.end_.text,zi d.end_.code,zi d.end_.at_,.own 3],.tree d.plan.shapes,.lst .lev d.stack,.lst .ev z8] (.tup []) z6)∧Lf (.tup [.agg (C0 0 1 z3.d),vO 2]) z7 (Ls z3.d z3.out) z9))))) Q4 ?_
 refine⟨(Z4 d Q2 (hp2) Q2),(Abe d Q2 Q2),fun h1=>have q1:=Aq h1;?_,fun h1=>have q1:=Ap h1;?_⟩
 refine zD ((Km d).d) d ((Km d).out) ([]:List Ev) (fun hm1 hm2=>⟨Q7,Q55⟩) ?_ ?_
 rotate_left 2
 refine dsp (fun h2 p2=>?_) fun h2 p2=>?_
 refine zD ((Km d).d) d ((Km d).out) ([]:List Ev) (fun hm1 hm2=>⟨Q7,Q55⟩) ?_ ?_
 rotate_left 2
 refine⟨(Ag9 d Q2 (hp2) Q2 Q2),fun h3=>?_,fun h3=>?_⟩
 refine zD ((Km d).d) (⟨d.plan,9,d.stack,d.scan,d.start,d.at_,d.field,d.wire,d.want,d.utf,(⟨9,0,0,0,[],0,d.at_⟩:Ev)⟩:Dcd) ((Km d).out) (([]:List Ev)++[(⟨9,0,0,0,[],0,d.at_⟩:Ev)]) (fun hm1 hm2=>⟨(Fk (⟨(⟨d.plan,9,d.stack,d.scan,d.start,d.at_,d.field,d.wire,d.want,d.utf,(⟨9,0,0,0,[],0,d.at_⟩:Ev)⟩:Dcd),([]:List Ev)⟩:Mac) (⟨9,0,0,0,[],0,d.at_⟩:Ev) Q16),Q7,Q55⟩) ?_ ?_
 rotate_left 2
 refine zM Mac.d Mac.out (Km d) (A3 (⟨d,([]:List Ev)⟩:Mac) 10 d.at_) (fun hm1 hm2=>⟨(Ca (⟨d,([]:List Ev)⟩:Mac) _ _ Q16),Q7,Q55⟩) ?_ ?_
 rotate_left 2
 all_goals first|(simp_all[Km,J7,A3,Gw,Ajt];done)|(grind[Km,J7,A3,Gw,Ajt])
structure Fm where
 out:List Ev
 i:Nat
def Mw (l:List Ev):Fam:=⟨Fm,fun q1=>[(0,.v (.c (.seq .ev l))),(3,.v (vO 0)),(4,.v (vI ((q1.i:Nat):Int)))],fun q1=>[.lst .ev q1.out],fun q1=>q1.i≤List.length l∧H5 q1.out (List.drop q1.i l)=Ez l∧List.length q1.out≤q1.i∧tx q1.out+tx (List.drop q1.i l)≤tx l,fun q1=>List.length l-q1.i⟩
theorem Ajv (l:List Ev) (hp1:List.length l≤100000000) (hp2:tx l≤100000000):Fun Tryz.prog 40 [.c (.seq .ev l)] [] (.v (vO 0)) [.lst .ev (Ez l)]:=by
 have hN:Bk=274877906944:=rfl
 have hI:Bb=9223372036854775807:=rfl
 refine Ar Tryz.func40 Q4 Q4 (w:=let z11:=Mw l;(.seg [.ty .ev,.at 0,.keep [0,3,4],.sel [0]] (.loop z11 fun q1=>let z6:S:= .v (vI (((q1.i:Nat):Int)+1));let z7:=((List.length q1.out:Nat):Int)-1;.br (.intro (Sx (l[q1.i]?)) fun x1=> .seg [.el .ev x1] (.br (.br (.seg [.as 13 z6,.at 0,.keep [0,3,4],.sel [0]] (.next)) (.seg [.br true] (.br (.seg [.as 38 (.v (vI z7))] (.intro (Sx (q1.out[Int.toNat z7]?)) fun x2=> .seg [.el .ev x2] (.br (.seg [.ord (os 15 [14]) [],.as 46 (.v (vI z7)),.as 49 (.v (vI z7)),.el .ev x2,.el .ev x2,.as 13 z6,.at 0,.keep [0,3,4],.sel [0]] (.next)) (.seg [.ty .ev,.ty .ev,.as 13 z6,.at 0,.keep [0,3,4],.sel [3]] (.next))))) (.seg [.ty .ev,.ty .ev,.as 13 z6,.at 0,.keep [0,3,4],.sel [3]] (.next))))) (.seg [.br false,.ty .ev,.ty .ev,.as 13 z6,.at 0,.keep [0,3,4],.sel [3]] (.next)))) (.leaf () [0])),z11.Has [(0,.v (.c (.seq .ev l))),(3,.v (vO 0)),(4,.v (vI 0))] [.lst .ev ([]:List Ev)]∧∀q1,z11.inv q1→(let z8:=((List.length q1.out:Nat):Int);let z10:=((q1.i:Nat):Int);let z9:=z10+1;Bc (decide (z10<((List.length l:Nat):Int))) (El (l[q1.i]?) fun x1=>(let z4:=List.length q1.out+List.length [x1]≤Bk;let z3:=z4∧(wI z9)∧z11.Nxt q1 [(0,.v (.c (.seq .ev l))),(3,.v (vO 0)),(4,.v (vI z9))] [.lst .ev (q1.out++[x1])];let z5:=decide (x1.kind=4);(l[q1.i]? =some x1)∧((0:Int)≤z10)∧Bc z5 (Bc (decide (x1.text=[])) ((wI z9)∧z11.Nxt q1 [(0,.v (.c (.seq .ev l))),(3,.v (vO 0)),(4,.v (vI z9))] [.lst .ev q1.out]) ((z5=true)∧Bc (decide (0<z8)) ((wI (z8-1))∧El (q1.out[Int.toNat (z8-1)]?) fun x2=>(let z1:=q1.out[Int.toNat (z8-1)]? =some x2;let z2:=((List.length x2.text+List.length x1.text:Nat):Int)≤Bb;(z8-1<z8)∧((0:Int)≤z8-1)∧z1∧Bc (decide (x2.kind=4)) ((wI (z8-1))∧(wI (z8-1))∧(wI (z8-1))∧(wI (z8-1))∧(z8-1<z8)∧((0:Int)≤z8-1)∧(z8-1<z8)∧((0:Int)≤z8-1)∧z1∧z1∧z2∧z2∧(z8-1<z8)∧((0:Int)≤z8-1)∧(z8-1<z8)∧((0:Int)≤z8-1)∧z1∧(wI z9)∧z11.Nxt q1 [(0,.v (.c (.seq .ev l))),(3,.v (vO 0)),(4,.v (vI z9))] [.lst .ev (List.set q1.out (Int.toNat (z8-1)) (⟨x2.kind,x2.field,x2.bits,x2.len,x2.text++x1.text,x2.code,x2.at_⟩:Ev))]) z3)) z3)) ((z5=false)∧z4∧(wI z9)∧z11.Nxt q1 [(0,.v (.c (.seq .ev l))),(3,.v (vO 0)),(4,.v (vI z9))] [.lst .ev (q1.out++[x1])]))) (Lf (.v (vO 0)) (.v (vO 0)) [.lst .ev q1.out] [.lst .ev (Ez l)])))) Q4 ?_
 refine⟨Cn (j:=(⟨([]:List Ev),0⟩:Fm)) Q9 rfl (by dsimp only[Mw];exact⟨by omega,rfl,by simp,by simp[tx]⟩),fun (q1:Fm) hq_q1=>?_⟩
 have hi_q1:q1.i≤List.length l∧H5 q1.out (List.drop q1.i l)=Ez l∧List.length q1.out≤q1.i∧tx q1.out+tx (List.drop q1.i l)≤tx l:=hq_q1
 obtain ⟨v1,v2,v3,v4⟩:=hi_q1
 refine dsp (fun h1 p1=>?_) fun h1 p1=>?_
 refine⟨(Bp (l:=l) (i:=q1.i) Q2),fun x1 hx1=>?_⟩
 rw[Fe hx1,Qv] at v2
 rw[Fe hx1,tx] at v4
 refine⟨hx1,Q2,dsp (fun h2 p2=>?_) fun h2 p2=>?_⟩
 refine dsp (fun h3 p3=>?_) fun h3 p3=>?_
 exact⟨(Af Q2 Q2),Be (j:=(⟨q1.out,q1.i+1⟩:Fm)) Q9 rfl Q10 Q53⟩
 refine⟨h2,dsp (fun h4 p4=>?_) fun h4 p4=>?_⟩
 refine⟨(Af Q2 Q2),(Bp (l:=q1.out) (i:=Int.toNat (((List.length q1.out:Nat):Int)-1)) Q2),fun x2 hx2=>?_⟩
 refine⟨Q2,Q2,?_⟩
 have hle:=Amc hx2
 have hix:Int.toNat ((q1.out.length:Int)-1)=q1.out.length-1:=by omega
 have hxe:=hix▸hx2
 refine⟨hx2,dsp (fun h5 p5=>?_) fun h5 p5=>?_⟩
 have hmm:=Vp (o:=q1.out) (e:=x1) (x:=x2) (by assumption) (by assumption) (by omega) hxe (by assumption)
 have hms:=Amd x1.text hxe
 exact⟨(Af Q2 Q2),(Af Q2 Q2),(Af Q2 Q2),(Af Q2 Q2),Q2,Q2,Q2,Q2,hx2,hx2,Q2,Q2,Q2,Q2,Q2,Q2,hx2,(Af Q2 Q2),Be (j:=(⟨List.set q1.out (Int.toNat (((List.length q1.out:Nat):Int)-1)) (⟨x2.kind,x2.field,x2.bits,x2.len,x2.text++x1.text,x2.code,x2.at_⟩:Ev),q1.i+1⟩:Fm)) Q9 rfl Q10 Q53⟩
 have hse: ¬(0<q1.out.length∧(Wn q1.out).kind=4):=fun h=>by rw[Ug hxe] at h;exact absurd h.2 (by assumption)
 exact⟨Q5,(Af Q2 Q2),Be (j:=(⟨q1.out++[x1],q1.i+1⟩:Fm)) Q9 rfl Q10 Q53⟩
 have hse: ¬(0<q1.out.length∧(Wn q1.out).kind=4):=fun h=>by omega
 exact⟨Q5,(Af Q2 Q2),Be (j:=(⟨q1.out++[x1],q1.i+1⟩:Fm)) Q9 rfl Q10 Q53⟩
 exact⟨h2,Q5,(Af Q2 Q2),Be (j:=(⟨q1.out++[x1],q1.i+1⟩:Fm)) Q9 rfl Q10 Q53⟩
 rw[List.drop_eq_nil_of_le (by omega),Ad7] at v2
 refine⟨rfl,(Ac (congrArg (Blk.lst .ev) ?_) rfl)⟩
 rotate_left
 all_goals first|(exact v2)|((rw[←v2];done))
structure Ano where
 out:List Ev
 i:Nat
structure Anp where
 i:Nat
 texts:List Int
 first:Ev
 found:Bool
structure Mr where
 plan:Pln
 s:List UInt8
 at_:Int
 out:List Ev
 fail:Ev
 deriving Inhabited
def Cw (r:Mr) (c a:Int):Mr:=⟨r.plan,r.s,r.at_,r.out,Bj c a⟩
def F1 (r:Mr) (a:Int):Mr:=⟨r.plan,r.s,a,r.out,r.fail⟩
def Ag (r:Mr) (e:Ev):Mr:=⟨r.plan,r.s,r.at_,r.out++[e],r.fail⟩
def Bs (r:Mr) (end_:Int):Bool:=decide ((Ae r.s r.at_ end_).2.2=0)
def A5 (r:Mr) (end_:Int):Int:=if Bs r end_ then (Ae r.s r.at_ end_).1 else 0
def Az (r:Mr) (end_:Int):Mr:=if Bs r end_ then F1 r (Ae r.s r.at_ end_).2.1 else Cw r (Ae r.s r.at_ end_).2.2 (Ae r.s r.at_ end_).2.1
def Hp (r:Mr) (w end_:Int):Bool:=decide (w≤end_-r.at_)&&Dw r.s r.at_ w
def K6 (r:Mr) (w end_:Int):Int:=if Hp r w end_ then Lm r.s r.at_ w else 0
def G1 (r:Mr) (w end_:Int):Mr:=if end_-r.at_<w then Cw r 9 r.at_ else if Dw r.s r.at_ w then F1 r (r.at_+w) else Cw r 10 (r.s.length:Int)
def E5 (r:Mr) (wire end_:Int):Bool:=if 0<Ak wire then Hp r (Ak wire) end_ else Bs r end_
def Gp (r:Mr) (wire end_:Int):Int:=if 0<Ak wire then K6 r (Ak wire) end_ else A5 r end_
def E1 (r:Mr) (wire end_:Int):Mr:=if 0<Ak wire then G1 r (Ak wire) end_ else Az r end_
def Bn (r:Mr) (f:Fld) (wire end_:Int):Mr:=if E5 r wire end_=true∧0<f.number then Ag (E1 r wire end_) (Ew f (Gp r wire end_)) else E1 r wire end_
def E6 {α:Type} (go:α→Bool) (step:α→α):Nat→α→α
 |0,a=>a
 |k+1,a=>if go a then E6 go step k (step a) else a
theorem C7 {α:Type} {go:α→Bool} {step:α→α} {k:Nat} {a:α} (h:go a=false):E6 go step k a=a:=by
 cases k with
 |zero=>rfl
 |succ k=>simp[E6,h]
theorem Aed {α:Type} {go:α→Bool} {step:α→α} (inv:α→Prop) (μ:α→Nat) (dec: ∀a,inv a→go a=true→inv (step a)∧μ (step a)<μ a): ∀(n:Nat) (a:α) (k l:Nat),μ a≤n→inv a→μ a≤k→μ a≤l→E6 go step k a=E6 go step l a:=by
 intro n
 induction n with
 |zero=>
  intro a k l h hi _ _
  cases hg:go a with
  |false=>rw[C7 hg,C7 hg]
  |true=>have:=(dec a hi hg).2;omega
 |succ n ih=>
  intro a k l h hi hk hl
  cases hg:go a with
  |false=>rw[C7 hg,C7 hg]
  |true=>
   obtain ⟨h1,h2⟩:=dec a hi hg
   obtain ⟨k,rfl⟩: ∃j,k=j+1:=⟨k-1,by omega⟩
   obtain ⟨l,rfl⟩: ∃j,l=j+1:=⟨l-1,by omega⟩
   simp only[E6,hg,if_true]
   exact ih _ _ _ Q2 h1 Q2 Q2
theorem Yu {α:Type} {go:α→Bool} {step:α→α} (inv:α→Prop) (μ:α→Nat) (dec: ∀a,inv a→go a=true→inv (step a)∧μ (step a)<μ a) {a:α} (hi:inv a) (hg:go a=true):E6 go step (μ a) a=E6 go step (μ (step a)) (step a):=by
 obtain ⟨h1,h2⟩:=dec a hi hg
 obtain ⟨k,hk⟩: ∃j,μ a=j+1:=⟨μ a-1,by omega⟩
 rw[hk]
 simp only[E6,hg,if_true]
 exact Aed inv μ dec _ _ _ _ (Nat.le_refl _) h1 Q2 (Nat.le_refl _)
def Lg (end_:Int) (r:Mr):Bool:=decide (r.at_<end_)&&decide (r.fail.kind=0)
def Lu (r:Mr):Nat:=if r.fail.kind=0 then (1+(r.s.length:Int)-r.at_).toNat else 0
def Kn (r:Mr) (f:Fld) (end_:Int):Mr:=E6 (Lg end_) (fun r=>Bn r f (Ba f.kind) end_) (Lu r) r
def A4 (f:Fld) (n:Int):Ev:=⟨3,f.number,0,n,[],0,0⟩
def Dt (t:List UInt8):Ev:=⟨4,0,0,0,t,0,0⟩
def J8:Ev:=⟨5,0,0,0,[],0,0⟩
def E2 (f:Fld) (n:Int):Ev:=⟨6,f.number,0,n,[],0,0⟩
def Apb:Ev:=⟨7,0,0,0,[],0,0⟩
def Ay (r:Mr) (n:Int):List UInt8:=(r.s.drop r.at_.toNat).take n.toNat
def Lv (r:Mr) (f:Fld) (n:Int):Int:=if f.kind=6 then Fg utf0 (Ay r n) else-1
def Z8 (r:Mr) (f:Fld) (n:Int):Utf:=if f.kind=6 then Sr utf0 (Ay r n) else utf0
def Je (r:Mr) (f:Fld) (n:Int):List UInt8:=if 0≤Lv r f n then (Ay r n).take (Lv r f n).toNat else Ay r n
def Dj (r:Mr) (f:Fld) (n:Int):Mr:=if Je r f n=[] then Ag r (A4 f n) else Ag (Ag r (A4 f n)) (Dt (Je r f n))
def Ci (r:Mr) (f:Fld) (n:Int):Mr:=
 if 0≤Lv r f n then Cw (Dj r f n) 5 (r.at_+Lv r f n)
 else if ((Ay r n).length:Int)<n then Cw (Dj r f n) 10 (r.s.length:Int)
 else if (Z8 r f n).want≠0 then Cw (Dj r f n) 5 (r.at_+n)
 else Ag (F1 (Dj r f n) (r.at_+n)) J8
def Bt (sub:Mr→Fld→Int→Int→Mr) (r:Mr) (f:Fld) (known:Bool) (end_:Int):Mr:=
 if Bs r end_=false then Az r end_
 else if end_-(Az r end_).at_<A5 r end_ then Cw (Az r end_) 8 r.at_
 else if known=false then (if (r.s.length:Int)-(Az r end_).at_<A5 r end_ then Cw (Az r end_) 10 (r.s.length:Int) else F1 (Az r end_) ((Az r end_).at_+A5 r end_))
 else if f.kind=8 then sub (Az r end_) f (A5 r end_) r.at_
 else if Cg f.kind=true then Kn (Az r end_) f ((Az r end_).at_+A5 r end_)
 else Ci (Az r end_) f (A5 r end_)
def Du (sub:Mr→Fld→Int→Int→Mr) (shape end_:Int) (r:Mr):Mr:=
 if Bs r end_=false then Az r end_
 else if Kk (A5 r end_)=false then Cw (Az r end_) 2 r.at_
 else if Dc (Ah (A5 r end_))=false then Cw (Az r end_) 3 r.at_
 else if (fieldAt r.plan.shapes shape (Bh (A5 r end_))).isSome=true∧Ds ((fieldAt r.plan.shapes shape (Bh (A5 r end_))).getD fld0) (Ah (A5 r end_))=false then Cw (Az r end_) 4 r.at_
 else if Ah (A5 r end_)=2 then Bt sub (Az r end_) ((fieldAt r.plan.shapes shape (Bh (A5 r end_))).getD fld0) (fieldAt r.plan.shapes shape (Bh (A5 r end_))).isSome end_
 else Bn (Az r end_) ((fieldAt r.plan.shapes shape (Bh (A5 r end_))).getD fld0) (Ah (A5 r end_)) end_
def Hq:Nat→Int→Int→Mr→Mr
 |0,shape,end_,r=>E6 (Lg end_) (Du (fun r _ _ start=>Cw r 6 start) shape end_) (Lu r) r
 |D+1,shape,end_,r=>E6 (Lg end_) (Du (fun r f n _=>if (Hq D f.msg (r.at_+n) (Ag r (E2 f n))).fail.kind=0 then Ag (Hq D f.msg (r.at_+n) (Ag r (E2 f n))) Apb else Hq D f.msg (r.at_+n) (Ag r (E2 f n))) shape end_) (Lu r) r
def Jg:Nat→Mr→Fld→Int→Int→Mr
 |0=>fun r _ _ start=>Cw r 6 start
 |D+1=>fun r f n _=>if (Hq D f.msg (r.at_+n) (Ag r (E2 f n))).fail.kind=0 then Ag (Hq D f.msg (r.at_+n) (Ag r (E2 f n))) Apb else Hq D f.msg (r.at_+n) (Ag r (E2 f n))
theorem Mx (D:Nat) (shape end_:Int) (r:Mr):Hq D shape end_ r=E6 (Lg end_) (Du (Jg D) shape end_) (Lu r) r:=by
 cases D<;>rfl
/-! ### What steps keep -/
theorem Ame {s:List UInt8} {a e:Int} : ∀(f k:Nat) (u:Int),(vwA s a e f k u).2.2=0→a+k<(vwA s a e f k u).2.1∧(vwA s a e f k u).2.1≤e∧(vwA s a e f k u).2.1≤(s.length:Int)
 |0,k,u=>by simp[vwA]
 |f+1,k,u=>by
  rw[vwA]
  split
  ·simp
  split
  ·simp
  split
  ·simp
  split
  ·simp;omega
  ·intro h
   have:=Ame f (k+1) _ h
   rw[show ((k+1:Nat):Int)=(k:Int)+1 by simp] at this
   omega
theorem Fn {s:List UInt8} {a e:Int} (h:(Ae s a e).2.2=0):0≤a∧a<(Ae s a e).2.1∧(Ae s a e).2.1≤e∧(Ae s a e).2.1≤(s.length:Int):=by
 unfold Ae at h ⊢
 split
 ·rename_i hw
  rw[if_pos hw] at h
  have:=Aw hw
  have:=Ame 10 0 0 h
  rw[show ((0:Nat):Int)=0 from rfl] at this
  omega
 ·rename_i hw
  rw[if_neg hw] at h
  simp at h
structure Adv (r r':Mr):Prop where
 plan:r'.plan=r.plan
 s:r'.s=r.s
 at_:r'.fail.kind=0→r.at_≤r'.at_∧r'.at_≤(r.s.length:Int)
 fail:r'.fail.kind=0→r'.fail=r.fail
 room:r'.fail.kind=0→(r'.out.length:Int)+4*((r.s.length:Int)-r'.at_)≤(r.out.length:Int)+4*((r.s.length:Int)-r.at_)
 most:(r'.out.length:Int)≤(r.out.length:Int)+4*((r.s.length:Int)-r.at_)
def Adv1 (r r':Mr):Prop:=Adv r r'∧(r'.fail.kind=0→r.at_<r'.at_)
theorem Adv.trans {a b c:Mr} (h:Adv a b) (hb:b.fail.kind=0) (g:Adv b c):Adv a c:=by
 obtain ⟨h1,h2⟩:=h.at_ hb
 have hr:=h.room hb
 have gm:=g.most
 rw[h.s] at gm
 refine⟨g.plan.trans h.plan,g.s.trans h.s,fun hc=>?_,fun hc=>(g.fail hc).trans (h.fail hb),fun hc=>?_,by omega⟩
 ·have:=g.at_ hc
  rw[h.s] at this
  omega
 ·have:=g.room hc
  rw[h.s] at this
  omega
theorem Adv.refl (r:Mr) (h:r.at_≤(r.s.length:Int)):Adv r r:=⟨rfl,rfl,fun _=>⟨Int.le_refl _,h⟩,fun _=>rfl,fun _=>Int.le_refl _,by omega⟩
theorem Adv1.trans {a b c:Mr} (h:Adv1 a b) (hb:b.fail.kind=0) (g:Adv b c):Adv1 a c:=
 ⟨h.1.trans hb g,fun hc=>by
  have h1:=h.2 hb
  have:=g.at_ hc
  omega⟩
theorem Adv.failed {r r':Mr} (hp:r'.plan=r.plan) (hs:r'.s=r.s) (hk:r'.fail.kind≠0) (ho:(r'.out.length:Int)≤(r.out.length:Int)+4*((r.s.length:Int)-r.at_)):Adv r r':=
 ⟨hp,hs,fun h=>(hk h).elim,fun h=>(hk h).elim,fun h=>(hk h).elim,ho⟩
theorem Adv1.failed {r r':Mr} (hp:r'.plan=r.plan) (hs:r'.s=r.s) (hk:r'.fail.kind≠0) (ho:(r'.out.length:Int)≤(r.out.length:Int)+4*((r.s.length:Int)-r.at_)):Adv1 r r':=
 ⟨Adv.failed hp hs hk ho,fun h=>(hk h).elim⟩
theorem Cb (r:Mr) (c a:Int):(Cw r c a).fail.kind≠0:=by simp[Cw,Bj]
theorem Sz {r:Mr} {c a:Int} (h:r.at_≤(r.s.length:Int)):Adv1 r (Cw r c a):=Adv1.failed rfl rfl (Cb r c a) (by simp only[Cw];omega)
theorem Pw {r:Mr} {e:Int} (h:Bs r e=true):Az r e=F1 r (Ae r.s r.at_ e).2.1:=by unfold Az;rw[if_pos h]
theorem J9 {r:Mr} {e:Int} (h:Bs r e=false):Az r e=Cw r (Ae r.s r.at_ e).2.2 (Ae r.s r.at_ e).2.1:=by unfold Az;rw[if_neg (by simp[h])]
theorem Ac3 {r:Mr} {a:Int} (h1:r.at_<a) (h2:a≤(r.s.length:Int)):Adv1 r (F1 r a):=
 ⟨⟨rfl,rfl,fun _=>⟨by simp only[F1];omega,h2⟩,fun _=>rfl,fun _=>by simp only[F1];omega,by simp only[F1];omega⟩,fun _=>h1⟩
theorem E3 {r:Mr} {e:Int} (h1:r.at_≤(r.s.length:Int)):Adv1 r (Az r e)∧(Bs r e=true→0≤r.at_∧(Az r e).at_≤e)∧(Az r e).out=r.out:=by
 cases hok:Bs r e with
 |true=>
  rw[Pw hok]
  have hc:(Ae r.s r.at_ e).2.2=0:=by simpa [Bs] using hok
  have hv:=Fn hc
  exact⟨Ac3 hv.2.1 hv.2.2.2,fun _=>⟨hv.1,hv.2.2.1⟩,rfl⟩
 |false=>
  rw[J9 hok]
  exact⟨Sz h1,fun h=>by simp at h,rfl⟩
theorem D9 {r:Mr} {e:Int} (h0:r.fail.kind=0):Bs r e=decide ((Az r e).fail.kind=0):=by
 cases hok:Bs r e with
 |true=>rw[Pw hok];simp[F1,h0]
 |false=>rw[J9 hok];rfl
theorem Lw {s:List UInt8} {a w:Int} (h:Dw s a w=true):(w=4∨w=8)∧0≤a∧a+w≤(s.length:Int):=by
 simp only[Dw,Bool.and_eq_true] at h
 have:=Aw h.2
 exact⟨Agb h.1,by omega,by omega⟩
theorem Z9 {r:Mr} {w e:Int} (h1:r.at_≤(r.s.length:Int)):Adv1 r (G1 r w e)∧(G1 r w e).out=r.out:=by
 unfold G1
 split
 ·exact⟨Sz h1,rfl⟩
 ·split
  ·rename_i h2 h3
   have:=Lw h3
   exact⟨Ac3 Q2 Q2,rfl⟩
  ·exact⟨Sz h1,rfl⟩
theorem Aaa {r:Mr} {w e:Int} (h1:r.at_≤(r.s.length:Int)):Adv1 r (E1 r w e)∧(E1 r w e).out=r.out:=by
 unfold E1;split
 ·exact Z9 h1
 ·exact⟨(E3 h1).1,(E3 h1).2.2⟩
theorem Em {r:Mr} {w e:Int} (h0:r.fail.kind=0):E5 r w e=decide ((E1 r w e).fail.kind=0):=by
 unfold E5 E1;split
 ·unfold G1 Hp
  split
  ·rename_i h;rw[decide_eq_false (by omega)];rfl
  ·rename_i h;rw[decide_eq_true (by omega)]
   split<;>rename_i h2
   ·simp[h2,F1,h0]
   ·simp[h2,Cw,Bj]
 ·exact D9 h0
theorem Ajw {r r':Mr} {e:Ev} (h:Adv1 r r') (ho:r'.out=r.out) (hk:r'.fail.kind=0):Adv1 r (Ag r' e):=by
 have ha:=h.1.at_ hk
 have hb:=h.2 hk
 refine⟨⟨h.1.plan,h.1.s,h.1.at_,h.1.fail,fun _=>?_,?_⟩,h.2⟩
 ·simp only[Ag,List.length_append,List.length_cons,List.length_nil,ho];omega
 ·simp only[Ag,List.length_append,List.length_cons,List.length_nil,ho];omega
theorem Ka {r:Mr} {f:Fld} {w e:Int} (h1:r.at_≤(r.s.length:Int)) (h0:r.fail.kind=0):Adv1 r (Bn r f w e):=by
 have hv:=Aaa (w:=w) (e:=e) h1
 unfold Bn
 split
 ·rename_i hh
  have:=hh.1
  rw[Em h0] at this
  exact Ajw hv.1 hv.2 (by simpa using this)
 ·exact hv.1
theorem Vq {go:Mr→Bool} {step:Mr→Mr} (hgo: ∀r,go r=true→r.fail.kind=0) (hstep: ∀r,r.at_≤(r.s.length:Int)→r.fail.kind=0→Adv1 r (step r)): ∀(k:Nat) (r:Mr),r.at_≤(r.s.length:Int)→Adv r (E6 go step k r)
 |0,r,h=>Adv.refl r h
 |k+1,r,h=>by
  unfold E6
  cases hg:go r with
  |false=>exact Adv.refl r h
  |true=>
   have hk:=hgo r hg
   have hs:=hstep r h hk
   simp only[if_true]
   by_cases hk':(step r).fail.kind=0
   ·have:=hs.1.at_ hk'
    exact hs.1.trans hk' (Vq hgo hstep k (step r) (by rw[hs.1.s];exact this.2))
   ·have:E6 go step k (step r)=step r:=C7 (by cases hg':go (step r) with
     |false=>rfl
     |true=>exact(hk' (hgo _ hg')).elim)
    rw[this];exact hs.1
theorem Kb {e:Int} {r:Mr} (h:Lg e r=true):r.fail.kind=0:=by simp[Lg] at h;exact h.2
theorem R9 {r r':Mr} (h1:r.at_≤(r.s.length:Int)) (h0:r.fail.kind=0) (h:Adv1 r r'):Lu r'<Lu r:=by
 unfold Lu
 rw[if_pos h0]
 split
 ·rename_i hk
  have:=h.2 hk
  have:=h.1.at_ hk
  rw[h.1.s];omega
 ·omega
theorem Aha {r:Mr} {f:Fld} {e:Int} (h1:r.at_≤(r.s.length:Int)):Adv r (Kn r f e):=
 Vq (fun r h=>Kb h) (fun r h h0=>Ka h h0) _ r h1
theorem Ac4 {r:Mr} {f:Fld} {e:Int} (h1:r.at_≤(r.s.length:Int)) (hg:Lg e r=true):Kn r f e=Kn (Bn r f (Ba f.kind) e) f e:=by
 unfold Kn
 refine Yu (fun r=>r.at_≤(r.s.length:Int)∨r.fail.kind≠0) Lu (fun a hi hg=>?_) (.inl h1) hg
 have hk:=Kb hg
 have ha:=hi.resolve_right (fun h=>h hk)
 have:=Ka (f:=f) (w:=Ba f.kind) (e:=e) ha hk
 refine⟨?_,R9 ha hk this⟩
 by_cases hk':(Bn a f (Ba f.kind) e).fail.kind=0
 ·left;rw[this.1.s];exact(this.1.at_ hk').2
 ·exact .inr hk'
theorem S0 {r:Mr} {f:Fld} {e:Int} (hg:Lg e r=false):Kn r f e=r:=C7 hg
theorem Aee {r:Mr} {f:Fld} {w e:Int} (h:E5 r w e=true) (hf:0<f.number):Bn r f w e=Ag (E1 r w e) (Ew f (Gp r w e)):=by unfold Bn;rw[if_pos ⟨h,hf⟩]
theorem Abj {r:Mr} {f:Fld} {w e:Int} (h:E5 r w e=false):Bn r f w e=E1 r w e:=by unfold Bn;rw[if_neg (by simp[h])]
structure RunInv (r0:Mr) (f:Fld) (e:Int) (q:Mr):Prop where
 at_:q.at_≤(q.s.length:Int)
 fail:q.fail.kind=0
 adv:Adv r0 q
 run:Kn q f e=Kn r0 f e
theorem RunInv.refl {r:Mr} {f:Fld} {e:Int} (h1:r.at_≤(r.s.length:Int)) (h0:r.fail.kind=0):RunInv r f e r:=⟨h1,h0,Adv.refl r h1,rfl⟩
theorem RunInv.next {r q:Mr} {f:Fld} {e:Int} (h:RunInv r f e q) (hg:q.at_<e) (hok:E5 q (Ba f.kind) e=true) (hf:0<f.number):RunInv r f e (Ag (E1 q (Ba f.kind) e) (Ew f (Gp q (Ba f.kind) e))):=by
 have hgo:Lg e q=true:=by simp[Lg,hg,h.fail]
 have hs:=Ka (f:=f) (w:=Ba f.kind) (e:=e) h.at_ h.fail
 have hr:=Ac4 (f:=f) h.at_ hgo
 rw[Aee hok hf] at hs hr
 have hk:(Ag (E1 q (Ba f.kind) e) (Ew f (Gp q (Ba f.kind) e))).fail.kind=0:=by
  rw[Em h.fail] at hok;simpa [Ag] using hok
 exact⟨by rw[hs.1.s];exact(hs.1.at_ hk).2,hk,h.adv.trans h.fail hs.1,hr.symm.trans h.run⟩
theorem RunInv.bad {r q:Mr} {f:Fld} {e:Int} (h:RunInv r f e q) (hg:q.at_<e) (hok:E5 q (Ba f.kind) e=false):Kn r f e=E1 q (Ba f.kind) e:=by
 have hgo:Lg e q=true:=by simp[Lg,hg,h.fail]
 have hr:=Ac4 (f:=f) h.at_ hgo
 rw[Abj hok] at hr
 rw[←h.run,hr]
 refine S0 ?_
 rw[Em h.fail] at hok
 have:(E1 q (Ba f.kind) e).fail.kind≠0:=by simpa using hok
 simp[Lg,this]
theorem RunInv.end_ {r q:Mr} {f:Fld} {e:Int} (h:RunInv r f e q) (hg: ¬q.at_<e):Kn r f e=q:=by
 rw[←h.run];exact S0 (by simp[Lg];omega)
theorem RunInv.room {r q:Mr} {f:Fld} {e:Int} (h:RunInv r f e q):q.s=r.s∧q.plan=r.plan∧r.at_≤q.at_∧(q.out.length:Int)+4*((r.s.length:Int)-q.at_)≤(r.out.length:Int)+4*((r.s.length:Int)-r.at_):=
 ⟨h.adv.s,h.adv.plan,(h.adv.at_ h.fail).1,h.adv.room h.fail⟩
theorem Ajx (r:Mr) (w e:Int):0≤K6 r w e∧K6 r w e≤18446744073709551615:=by
 unfold K6
 split
 ·rename_i h;simp only[Hp,Bool.and_eq_true] at h
  have hw:=Lw h.2
  unfold Lm;rw[if_pos h.2]
  have:=Pt (l:=List.take w.toNat (List.drop r.at_.toNat r.s)) (k:=8) (by rw[List.length_take];omega)
  have e8:(2:Nat) ^ (8*8)=18446744073709551616:=by decide
  omega
 ·omega
theorem Ajy (r:Mr) (w e:Int):0≤Gp r w e∧Gp r w e≤18446744073709551615:=by
 unfold Gp K6 A5
 split
 ·split
  ·rename_i h;simp only[Hp,Bool.and_eq_true] at h
   have hw:=Lw h.2
   unfold Lm;rw[if_pos h.2]
   have:=Pt (l:=List.take (Ak w).toNat (List.drop r.at_.toNat r.s)) (k:=8) (by rw[List.length_take];omega)
   have e8:(2:Nat) ^ (8*8)=18446744073709551616:=by decide
   omega
  ·omega
 ·split
  ·exact J1 _ _ _
  ·omega
theorem My (r:Mr) (e:Int):0≤A5 r e∧A5 r e≤18446744073709551615:=by
 unfold A5;split
 ·exact J1 _ _ _
 ·omega
theorem Ac5 {b:Bool} (h:b=false):(!b)=true:=by rw[h];rfl
theorem Ui {b:Bool} (h:b=true):(!b)=false:=by rw[h];rfl
theorem Ahb {s:List UInt8} {a n e:Int} (ha:0≤a) (hn:0≤n) (hl:a≤(s.length:Int)) (he:e=a+n∧a+n≤(s.length:Int)∨e=(s.length:Int)∧(s.length:Int)≤a+n):List.drop a.toNat (List.take e.toNat s)=(s.drop a.toNat).take n.toNat:=by
 rw[List.drop_take]
 rcases he with ⟨he,_⟩|⟨he,hm⟩
 ·rw[he,show (a+n).toNat-a.toNat=n.toNat by omega]
 ·rw[List.take_of_length_le (by rw[List.length_drop];omega),List.take_of_length_le (by rw[List.length_drop];omega)]
theorem S3: ∀ {u:Utf} {s:List UInt8} {i j:Nat},(D7 u s i).2=some j→i≤j∧j<i+s.length
 |u,[],i,j,h=>by simp[D7] at h
 |u,b::r,i,j,h=>by
  unfold D7 at h
  split at h
  ·have:=S3 h;simp only[List.length_cons];omega
  ·simp at h;simp only[List.length_cons];omega
theorem Ajz (u:Utf) (s:List UInt8): -1≤Fg u s∧(0≤Fg u s→Fg u s<(s.length:Int)):=by
 unfold Fg
 split
 ·rename_i h;have:=S3 h;omega
 ·omega
theorem Pb {r:Mr} {n:Int} (hn:0≤n) (ha:0≤r.at_) (hl:r.at_≤(r.s.length:Int)):((Ay r n).length:Int)≤n∧((Ay r n).length:Int)≤(r.s.length:Int)-r.at_∧(((Ay r n).length:Int)<n→((Ay r n).length:Int)=(r.s.length:Int)-r.at_):=by
 unfold Ay;rw[List.length_take,List.length_drop];omega
/-! ### Texts, messages -/
structure AdvB (b:Int) (r r':Mr):Prop where
 plan:r'.plan=r.plan
 s:r'.s=r.s
 at_:r'.fail.kind=0→r.at_≤r'.at_∧r'.at_≤(r.s.length:Int)
 fail:r'.fail.kind=0→r'.fail=r.fail
 room:r'.fail.kind=0→(r'.out.length:Int)+4*((r.s.length:Int)-r'.at_)≤(r.out.length:Int)+b+4*((r.s.length:Int)-r.at_)
 most:(r'.out.length:Int)≤(r.out.length:Int)+b+4*((r.s.length:Int)-r.at_)
theorem Adv.b {r r':Mr} (h:Adv r r'):AdvB 0 r r':=⟨h.plan,h.s,h.at_,h.fail,fun hk=>by have:=h.room hk;omega,by have:=h.most;omega⟩
theorem AdvB.tell {b:Int} {r r':Mr} (h:AdvB b r r') (e:Ev):AdvB (b+1) r (Ag r' e):=
 ⟨h.plan,h.s,h.at_,h.fail,fun hk=>by have:=h.room hk;simp only[Ag,List.length_append,List.length_cons,List.length_nil];omega,by have:=h.most;simp only[Ag,List.length_append,List.length_cons,List.length_nil];omega⟩
theorem AdvB.failed {b:Int} {r r':Mr} (h:AdvB b r r') (c a:Int):AdvB b r (Cw r' c a):=
 ⟨h.plan,h.s,fun hk=>(Cb _ _ _ hk).elim,fun hk=>(Cb _ _ _ hk).elim,fun hk=>(Cb _ _ _ hk).elim,h.most⟩
theorem AdvB.moved {b:Int} {r r':Mr} (h:AdvB b r r') {a:Int} (h1:r'.fail.kind=0→r'.at_≤a) (h2:a≤(r.s.length:Int)):AdvB b r (F1 r' a):=
 ⟨h.plan,h.s,fun hk=>by have:=h.at_ hk;have:=h1 hk;exact⟨by simp only[F1];omega,h2⟩,h.fail,fun hk=>by have:=h.room hk;have:=h1 hk;simp only[F1];omega,h.most⟩
theorem AdvB.trans {b c:Int} {x y z:Mr} (h:AdvB b x y) (hb:y.fail.kind=0) (g:AdvB c y z):AdvB (b+c) x z:=by
 obtain ⟨h1,h2⟩:=h.at_ hb
 have hr:=h.room hb
 have gm:=g.most
 rw[h.s] at gm
 refine⟨g.plan.trans h.plan,g.s.trans h.s,fun hc=>?_,fun hc=>(g.fail hc).trans (h.fail hb),fun hc=>?_,by omega⟩
 ·have:=g.at_ hc
  rw[h.s] at this
  omega
 ·have:=g.room hc
  rw[h.s] at this
  omega
theorem AdvB.mono {b c:Int} {r r':Mr} (h:AdvB b r r') (hc:b≤c):AdvB c r r':=⟨h.plan,h.s,h.at_,h.fail,fun hk=>by have:=h.room hk;omega,by have:=h.most;omega⟩
theorem Adv1.after {b:Int} {r v w:Mr} (h:Adv1 r v) (ho:v.out=r.out) (hk:v.fail.kind=0) (g:AdvB b v w) (hb:b≤4):Adv1 r w:=by
 have h1:=h.1.at_ hk
 have h2:=h.2 hk
 have gm:=g.most
 rw[h.1.s,ho] at gm
 refine⟨⟨g.plan.trans h.1.plan,g.s.trans h.1.s,fun hc=>?_,fun hc=>(g.fail hc).trans (h.1.fail hk),fun hc=>?_,by omega⟩,fun hc=>?_⟩
 ·have:=g.at_ hc
  rw[h.1.s] at this
  omega
 ·have:=g.room hc
  rw[h.1.s,ho] at this
  omega
 ·have:=g.at_ hc
  omega
theorem Abk {r:Mr} {f:Fld} {n:Int} (hl:r.at_≤(r.s.length:Int)):AdvB 2 r (Dj r f n)∧(Dj r f n).at_=r.at_∧(Dj r f n).fail=r.fail:=by
 unfold Dj
 split
 ·exact⟨((Adv.refl r hl).b.tell _).mono (by decide),rfl,rfl⟩
 ·exact⟨(((Adv.refl r hl).b.tell _).tell _).mono (by decide),rfl,rfl⟩
theorem Abm {r:Mr} {f:Fld} {n:Int} (ha:0≤r.at_) (hl:r.at_≤(r.s.length:Int)) (hn:0≤n):AdvB 3 r (Ci r f n):=by
 obtain ⟨h1,h2,h3⟩:=Abk (f:=f) (n:=n) hl
 have ht:=Pb hn ha hl
 unfold Ci
 split
 ·exact(h1.failed _ _).mono (by decide)
 split
 ·exact(h1.failed _ _).mono (by decide)
 split
 ·exact(h1.failed _ _).mono (by decide)
 ·exact((h1.moved (fun _=>by omega) (by omega)).tell _).mono (by decide)
def Ac6 (sub:Mr→Fld→Int→Int→Mr):Prop:= ∀(v:Mr) (f:Fld) (n s:Int),v.at_≤(v.s.length:Int)→v.fail.kind=0→AdvB 2 v (sub v f n s)
theorem Aab {sub:Mr→Fld→Int→Int→Mr} (hsub:Ac6 sub) {r:Mr} {f:Fld} {known:Bool} {e:Int} (hl:r.at_≤(r.s.length:Int)) (h0:r.fail.kind=0):Adv1 r (Bt sub r f known e):=by
 obtain ⟨hv,hv2,hv3⟩:=E3 (e:=e) hl
 have hu:=My r e
 unfold Bt
 split
 ·exact hv
 ·rename_i hok
  have hok:Bs r e=true:=by simpa using hok
  have hk:(Az r e).fail.kind=0:=by rw[D9 h0] at hok;simpa using hok
  have ha:=hv.1.at_ hk
  have hs:=congrArg List.length hv.1.s
  have h2:=hv2 hok
  have hl':(Az r e).at_≤((Az r e).s.length:Int):=by omega
  have hr:=(Adv.refl (Az r e) hl').b
  split
  ·exact hv.after hv3 hk (hr.failed _ _) (by decide)
  split
  ·split
   ·exact hv.after hv3 hk (hr.failed _ _) (by decide)
   ·exact hv.after hv3 hk (hr.moved (fun _=>by omega) (by omega)) (by decide)
  split
  ·exact hv.after hv3 hk (hsub _ _ _ _ hl' hk) (by decide)
  split
  ·exact hv.after hv3 hk (Aha hl').b (by decide)
  ·exact hv.after hv3 hk (Abm (by omega) hl' hu.1) (by decide)
theorem Vr {sub:Mr→Fld→Int→Int→Mr} (hsub:Ac6 sub) {shape e:Int} {r:Mr} (hl:r.at_≤(r.s.length:Int)) (h0:r.fail.kind=0):Adv1 r (Du sub shape e r):=by
 obtain ⟨hv,hv2,hv3⟩:=E3 (e:=e) hl
 unfold Du
 split
 ·exact hv
 ·rename_i hok
  have hok:Bs r e=true:=by simpa using hok
  have hk:(Az r e).fail.kind=0:=by rw[D9 h0] at hok;simpa using hok
  have ha:=hv.1.at_ hk
  have hs:=congrArg List.length hv.1.s
  have hl':(Az r e).at_≤((Az r e).s.length:Int):=by omega
  have hr:=(Adv.refl (Az r e) hl').b
  split
  ·exact hv.after hv3 hk (hr.failed _ _) (by decide)
  split
  ·exact hv.after hv3 hk (hr.failed _ _) (by decide)
  split
  ·exact hv.after hv3 hk (hr.failed _ _) (by decide)
  split
  ·exact hv.after hv3 hk (Aab hsub hl' hk).1.b (by decide)
  ·exact hv.after hv3 hk (Ka hl' hk).1.b (by decide)
theorem Aac {D:Nat} (hs:Ac6 (Jg D)) {shape e:Int} {r:Mr} (hl:r.at_≤(r.s.length:Int)):Adv r (Hq D shape e r):=by
 rw[Mx]
 exact Vq (fun r h=>Kb h) (fun r h h0=>Vr hs h h0) _ r hl
theorem Yv: ∀D,Ac6 (Jg D)
 |0=>fun v f n s hl h0=>((Adv.refl v hl).b.failed _ _).mono (by decide)
 |D+1=>fun v f n s hl h0=>by
  have ht:AdvB 1 v (Ag v (E2 f n)):=(Adv.refl v hl).b.tell _
  have hm:=(Aac (Yv D) (shape:=f.msg) (e:=v.at_+n) (r:=Ag v (E2 f n)) hl).b
  have hb:=ht.trans h0 hm
  simp only[Jg]
  split
  ·exact(hb.tell _).mono (by decide)
  ·exact hb.mono (by decide)
theorem Yw {D:Nat} {shape e:Int} {r:Mr} (hl:r.at_≤(r.s.length:Int)):Adv r (Hq D shape e r):=Aac (Yv D) hl
structure LInv (step:Mr→Mr) (e:Int) (r0 q:Mr):Prop where
 adv:Adv r0 q
 run:E6 (Lg e) step (Lu q) q=E6 (Lg e) step (Lu r0) r0
def S4 (step:Mr→Mr):Prop:= ∀r:Mr,r.at_≤(r.s.length:Int)→r.fail.kind=0→Adv1 r (step r)
theorem LInv.refl {step:Mr→Mr} {e:Int} {r:Mr} (h1:r.at_≤(r.s.length:Int)):LInv step e r r:=⟨Adv.refl r h1,rfl⟩
theorem LInv.at_ {step:Mr→Mr} {e:Int} {r q:Mr} (h:LInv step e r q) (hk:q.fail.kind=0):r.at_≤q.at_∧q.at_≤(q.s.length:Int):=by
 have:=h.adv.at_ hk
 rw[h.adv.s];exact this
theorem LInv.room {step:Mr→Mr} {e:Int} {r q:Mr} (h:LInv step e r q) (hk:q.fail.kind=0):q.s.length=r.s.length∧q.plan=r.plan∧r.at_≤q.at_∧q.at_≤(r.s.length:Int)∧(q.out.length:Int)+4*((r.s.length:Int)-q.at_)≤(r.out.length:Int)+4*((r.s.length:Int)-r.at_):=
 ⟨by rw[h.adv.s],h.adv.plan,(h.adv.at_ hk).1,(h.adv.at_ hk).2,h.adv.room hk⟩
theorem LInv.go {step:Mr→Mr} (hs:S4 step) {e:Int} {r q:Mr} (h:LInv step e r q) (hg:q.at_<e) (hk:q.fail.kind=0):LInv step e r (step q)∧Lu (step q)<Lu q:=by
 have hgo:Lg e q=true:=by simp[Lg,hg,hk]
 have ha:=h.at_ hk
 have hq:=hs q ha.2 hk
 refine⟨⟨h.adv.trans hk hq.1,?_⟩,R9 ha.2 hk hq⟩
 rw[←h.run]
 refine(Yu (fun r=>r.at_≤(r.s.length:Int)∨r.fail.kind≠0) Lu (fun a hi hg=>?_) (.inl ha.2) hgo).symm
 have hk':=Kb hg
 have hl:a.at_≤(a.s.length:Int):=hi.resolve_right (fun h=>h hk')
 refine⟨?_,R9 hl hk' (hs a hl hk')⟩
 by_cases hk2:(step a).fail.kind=0
 ·left;rw[(hs a hl hk').1.s];exact((hs a hl hk').1.at_ hk2).2
 ·exact .inr hk2
theorem LInv.stop {step:Mr→Mr} {e:Int} {r q:Mr} (h:LInv step e r q) (hg:Lg e q=false):E6 (Lg e) step (Lu r) r=q:=by rw[←h.run];exact C7 hg
theorem LInv.end_ {step:Mr→Mr} {e:Int} {r q:Mr} (h:LInv step e r q) (hg: ¬q.at_<e):E6 (Lg e) step (Lu r) r=q:=h.stop (by simp[Lg];omega)
theorem LInv.bad {step:Mr→Mr} {e:Int} {r q:Mr} (h:LInv step e r q) (hk:q.fail.kind≠0):E6 (Lg e) step (Lu r) r=q:=h.stop (by simp[Lg,hk])
theorem Lx (D:Nat) (shape e:Int):S4 (Du (Jg D) shape e):=fun _ h h0=>Vr (Yv D) h h0
theorem K7 (f:Fld) (w e:Int):S4 (fun r=>Bn r f w e):=fun _ h h0=>Ka h h0
theorem LInv.leave {step:Mr→Mr} (hs:S4 step) {e:Int} {r q x:Mr} (h:LInv step e r q) (hg:q.at_<e) (hk:q.fail.kind=0) (hx:step q=x) (hx2:x.fail.kind≠0):E6 (Lg e) step (Lu r) r=x:=by
 subst hx;exact(h.go hs hg hk).1.bad hx2
theorem LInv.next {step:Mr→Mr} (hs:S4 step) {e:Int} {r q x:Mr} (h:LInv step e r q) (hg:q.at_<e) (hk:q.fail.kind=0) (hx:step q=x):LInv step e r x∧Lu x<Lu q:=by
 subst hx;exact h.go hs hg hk
theorem Qx {l:List Shp} {s n:Int} (hl:C5 l=true):((fieldAt l s n).isSome=true→1≤((fieldAt l s n).getD fld0).number∧1≤((fieldAt l s n).getD fld0).kind∧((fieldAt l s n).getD fld0).kind≤8)∧((fieldAt l s n).isSome=false→((fieldAt l s n).getD fld0).number=0):=by
 cases h:fieldAt l s n with
 |none=>simp[fld0]
 |some f=>
  have:=Ye (Sp hl h).1
  simp;omega
theorem Xq {D:Nat} {s e:Int} {v:Mr} {b:Nat} (h:v.at_≤(v.s.length:Int)) (hb:(v.out.length:Int)+4*((v.s.length:Int)-v.at_)≤(b:Int)):(Hq D s e v).out.length≤b:=by
 have:=(Yw (D:=D) (shape:=s) (e:=e) h).most;omega
theorem Aef {k:Int} (h:1≤k∧k≤5):Ba k=0∨Ba k=1∨Ba k=5:=by
 have hk:Dx k=true:=by simp only[Dx,Ai,Bool.and_eq_true,decide_eq_true_eq];omega
 unfold Ba
 rw[if_pos hk]
 split
 ·exact .inr (.inr rfl)
 ·split
  ·exact .inr (.inl rfl)
  ·exact .inl (by rw[if_pos (by omega)])
theorem Ahc (u:Int):0≤Ah u∧Ah u≤7:=by unfold Ah;split<;>omega
theorem Abn {l:List Shp} {s n:Int} (hl:C5 l=true):(fieldAt l s n).isSome=decide (((fieldAt l s n).getD fld0).number≠0):=by
 have:=Qx (s:=s) (n:=n) hl
 cases h:(fieldAt l s n).isSome with
 |true=>exact(decide_eq_true (by have:=(this.1 h).1;omega)).symm
 |false=>exact(decide_eq_false (by have:=this.2 h;omega)).symm
def Eh (j6:Nat) (x:Mr):List C:=[.seq .shp x.plan.shapes,.int .i64 x.plan.root,.int .i64 x.plan.deep,.int .i64 x.plan.most,.str x.s,.int .i64 x.at_,.own j6,.int .i64 x.fail.kind,.int .i64 x.fail.field,.int .u64 x.fail.bits,.int .i64 x.fail.len,.str x.fail.text,.int .i64 x.fail.code,.int .i64 x.fail.at_]
end Go.Proofs.YtijacopaadmncaaGreat.Ax
