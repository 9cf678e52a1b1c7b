/- The machine: bytes. The machine: a byte. A byte: the program. A byte keeps a decoder right. A byte keeps a decoder right. Whole inputs. Whole inputs: the program. The reference: settling. -/
import Derived.Test.YtijacopaadmncaaGreatKFnFeedCut3
import Derived.Test.YtijacopaadmncaaGreatKFnFeedCut2
import Derived.Test.YtijacopaadmncaaGreatKFnFeedCut1
set_option linter.unusedSimpArgs false
set_option linter.unusedVariables false
namespace Go.Proofs.YtijacopaadmncaaGreat.Ax
open Go.RowKit
theorem Sj (m:Mac) (b:Int) (hp1:MW (m).d) (hp2:List.length (m).out≤50000000) (hp3:(0:Int)≤b∧b≤255):Fun Tryz.prog 218 [vP 0,vI b] [.cells (Ab 1 2 3 m),.tree m.d.plan.shapes,.lst .lev m.d.stack,.lst .ev m.out] (.tup []) [.cells (Ab 4 5 6 (Bp m b ((m).d.at_-1))),.dead,.dead,.dead,.tree (Bp m b ((m).d.at_-1)).d.plan.shapes,.lst .lev (Bp m b ((m).d.at_-1)).d.stack,.lst .ev (Bp m b ((m).d.at_-1)).out]:=by
 have hN:Bb=274877906944:=rfl
 have hlv:=B3 hp1.lv
 have hpt:=Cc hlv.1
 have htb:=G5 hp1.lv
 have hwm:=Aea m
 have hbb:=hp1.b0
 have hat:=hp1.at_
 have hwt:=hp1.want
 have hwd:=Jf m.d
 have hsb:=P6 (b:=b) hbb.1 hbb.2
 refine Ap Tryz.func218 Q4 Q4 (w:=let zi:Int→C:= .int .i64;let z1:List C:=[zi m.d.at_,zi m.d.field.number,zi m.d.field.kind,.bool m.d.field.rep,.bool m.d.field.packed,zi m.d.field.msg,zi m.d.wire,zi m.d.want,zi m.d.utf.want,zi m.d.utf.low,zi m.d.utf.high,zi m.d.end_.kind,zi m.d.end_.field,.int .u64 m.d.end_.bits,zi m.d.end_.len,.str m.d.end_.text,zi m.d.end_.code,zi m.d.end_.at_,.own 3];let z2:List C:=[zi m.d.at_,zi m.d.field.number,zi m.d.field.kind,.bool m.d.field.rep,.bool m.d.field.packed,zi m.d.field.msg,zi m.d.wire,zi m.d.want,zi m.d.utf.want,zi m.d.utf.low,zi m.d.utf.high,zi m.d.end_.kind,zi m.d.end_.field,.int .u64 m.d.end_.bits,zi m.d.end_.len,.str m.d.end_.text,zi m.d.end_.code,zi m.d.end_.at_,.own 6];let z3:List C:=[zi m.d.at_,zi m.d.field.number,zi m.d.field.kind,.bool m.d.field.rep,.bool m.d.field.packed,zi m.d.field.msg,zi m.d.wire,zi m.d.want,zi m.d.utf.want,zi m.d.utf.low,zi m.d.utf.high,zi m.d.end_.kind,zi m.d.end_.field,.int .u64 m.d.end_.bits,zi m.d.end_.len,.str m.d.end_.text,zi m.d.end_.code,zi m.d.end_.at_];let z6:=(⟨m.d.plan,m.d.mode,m.d.stack,(⟨0,0⟩:Scn),m.d.start,m.d.at_,m.d.field,m.d.wire,m.d.want,m.d.utf,m.d.end_⟩:Dcd);let z9:=(⟨m.d.plan,m.d.mode,m.d.stack,(⟨0,0⟩:Scn),m.d.at_-1,m.d.at_,m.d.field,m.d.wire,m.d.want,m.d.utf,m.d.end_⟩:Dcd);let z10:=Ag m.d.scan b;let z4:=A0 (⟨(⟨m.d.plan,m.d.mode,m.d.stack,z10.1,m.d.at_-1,m.d.at_,m.d.field,m.d.wire,m.d.want,m.d.utf,m.d.end_⟩:Dcd),m.out⟩:Mac) 9 m.d.at_;let z5:=A0 (⟨(⟨m.d.plan,m.d.mode,m.d.stack,z10.1,m.d.start,m.d.at_,m.d.field,m.d.wire,m.d.want,m.d.utf,m.d.end_⟩:Dcd),m.out⟩:Mac) 9 m.d.at_;let z14:=Bm (⟨z6,m.out⟩:Mac) z10.1.bits;let z15:List Blk:=[.cells (Ab 1 2 4 z4),.tree z4.d.plan.shapes,.lst .lev z4.d.stack,.dead,.lst .ev z4.out];let z16:List Blk:=[.cells (.own 1::zi m.d.plan.root::zi m.d.plan.deep::zi m.d.plan.most::zi m.d.mode:: .own 2:: .int .u64 z10.1.bits::zi z10.1.have_::zi m.d.start::z1),.tree m.d.plan.shapes,.lst .lev m.d.stack,.lst .ev m.out];let z17:List Blk:=[.cells (Ab 1 2 4 z5),.tree z5.d.plan.shapes,.lst .lev z5.d.stack,.dead,.lst .ev z5.out];let z18:List Blk:=[.cells (.own 1::zi m.d.plan.root::zi m.d.plan.deep::zi m.d.plan.most::zi m.d.mode:: .own 2:: .int .u64 0::zi 0::zi m.d.start::z1),.tree m.d.plan.shapes,.lst .lev m.d.stack,.lst .ev m.out];let z19:List Blk:=[.cells (Ab 4 5 6 z4),.dead,.dead,.dead,.tree z4.d.plan.shapes,.lst .lev z4.d.stack,.lst .ev z4.out];let z22:List Blk:=[.cells (Ab 4 5 6 z5),.dead,.dead,.dead,.tree z5.d.plan.shapes,.lst .lev z5.d.stack,.lst .ev z5.out];let z32:S:= .tup [.agg (Km z10.1),vI z10.2];let z33:List Blk:=[.cells (Ab 1 2 4 z14),.tree z14.d.plan.shapes,.lst .lev z14.d.stack,.dead,.lst .ev z14.out];let z34:List V:=[vP 0,vI 9,vI m.d.at_];let z35:=m.d.at_-1;let z8:=A0 (⟨(⟨m.d.plan,m.d.mode,m.d.stack,m.d.scan,m.d.at_-1,m.d.at_,m.d.field,m.d.wire,m.d.want,m.d.utf,m.d.end_⟩:Dcd),m.out⟩:Mac) 1 z35;let z13:List Blk:=[.cells (.own 1::zi m.d.plan.root::zi m.d.plan.deep::zi m.d.plan.most::zi m.d.mode:: .own 2:: .int .u64 z10.1.bits::zi z10.1.have_::zi z35::z1),.tree m.d.plan.shapes,.lst .lev m.d.stack,.lst .ev m.out];let z23:List Blk:=[.cells (.own 1::zi m.d.plan.root::zi m.d.plan.deep::zi m.d.plan.most::zi m.d.mode:: .own 2:: .int .u64 m.d.scan.bits::zi m.d.scan.have_::zi z35::z1),.tree m.d.plan.shapes,.lst .lev m.d.stack,.lst .ev m.out];let z30:List Blk:=[.cells (.own 1::zi m.d.plan.root::zi m.d.plan.deep::zi m.d.plan.most::zi m.d.mode:: .own 2:: .int .u64 0::zi 0::zi z35::z1),.tree m.d.plan.shapes,.lst .lev m.d.stack,.lst .ev m.out];let z31:List Blk:=[.cells (Ab 1 2 4 z8),.tree z8.d.plan.shapes,.lst .lev z8.d.stack,.dead,.lst .ev z8.out];let z36:List Blk:=[.cells (Ab 4 5 6 z8),.dead,.dead,.dead,.tree z8.d.plan.shapes,.lst .lev z8.d.stack,.lst .ev z8.out];let z37:List V:=[vP 0,.c (.int .u64 z10.1.bits)];let z38:=decide (m.d.mode=8);let z39:=decide (m.d.want=0);let z41:S:= .v (vI (Ds m.d));let z42:=m.d.mode=1;let z43:=Cu (⟨z9,m.out⟩:Mac) z10.1.bits;let z24:List Blk:=[.cells (Ab 4 5 6 z43),.dead,.dead,.dead,.tree z43.d.plan.shapes,.lst .lev z43.d.stack,.lst .ev z43.out];let z44:=Cu (⟨z6,m.out⟩:Mac) z10.1.bits;let z25:List Blk:=[.cells (Ab 4 5 6 z44),.dead,.dead,.dead,.tree z44.d.plan.shapes,.lst .lev z44.d.stack,.lst .ev z44.out];let z45:=Cn (⟨z9,m.out⟩:Mac) z10.1.bits;let z26:List Blk:=[.cells (Ab 4 5 6 z45),.dead,.dead,.dead,.tree z45.d.plan.shapes,.lst .lev z45.d.stack,.lst .ev z45.out];let z46:=Cn (⟨z6,m.out⟩:Mac) z10.1.bits;let z27:List Blk:=[.cells (Ab 4 5 6 z46),.dead,.dead,.dead,.tree z46.d.plan.shapes,.lst .lev z46.d.stack,.lst .ev z46.out];let z47:=Ea (⟨z9,m.out⟩:Mac) z10.1.bits;let z28:List Blk:=[.cells (Ab 4 5 6 z47),.dead,.dead,.dead,.tree z47.d.plan.shapes,.lst .lev z47.d.stack,.lst .ev z47.out];let z48:=Ea (⟨z6,m.out⟩:Mac) z10.1.bits;let z29:List Blk:=[.cells (Ab 4 5 6 z48),.dead,.dead,.dead,.tree z48.d.plan.shapes,.lst .lev z48.d.stack,.lst .ev z48.out];let z49:List Blk:=[.cells (Ab 1 2 3 z14),.tree z14.d.plan.shapes,.lst .lev z14.d.stack,.lst .ev z14.out];let z50:=A0 m 1 z35;let z21:List Blk:=[.cells (Ab 1 2 4 z50),.tree z50.d.plan.shapes,.lst .lev z50.d.stack,.dead,.lst .ev z50.out];let z40:List Blk:=[.cells (Ab 4 5 6 z50),.dead,.dead,.dead,.tree z50.d.plan.shapes,.lst .lev z50.d.stack,.lst .ev z50.out];let z51:=decide (Ds m.d=0);let z52:=decide (m.d.mode=2);let z53:List Blk:=[.cells (Ab 1 2 3 m),.tree m.d.plan.shapes,.lst .lev m.d.stack,.lst .ev m.out];let z54:=Bp m b ((m).d.at_-1);let z7:List Blk:=[.cells (Ab 4 5 6 z54),.dead,.dead,.dead,.tree z54.d.plan.shapes,.lst .lev z54.d.stack,.lst .ev z54.out];let z11:=Lf (.tup []) (.tup []) [.cells (.own 4::zi m.d.plan.root::zi m.d.plan.deep::zi m.d.plan.most::zi m.d.mode:: .own 5:: .int .u64 z10.1.bits::zi z10.1.have_::zi z35::z2),.dead,.dead,.dead,.tree m.d.plan.shapes,.lst .lev m.d.stack,.lst .ev m.out] z7;let z12:=Lf (.tup []) (.tup []) [.cells (.own 4::zi m.d.plan.root::zi m.d.plan.deep::zi m.d.plan.most::zi m.d.mode:: .own 5:: .int .u64 z10.1.bits::zi z10.1.have_::zi m.d.start::z2),.dead,.dead,.dead,.tree m.d.plan.shapes,.lst .lev m.d.stack,.lst .ev m.out] z7;let z55:=decide (z10.2=2);let z56:=decide (z10.2=0);let z57:List V:=[vP 0,vI 1,vI z35];let z58:=decide (m.d.mode=4);let z59:=Km m.d.scan;let z60:=decide z42;let z61:= !decide z42;let z62:=Ae z14;let z20:List Blk:=[.cells (Ab 4 5 6 z62),.dead,.dead,.dead,.tree z62.d.plan.shapes,.lst .lev z62.d.stack,.lst .ev z62.out];(.seg [.as 12 (.v (vI z35))] (.br (.br (.seg [.call [] z32 []] (.br (.seg [.call [0,1,2,3] (.tup []) z31,.at 0,.cut 0 0,.cut 0 5] (.leaf () [0,1,2,3,6,7,5])) (.br (.br (.seg [.call [] z41 []] (.br (.seg [.call [0,1,2,3] (.tup []) z15,.at 0,.cut 0 0,.cut 0 5] (.leaf () [0,1,2,3,6,7,5])) (.br (.br (.seg [.call [0,1,2,3] (.tup []) z15,.at 0,.cut 0 0,.cut 0 5] (.leaf () [0,1,2,3,6,7,5])) (.seg [.at 0,.cut 0 0,.cut 0 5,.cut 0 27] (.leaf () [0,1,2,3,5,6,7]))) (.seg [.at 0,.cut 0 0,.cut 0 5,.cut 0 27] (.leaf () [0,1,2,3,5,6,7]))))) (.br (.br (.seg [.call [0,1,2,3] (.tup []) z15,.at 0,.cut 0 0,.cut 0 5] (.leaf () [0,1,2,3,6,7,5])) (.seg [.at 0,.cut 0 0,.cut 0 5,.cut 0 27] (.leaf () [0,1,2,3,5,6,7]))) (.seg [.at 0,.cut 0 0,.cut 0 5,.cut 0 27] (.leaf () [0,1,2,3,5,6,7])))) (.seg [.br true,.call [0,1,2,3] (.tup []) z24] (.leaf () [0,1,2,3,5,6,7]))))) (.br (.seg [.call [] z32 []] (.br (.seg [.call [0,1,2,3] (.tup []) z31,.at 0,.cut 0 0,.cut 0 5] (.leaf () [0,1,2,3,6,7,5])) (.br (.br (.seg [.call [] z41 []] (.br (.seg [.call [0,1,2,3] (.tup []) z15,.at 0,.cut 0 0,.cut 0 5] (.leaf () [0,1,2,3,6,7,5])) (.br (.br (.seg [.call [0,1,2,3] (.tup []) z15,.at 0,.cut 0 0,.cut 0 5] (.leaf () [0,1,2,3,6,7,5])) (.seg [.at 0,.cut 0 0,.cut 0 5,.cut 0 27] (.leaf () [0,1,2,3,5,6,7]))) (.seg [.at 0,.cut 0 0,.cut 0 5,.cut 0 27] (.leaf () [0,1,2,3,5,6,7]))))) (.br (.br (.seg [.call [0,1,2,3] (.tup []) z15,.at 0,.cut 0 0,.cut 0 5] (.leaf () [0,1,2,3,6,7,5])) (.seg [.at 0,.cut 0 0,.cut 0 5,.cut 0 27] (.leaf () [0,1,2,3,5,6,7]))) (.seg [.at 0,.cut 0 0,.cut 0 5,.cut 0 27] (.leaf () [0,1,2,3,5,6,7])))) (.seg [.br false,.br true,.call [0,1,2,3] (.tup []) z28] (.leaf () [0,1,2,3,5,6,7]))))) (.br (.seg [.call [] z32 []] (.br (.seg [.call [0,1,2,3] (.tup []) z31,.at 0,.cut 0 0,.cut 0 5] (.leaf () [0,1,2,3,6,7,5])) (.br (.br (.seg [.call [] z41 []] (.br (.seg [.call [0,1,2,3] (.tup []) z15,.at 0,.cut 0 0,.cut 0 5] (.leaf () [0,1,2,3,6,7,5])) (.br (.br (.seg [.call [0,1,2,3] (.tup []) z15,.at 0,.cut 0 0,.cut 0 5] (.leaf () [0,1,2,3,6,7,5])) (.seg [.at 0,.cut 0 0,.cut 0 5,.cut 0 27] (.leaf () [0,1,2,3,5,6,7]))) (.seg [.at 0,.cut 0 0,.cut 0 5,.cut 0 27] (.leaf () [0,1,2,3,5,6,7]))))) (.br (.br (.seg [.call [0,1,2,3] (.tup []) z15,.at 0,.cut 0 0,.cut 0 5] (.leaf () [0,1,2,3,6,7,5])) (.seg [.at 0,.cut 0 0,.cut 0 5,.cut 0 27] (.leaf () [0,1,2,3,5,6,7]))) (.seg [.at 0,.cut 0 0,.cut 0 5,.cut 0 27] (.leaf () [0,1,2,3,5,6,7])))) (.seg [.br false,.br false,.br true,.call [0,1,2,3] (.tup []) z26] (.leaf () [0,1,2,3,5,6,7]))))) (.seg [.call [] z32 []] (.br (.seg [.call [0,1,2,3] (.tup []) z21,.at 0,.cut 0 0,.cut 0 5] (.leaf () [0,1,2,3,6,7,5])) (.br (.br (.seg [.call [] z41 []] (.br (.seg [.call [0,1,2,3] (.tup []) z17,.at 0,.cut 0 0,.cut 0 5] (.leaf () [0,1,2,3,6,7,5])) (.br (.br (.seg [.call [0,1,2,3] (.tup []) z17,.at 0,.cut 0 0,.cut 0 5] (.leaf () [0,1,2,3,6,7,5])) (.seg [.at 0,.cut 0 0,.cut 0 5,.cut 0 27] (.leaf () [0,1,2,3,5,6,7]))) (.seg [.at 0,.cut 0 0,.cut 0 5,.cut 0 27] (.leaf () [0,1,2,3,5,6,7]))))) (.br (.br (.seg [.call [0,1,2,3] (.tup []) z17,.at 0,.cut 0 0,.cut 0 5] (.leaf () [0,1,2,3,6,7,5])) (.seg [.at 0,.cut 0 0,.cut 0 5,.cut 0 27] (.leaf () [0,1,2,3,5,6,7]))) (.seg [.at 0,.cut 0 0,.cut 0 5,.cut 0 27] (.leaf () [0,1,2,3,5,6,7])))) (.seg [.br false,.br false,.br false,.call [0,1,2,3] (.tup []) z33,.call [0,1,2,5] (.tup []) z20] (.leaf () [0,1,2,3,6,7,8])))))))) (.seg [.call [] z32 []] (.br (.seg [.call [0,1,2,3] (.tup []) z21,.at 0,.cut 0 0,.cut 0 5] (.leaf () [0,1,2,3,6,7,5])) (.br (.br (.seg [.call [] z41 []] (.br (.seg [.call [0,1,2,3] (.tup []) z17,.at 0,.cut 0 0,.cut 0 5] (.leaf () [0,1,2,3,6,7,5])) (.br (.br (.seg [.call [0,1,2,3] (.tup []) z17,.at 0,.cut 0 0,.cut 0 5] (.leaf () [0,1,2,3,6,7,5])) (.seg [.at 0,.cut 0 0,.cut 0 5,.cut 0 27] (.leaf () [0,1,2,3,5,6,7]))) (.seg [.at 0,.cut 0 0,.cut 0 5,.cut 0 27] (.leaf () [0,1,2,3,5,6,7]))))) (.br (.br (.seg [.call [0,1,2,3] (.tup []) z17,.at 0,.cut 0 0,.cut 0 5] (.leaf () [0,1,2,3,6,7,5])) (.seg [.at 0,.cut 0 0,.cut 0 5,.cut 0 27] (.leaf () [0,1,2,3,5,6,7]))) (.seg [.at 0,.cut 0 0,.cut 0 5,.cut 0 27] (.leaf () [0,1,2,3,5,6,7])))) (.br (.seg [.call [0,1,2,3] (.tup []) z25] (.leaf () [0,1,2,3,5,6,7])) (.br (.seg [.call [0,1,2,3] (.tup []) z29] (.leaf () [0,1,2,3,5,6,7])) (.br (.seg [.call [0,1,2,3] (.tup []) z27] (.leaf () [0,1,2,3,5,6,7])) (.seg [.call [0,1,2,3] (.tup []) z33,.call [0,1,2,5] (.tup []) z20] (.leaf () [0,1,2,3,6,7,8]))))))))),(wI z35)∧Bc (decide (m.d.scan.have_=0)) (Bc z60 ((Fp 264 [.agg z59,vI b] [] z32 [])∧Bc z55 ((Fp 101 z57 z23 (.tup []) z31)∧Lf (.tup []) (.tup []) z36 z7) (Bc z56 (Bc z61 ((Fp 152 [.agg (.seq .shp m.d.plan.shapes::zi m.d.plan.root::zi m.d.plan.deep::zi m.d.plan.most::zi m.d.mode:: .seq .lev m.d.stack:: .int .u64 z10.1.bits::zi z10.1.have_::zi z35::z3)] [] z41 [])∧Bc z51 ((Fp 101 z34 z13 (.tup []) z15)∧Lf (.tup []) (.tup []) z19 z7) (Bc z38 (Bc z39 ((Fp 101 z34 z13 (.tup []) z15)∧Lf (.tup []) (.tup []) z19 z7) z11) z11)) (Bc z38 (Bc z39 ((Fp 101 z34 z13 (.tup []) z15)∧Lf (.tup []) (.tup []) z19 z7) z11) z11)) ((z60=true)∧(Fp 265 z37 z30 (.tup []) z24)∧Lf (.tup []) (.tup []) z24 z7))) (Bc z52 ((Fp 264 [.agg z59,vI b] [] z32 [])∧Bc z55 ((Fp 101 z57 z23 (.tup []) z31)∧Lf (.tup []) (.tup []) z36 z7) (Bc z56 (Bc z61 ((Fp 152 [.agg (.seq .shp m.d.plan.shapes::zi m.d.plan.root::zi m.d.plan.deep::zi m.d.plan.most::zi m.d.mode:: .seq .lev m.d.stack:: .int .u64 z10.1.bits::zi z10.1.have_::zi z35::z3)] [] z41 [])∧Bc z51 ((Fp 101 z34 z13 (.tup []) z15)∧Lf (.tup []) (.tup []) z19 z7) (Bc z38 (Bc z39 ((Fp 101 z34 z13 (.tup []) z15)∧Lf (.tup []) (.tup []) z19 z7) z11) z11)) (Bc z38 (Bc z39 ((Fp 101 z34 z13 (.tup []) z15)∧Lf (.tup []) (.tup []) z19 z7) z11) z11)) ((z60=false)∧(z52=true)∧(Fp 266 z37 z30 (.tup []) z28)∧Lf (.tup []) (.tup []) z28 z7))) (Bc z58 ((Fp 264 [.agg z59,vI b] [] z32 [])∧Bc z55 ((Fp 101 z57 z23 (.tup []) z31)∧Lf (.tup []) (.tup []) z36 z7) (Bc z56 (Bc z61 ((Fp 152 [.agg (.seq .shp m.d.plan.shapes::zi m.d.plan.root::zi m.d.plan.deep::zi m.d.plan.most::zi m.d.mode:: .seq .lev m.d.stack:: .int .u64 z10.1.bits::zi z10.1.have_::zi z35::z3)] [] z41 [])∧Bc z51 ((Fp 101 z34 z13 (.tup []) z15)∧Lf (.tup []) (.tup []) z19 z7) (Bc z38 (Bc z39 ((Fp 101 z34 z13 (.tup []) z15)∧Lf (.tup []) (.tup []) z19 z7) z11) z11)) (Bc z38 (Bc z39 ((Fp 101 z34 z13 (.tup []) z15)∧Lf (.tup []) (.tup []) z19 z7) z11) z11)) ((z60=false)∧(z52=false)∧(z58=true)∧(Fp 267 z37 z30 (.tup []) z26)∧Lf (.tup []) (.tup []) z26 z7))) ((Fp 264 [.agg z59,vI b] [] z32 [])∧Bc z55 ((Fp 101 z57 z53 (.tup []) z21)∧Lf (.tup []) (.tup []) z40 z7) (Bc z56 (Bc z61 ((Fp 152 [.agg (.seq .shp m.d.plan.shapes::zi m.d.plan.root::zi m.d.plan.deep::zi m.d.plan.most::zi m.d.mode:: .seq .lev m.d.stack:: .int .u64 z10.1.bits::zi z10.1.have_::zi m.d.start::z3)] [] z41 [])∧Bc z51 ((Fp 101 z34 z16 (.tup []) z17)∧Lf (.tup []) (.tup []) z22 z7) (Bc z38 (Bc z39 ((Fp 101 z34 z16 (.tup []) z17)∧Lf (.tup []) (.tup []) z22 z7) z12) z12)) (Bc z38 (Bc z39 ((Fp 101 z34 z16 (.tup []) z17)∧Lf (.tup []) (.tup []) z22 z7) z12) z12)) ((z60=false)∧(z52=false)∧(z58=false)∧(Fp 263 z37 z18 (.tup []) z33)∧(Fp 216 [vP 0] z49 (.tup []) z20)∧Lf (.tup []) (.tup []) z20 z7)))))) ((Fp 264 [.agg z59,vI b] [] z32 [])∧Bc z55 ((Fp 101 z57 z53 (.tup []) z21)∧Lf (.tup []) (.tup []) z40 z7) (Bc z56 (Bc z61 ((Fp 152 [.agg (.seq .shp m.d.plan.shapes::zi m.d.plan.root::zi m.d.plan.deep::zi m.d.plan.most::zi m.d.mode:: .seq .lev m.d.stack:: .int .u64 z10.1.bits::zi z10.1.have_::zi m.d.start::z3)] [] z41 [])∧Bc z51 ((Fp 101 z34 z16 (.tup []) z17)∧Lf (.tup []) (.tup []) z22 z7) (Bc z38 (Bc z39 ((Fp 101 z34 z16 (.tup []) z17)∧Lf (.tup []) (.tup []) z22 z7) z12) z12)) (Bc z38 (Bc z39 ((Fp 101 z34 z16 (.tup []) z17)∧Lf (.tup []) (.tup []) z22 z7) z12) z12)) (Bc z60 ((Fp 265 z37 z18 (.tup []) z25)∧Lf (.tup []) (.tup []) z25 z7) (Bc z52 ((Fp 266 z37 z18 (.tup []) z29)∧Lf (.tup []) (.tup []) z29 z7) (Bc z58 ((Fp 267 z37 z18 (.tup []) z27)∧Lf (.tup []) (.tup []) z27 z7) ((Fp 263 z37 z18 (.tup []) z33)∧(Fp 216 [vP 0] z49 (.tup []) z20)∧Lf (.tup []) (.tup []) z20 z7)))))))) Q4 ?_
 refine⟨(Ac Q2 Q2),dsp (fun h1 p1=>?_) fun h1 p1=>?_⟩
 refine dsp (fun h2 p2=>?_) fun h2 p2=>?_
 refine⟨(Lx m.d.scan _ Q2),dsp (fun h3 p3=>?_) fun h3 p3=>?_⟩
 refine zE (Bp m b ((m).d.at_-1)) (A0 (⟨(⟨m.d.plan,m.d.mode,m.d.stack,m.d.scan,m.d.at_-1,m.d.at_,m.d.field,m.d.wire,m.d.want,m.d.utf,m.d.end_⟩:Dcd),m.out⟩:Mac) 1 (m.d.at_-1)) (fun hm1=>⟨(Cb (⟨(⟨m.d.plan,m.d.mode,m.d.stack,m.d.scan,m.d.at_-1,m.d.at_,m.d.field,m.d.wire,m.d.want,m.d.utf,m.d.end_⟩:Dcd),m.out⟩:Mac) _ _ Q7),rfl,Q6⟩) ?_
 rotate_left
 refine dsp (fun h4 p4=>?_) fun h4 p4=>?_
 refine⟨fun h5=>have q5:=Ao h5;have p5:=of_decide_eq_false q5;?_,fun h5=>have q5:=An h5;have p5:=of_decide_eq_true q5;?_⟩
 refine⟨(Dz (⟨m.d.plan,m.d.mode,m.d.stack,(Ag m.d.scan b).1,m.d.at_-1,m.d.at_,m.d.field,m.d.wire,m.d.want,m.d.utf,m.d.end_⟩:Dcd) Q7),dsp (fun h6 p6=>?_) fun h6 p6=>?_⟩
 refine zE (Bp m b ((m).d.at_-1)) (A0 (⟨(⟨m.d.plan,m.d.mode,m.d.stack,(Ag m.d.scan b).1,m.d.at_-1,m.d.at_,m.d.field,m.d.wire,m.d.want,m.d.utf,m.d.end_⟩:Dcd),m.out⟩:Mac) 9 m.d.at_) (fun hm1=>⟨(Cb (⟨(⟨m.d.plan,m.d.mode,m.d.stack,(Ag m.d.scan b).1,m.d.at_-1,m.d.at_,m.d.field,m.d.wire,m.d.want,m.d.utf,m.d.end_⟩:Dcd),m.out⟩:Mac) _ _ Q7),rfl,Q6⟩) ?_
 rotate_left
 refine dsp (fun h7 p7=>?_) fun h7 p7=>?_
 refine dsp (fun h8 p8=>?_) fun h8 p8=>?_
 refine zE (Bp m b ((m).d.at_-1)) (A0 (⟨(⟨m.d.plan,m.d.mode,m.d.stack,(Ag m.d.scan b).1,m.d.at_-1,m.d.at_,m.d.field,m.d.wire,m.d.want,m.d.utf,m.d.end_⟩:Dcd),m.out⟩:Mac) 9 m.d.at_) (fun hm1=>⟨(Cb (⟨(⟨m.d.plan,m.d.mode,m.d.stack,(Ag m.d.scan b).1,m.d.at_-1,m.d.at_,m.d.field,m.d.wire,m.d.want,m.d.utf,m.d.end_⟩:Dcd),m.out⟩:Mac) _ _ Q7),rfl,Q6⟩) ?_
 rotate_left
 refine zE (Bp m b ((m).d.at_-1)) (⟨(⟨m.d.plan,m.d.mode,m.d.stack,(Ag m.d.scan b).1,m.d.at_-1,m.d.at_,m.d.field,m.d.wire,m.d.want,m.d.utf,m.d.end_⟩:Dcd),m.out⟩:Mac) (fun hm1=>⟨rfl,Q6⟩) ?_
 rotate_left
 refine zE (Bp m b ((m).d.at_-1)) (⟨(⟨m.d.plan,m.d.mode,m.d.stack,(Ag m.d.scan b).1,m.d.at_-1,m.d.at_,m.d.field,m.d.wire,m.d.want,m.d.utf,m.d.end_⟩:Dcd),m.out⟩:Mac) (fun hm1=>⟨rfl,Q6⟩) ?_
 rotate_left
 refine dsp (fun h6 p6=>?_) fun h6 p6=>?_
 refine dsp (fun h7 p7=>?_) fun h7 p7=>?_
 refine zE (Bp m b ((m).d.at_-1)) (A0 (⟨(⟨m.d.plan,m.d.mode,m.d.stack,(Ag m.d.scan b).1,m.d.at_-1,m.d.at_,m.d.field,m.d.wire,m.d.want,m.d.utf,m.d.end_⟩:Dcd),m.out⟩:Mac) 9 m.d.at_) (fun hm1=>⟨(Cb (⟨(⟨m.d.plan,m.d.mode,m.d.stack,(Ag m.d.scan b).1,m.d.at_-1,m.d.at_,m.d.field,m.d.wire,m.d.want,m.d.utf,m.d.end_⟩:Dcd),m.out⟩:Mac) _ _ Q7),rfl,Q6⟩) ?_
 rotate_left
 refine zE (Bp m b ((m).d.at_-1)) (⟨(⟨m.d.plan,m.d.mode,m.d.stack,(Ag m.d.scan b).1,m.d.at_-1,m.d.at_,m.d.field,m.d.wire,m.d.want,m.d.utf,m.d.end_⟩:Dcd),m.out⟩:Mac) (fun hm1=>⟨rfl,Q6⟩) ?_
 rotate_left
 refine zE (Bp m b ((m).d.at_-1)) (⟨(⟨m.d.plan,m.d.mode,m.d.stack,(Ag m.d.scan b).1,m.d.at_-1,m.d.at_,m.d.field,m.d.wire,m.d.want,m.d.utf,m.d.end_⟩:Dcd),m.out⟩:Mac) (fun hm1=>⟨rfl,Q6⟩) ?_
 rotate_left
 refine zE (Bp m b ((m).d.at_-1)) (Cu (⟨(⟨m.d.plan,m.d.mode,m.d.stack,(⟨0,0⟩:Scn),m.d.at_-1,m.d.at_,m.d.field,m.d.wire,m.d.want,m.d.utf,m.d.end_⟩:Dcd),m.out⟩:Mac) (Ag m.d.scan b).1.bits) (fun hm1=>⟨h2,(Afx (⟨(⟨m.d.plan,m.d.mode,m.d.stack,(⟨0,0⟩:Scn),m.d.at_-1,m.d.at_,m.d.field,m.d.wire,m.d.want,m.d.utf,m.d.end_⟩:Dcd),m.out⟩:Mac) _ (Q23) Q7 Q2),rfl,Q6⟩) ?_
 rotate_left
 refine dsp (fun h3 p3=>?_) fun h3 p3=>?_
 refine⟨(Lx m.d.scan _ Q2),dsp (fun h4 p4=>?_) fun h4 p4=>?_⟩
 refine zE (Bp m b ((m).d.at_-1)) (A0 (⟨(⟨m.d.plan,m.d.mode,m.d.stack,m.d.scan,m.d.at_-1,m.d.at_,m.d.field,m.d.wire,m.d.want,m.d.utf,m.d.end_⟩:Dcd),m.out⟩:Mac) 1 (m.d.at_-1)) (fun hm1=>⟨(Cb (⟨(⟨m.d.plan,m.d.mode,m.d.stack,m.d.scan,m.d.at_-1,m.d.at_,m.d.field,m.d.wire,m.d.want,m.d.utf,m.d.end_⟩:Dcd),m.out⟩:Mac) _ _ Q7),rfl,Q6⟩) ?_
 rotate_left
 refine dsp (fun h5 p5=>?_) fun h5 p5=>?_
 refine⟨fun h6=>have q6:=Ao h6;have p6:=of_decide_eq_false q6;?_,fun h6=>have q6:=An h6;have p6:=of_decide_eq_true q6;?_⟩
 refine⟨(Dz (⟨m.d.plan,m.d.mode,m.d.stack,(Ag m.d.scan b).1,m.d.at_-1,m.d.at_,m.d.field,m.d.wire,m.d.want,m.d.utf,m.d.end_⟩:Dcd) Q7),dsp (fun h7 p7=>?_) fun h7 p7=>?_⟩
 refine zE (Bp m b ((m).d.at_-1)) (A0 (⟨(⟨m.d.plan,m.d.mode,m.d.stack,(Ag m.d.scan b).1,m.d.at_-1,m.d.at_,m.d.field,m.d.wire,m.d.want,m.d.utf,m.d.end_⟩:Dcd),m.out⟩:Mac) 9 m.d.at_) (fun hm1=>⟨(Cb (⟨(⟨m.d.plan,m.d.mode,m.d.stack,(Ag m.d.scan b).1,m.d.at_-1,m.d.at_,m.d.field,m.d.wire,m.d.want,m.d.utf,m.d.end_⟩:Dcd),m.out⟩:Mac) _ _ Q7),rfl,Q6⟩) ?_
 rotate_left
 refine dsp (fun h8 p8=>?_) fun h8 p8=>?_
 refine dsp (fun h9 p9=>?_) fun h9 p9=>?_
 refine zE (Bp m b ((m).d.at_-1)) (A0 (⟨(⟨m.d.plan,m.d.mode,m.d.stack,(Ag m.d.scan b).1,m.d.at_-1,m.d.at_,m.d.field,m.d.wire,m.d.want,m.d.utf,m.d.end_⟩:Dcd),m.out⟩:Mac) 9 m.d.at_) (fun hm1=>⟨(Cb (⟨(⟨m.d.plan,m.d.mode,m.d.stack,(Ag m.d.scan b).1,m.d.at_-1,m.d.at_,m.d.field,m.d.wire,m.d.want,m.d.utf,m.d.end_⟩:Dcd),m.out⟩:Mac) _ _ Q7),rfl,Q6⟩) ?_
 rotate_left
 refine zE (Bp m b ((m).d.at_-1)) (⟨(⟨m.d.plan,m.d.mode,m.d.stack,(Ag m.d.scan b).1,m.d.at_-1,m.d.at_,m.d.field,m.d.wire,m.d.want,m.d.utf,m.d.end_⟩:Dcd),m.out⟩:Mac) (fun hm1=>⟨rfl,Q6⟩) ?_
 rotate_left
 refine zE (Bp m b ((m).d.at_-1)) (⟨(⟨m.d.plan,m.d.mode,m.d.stack,(Ag m.d.scan b).1,m.d.at_-1,m.d.at_,m.d.field,m.d.wire,m.d.want,m.d.utf,m.d.end_⟩:Dcd),m.out⟩:Mac) (fun hm1=>⟨rfl,Q6⟩) ?_
 rotate_left
 refine dsp (fun h7 p7=>?_) fun h7 p7=>?_
 refine dsp (fun h8 p8=>?_) fun h8 p8=>?_
 refine zE (Bp m b ((m).d.at_-1)) (A0 (⟨(⟨m.d.plan,m.d.mode,m.d.stack,(Ag m.d.scan b).1,m.d.at_-1,m.d.at_,m.d.field,m.d.wire,m.d.want,m.d.utf,m.d.end_⟩:Dcd),m.out⟩:Mac) 9 m.d.at_) (fun hm1=>⟨(Cb (⟨(⟨m.d.plan,m.d.mode,m.d.stack,(Ag m.d.scan b).1,m.d.at_-1,m.d.at_,m.d.field,m.d.wire,m.d.want,m.d.utf,m.d.end_⟩:Dcd),m.out⟩:Mac) _ _ Q7),rfl,Q6⟩) ?_
 rotate_left
 refine zE (Bp m b ((m).d.at_-1)) (⟨(⟨m.d.plan,m.d.mode,m.d.stack,(Ag m.d.scan b).1,m.d.at_-1,m.d.at_,m.d.field,m.d.wire,m.d.want,m.d.utf,m.d.end_⟩:Dcd),m.out⟩:Mac) (fun hm1=>⟨rfl,Q6⟩) ?_
 rotate_left
 refine zE (Bp m b ((m).d.at_-1)) (⟨(⟨m.d.plan,m.d.mode,m.d.stack,(Ag m.d.scan b).1,m.d.at_-1,m.d.at_,m.d.field,m.d.wire,m.d.want,m.d.utf,m.d.end_⟩:Dcd),m.out⟩:Mac) (fun hm1=>⟨rfl,Q6⟩) ?_
 rotate_left
 refine zE (Bp m b ((m).d.at_-1)) (Ea (⟨(⟨m.d.plan,m.d.mode,m.d.stack,(⟨0,0⟩:Scn),m.d.at_-1,m.d.at_,m.d.field,m.d.wire,m.d.want,m.d.utf,m.d.end_⟩:Dcd),m.out⟩:Mac) (Ag m.d.scan b).1.bits) (fun hm1=>⟨h2,h3,(Amg (⟨(⟨m.d.plan,m.d.mode,m.d.stack,(⟨0,0⟩:Scn),m.d.at_-1,m.d.at_,m.d.field,m.d.wire,m.d.want,m.d.utf,m.d.end_⟩:Dcd),m.out⟩:Mac) _ (Q23) Q7 Q2),rfl,Q6⟩) ?_
 rotate_left
 refine dsp (fun h4 p4=>?_) fun h4 p4=>?_
 refine⟨(Lx m.d.scan _ Q2),dsp (fun h5 p5=>?_) fun h5 p5=>?_⟩
 refine zE (Bp m b ((m).d.at_-1)) (A0 (⟨(⟨m.d.plan,m.d.mode,m.d.stack,m.d.scan,m.d.at_-1,m.d.at_,m.d.field,m.d.wire,m.d.want,m.d.utf,m.d.end_⟩:Dcd),m.out⟩:Mac) 1 (m.d.at_-1)) (fun hm1=>⟨(Cb (⟨(⟨m.d.plan,m.d.mode,m.d.stack,m.d.scan,m.d.at_-1,m.d.at_,m.d.field,m.d.wire,m.d.want,m.d.utf,m.d.end_⟩:Dcd),m.out⟩:Mac) _ _ Q7),rfl,Q6⟩) ?_
 rotate_left
 refine dsp (fun h6 p6=>?_) fun h6 p6=>?_
 refine⟨fun h7=>have q7:=Ao h7;have p7:=of_decide_eq_false q7;?_,fun h7=>have q7:=An h7;have p7:=of_decide_eq_true q7;?_⟩
 refine⟨(Dz (⟨m.d.plan,m.d.mode,m.d.stack,(Ag m.d.scan b).1,m.d.at_-1,m.d.at_,m.d.field,m.d.wire,m.d.want,m.d.utf,m.d.end_⟩:Dcd) Q7),dsp (fun h8 p8=>?_) fun h8 p8=>?_⟩
 refine zE (Bp m b ((m).d.at_-1)) (A0 (⟨(⟨m.d.plan,m.d.mode,m.d.stack,(Ag m.d.scan b).1,m.d.at_-1,m.d.at_,m.d.field,m.d.wire,m.d.want,m.d.utf,m.d.end_⟩:Dcd),m.out⟩:Mac) 9 m.d.at_) (fun hm1=>⟨(Cb (⟨(⟨m.d.plan,m.d.mode,m.d.stack,(Ag m.d.scan b).1,m.d.at_-1,m.d.at_,m.d.field,m.d.wire,m.d.want,m.d.utf,m.d.end_⟩:Dcd),m.out⟩:Mac) _ _ Q7),rfl,Q6⟩) ?_
 rotate_left
 refine dsp (fun h9 p9=>?_) fun h9 p9=>?_
 refine dsp (fun h10 p10=>?_) fun h10 p10=>?_
 refine zE (Bp m b ((m).d.at_-1)) (A0 (⟨(⟨m.d.plan,m.d.mode,m.d.stack,(Ag m.d.scan b).1,m.d.at_-1,m.d.at_,m.d.field,m.d.wire,m.d.want,m.d.utf,m.d.end_⟩:Dcd),m.out⟩:Mac) 9 m.d.at_) (fun hm1=>⟨(Cb (⟨(⟨m.d.plan,m.d.mode,m.d.stack,(Ag m.d.scan b).1,m.d.at_-1,m.d.at_,m.d.field,m.d.wire,m.d.want,m.d.utf,m.d.end_⟩:Dcd),m.out⟩:Mac) _ _ Q7),rfl,Q6⟩) ?_
 rotate_left
 refine zE (Bp m b ((m).d.at_-1)) (⟨(⟨m.d.plan,m.d.mode,m.d.stack,(Ag m.d.scan b).1,m.d.at_-1,m.d.at_,m.d.field,m.d.wire,m.d.want,m.d.utf,m.d.end_⟩:Dcd),m.out⟩:Mac) (fun hm1=>⟨rfl,Q6⟩) ?_
 rotate_left
 refine zE (Bp m b ((m).d.at_-1)) (⟨(⟨m.d.plan,m.d.mode,m.d.stack,(Ag m.d.scan b).1,m.d.at_-1,m.d.at_,m.d.field,m.d.wire,m.d.want,m.d.utf,m.d.end_⟩:Dcd),m.out⟩:Mac) (fun hm1=>⟨rfl,Q6⟩) ?_
 rotate_left
 refine dsp (fun h8 p8=>?_) fun h8 p8=>?_
 refine dsp (fun h9 p9=>?_) fun h9 p9=>?_
 refine zE (Bp m b ((m).d.at_-1)) (A0 (⟨(⟨m.d.plan,m.d.mode,m.d.stack,(Ag m.d.scan b).1,m.d.at_-1,m.d.at_,m.d.field,m.d.wire,m.d.want,m.d.utf,m.d.end_⟩:Dcd),m.out⟩:Mac) 9 m.d.at_) (fun hm1=>⟨(Cb (⟨(⟨m.d.plan,m.d.mode,m.d.stack,(Ag m.d.scan b).1,m.d.at_-1,m.d.at_,m.d.field,m.d.wire,m.d.want,m.d.utf,m.d.end_⟩:Dcd),m.out⟩:Mac) _ _ Q7),rfl,Q6⟩) ?_
 rotate_left
 refine zE (Bp m b ((m).d.at_-1)) (⟨(⟨m.d.plan,m.d.mode,m.d.stack,(Ag m.d.scan b).1,m.d.at_-1,m.d.at_,m.d.field,m.d.wire,m.d.want,m.d.utf,m.d.end_⟩:Dcd),m.out⟩:Mac) (fun hm1=>⟨rfl,Q6⟩) ?_
 rotate_left
 refine zE (Bp m b ((m).d.at_-1)) (⟨(⟨m.d.plan,m.d.mode,m.d.stack,(Ag m.d.scan b).1,m.d.at_-1,m.d.at_,m.d.field,m.d.wire,m.d.want,m.d.utf,m.d.end_⟩:Dcd),m.out⟩:Mac) (fun hm1=>⟨rfl,Q6⟩) ?_
 rotate_left
 refine zE (Bp m b ((m).d.at_-1)) (Cn (⟨(⟨m.d.plan,m.d.mode,m.d.stack,(⟨0,0⟩:Scn),m.d.at_-1,m.d.at_,m.d.field,m.d.wire,m.d.want,m.d.utf,m.d.end_⟩:Dcd),m.out⟩:Mac) (Ag m.d.scan b).1.bits) (fun hm1=>⟨h2,h3,h4,(Ai8 (⟨(⟨m.d.plan,m.d.mode,m.d.stack,(⟨0,0⟩:Scn),m.d.at_-1,m.d.at_,m.d.field,m.d.wire,m.d.want,m.d.utf,m.d.end_⟩:Dcd),m.out⟩:Mac) _ (Q23) Q7 Q2 (hp1.kn)),rfl,Q6⟩) ?_
 rotate_left
 refine⟨(Lx m.d.scan _ Q2),dsp (fun h5 p5=>?_) fun h5 p5=>?_⟩
 refine zE (Bp m b ((m).d.at_-1)) (A0 m 1 (m.d.at_-1)) (fun hm1=>⟨(Cb m _ _ Q2),rfl,Q6⟩) ?_
 rotate_left
 refine dsp (fun h6 p6=>?_) fun h6 p6=>?_
 refine⟨fun h7=>have q7:=Ao h7;have p7:=of_decide_eq_false q7;?_,fun h7=>have q7:=An h7;have p7:=of_decide_eq_true q7;?_⟩
 refine⟨(Dz (⟨m.d.plan,m.d.mode,m.d.stack,(Ag m.d.scan b).1,m.d.start,m.d.at_,m.d.field,m.d.wire,m.d.want,m.d.utf,m.d.end_⟩:Dcd) Q7),dsp (fun h8 p8=>?_) fun h8 p8=>?_⟩
 refine zE (Bp m b ((m).d.at_-1)) (A0 (⟨(⟨m.d.plan,m.d.mode,m.d.stack,(Ag m.d.scan b).1,m.d.start,m.d.at_,m.d.field,m.d.wire,m.d.want,m.d.utf,m.d.end_⟩:Dcd),m.out⟩:Mac) 9 m.d.at_) (fun hm1=>⟨(Cb (⟨(⟨m.d.plan,m.d.mode,m.d.stack,(Ag m.d.scan b).1,m.d.start,m.d.at_,m.d.field,m.d.wire,m.d.want,m.d.utf,m.d.end_⟩:Dcd),m.out⟩:Mac) _ _ Q7),rfl,Q6⟩) ?_
 rotate_left
 refine dsp (fun h9 p9=>?_) fun h9 p9=>?_
 refine dsp (fun h10 p10=>?_) fun h10 p10=>?_
 refine zE (Bp m b ((m).d.at_-1)) (A0 (⟨(⟨m.d.plan,m.d.mode,m.d.stack,(Ag m.d.scan b).1,m.d.start,m.d.at_,m.d.field,m.d.wire,m.d.want,m.d.utf,m.d.end_⟩:Dcd),m.out⟩:Mac) 9 m.d.at_) (fun hm1=>⟨(Cb (⟨(⟨m.d.plan,m.d.mode,m.d.stack,(Ag m.d.scan b).1,m.d.start,m.d.at_,m.d.field,m.d.wire,m.d.want,m.d.utf,m.d.end_⟩:Dcd),m.out⟩:Mac) _ _ Q7),rfl,Q6⟩) ?_
 rotate_left
 refine zE (Bp m b ((m).d.at_-1)) (⟨(⟨m.d.plan,m.d.mode,m.d.stack,(Ag m.d.scan b).1,m.d.start,m.d.at_,m.d.field,m.d.wire,m.d.want,m.d.utf,m.d.end_⟩:Dcd),m.out⟩:Mac) (fun hm1=>⟨rfl,Q6⟩) ?_
 rotate_left
 refine zE (Bp m b ((m).d.at_-1)) (⟨(⟨m.d.plan,m.d.mode,m.d.stack,(Ag m.d.scan b).1,m.d.start,m.d.at_,m.d.field,m.d.wire,m.d.want,m.d.utf,m.d.end_⟩:Dcd),m.out⟩:Mac) (fun hm1=>⟨rfl,Q6⟩) ?_
 rotate_left
 refine dsp (fun h8 p8=>?_) fun h8 p8=>?_
 refine dsp (fun h9 p9=>?_) fun h9 p9=>?_
 refine zE (Bp m b ((m).d.at_-1)) (A0 (⟨(⟨m.d.plan,m.d.mode,m.d.stack,(Ag m.d.scan b).1,m.d.start,m.d.at_,m.d.field,m.d.wire,m.d.want,m.d.utf,m.d.end_⟩:Dcd),m.out⟩:Mac) 9 m.d.at_) (fun hm1=>⟨(Cb (⟨(⟨m.d.plan,m.d.mode,m.d.stack,(Ag m.d.scan b).1,m.d.start,m.d.at_,m.d.field,m.d.wire,m.d.want,m.d.utf,m.d.end_⟩:Dcd),m.out⟩:Mac) _ _ Q7),rfl,Q6⟩) ?_
 rotate_left
 refine zE (Bp m b ((m).d.at_-1)) (⟨(⟨m.d.plan,m.d.mode,m.d.stack,(Ag m.d.scan b).1,m.d.start,m.d.at_,m.d.field,m.d.wire,m.d.want,m.d.utf,m.d.end_⟩:Dcd),m.out⟩:Mac) (fun hm1=>⟨rfl,Q6⟩) ?_
 rotate_left
 refine zE (Bp m b ((m).d.at_-1)) (⟨(⟨m.d.plan,m.d.mode,m.d.stack,(Ag m.d.scan b).1,m.d.start,m.d.at_,m.d.field,m.d.wire,m.d.want,m.d.utf,m.d.end_⟩:Dcd),m.out⟩:Mac) (fun hm1=>⟨rfl,Q6⟩) ?_
 rotate_left
 refine zE (Bp m b ((m).d.at_-1)) (Ae (Bm (⟨(⟨m.d.plan,m.d.mode,m.d.stack,(⟨0,0⟩:Scn),m.d.start,m.d.at_,m.d.field,m.d.wire,m.d.want,m.d.utf,m.d.end_⟩:Dcd),m.out⟩:Mac) (Ag m.d.scan b).1.bits)) (fun hm1=>⟨h2,h3,h4,(Aa0 (⟨(⟨m.d.plan,m.d.mode,m.d.stack,(⟨0,0⟩:Scn),m.d.start,m.d.at_,m.d.field,m.d.wire,m.d.want,m.d.utf,m.d.end_⟩:Dcd),m.out⟩:Mac) _ Q7 Q2),(D7 (Bm (⟨(⟨m.d.plan,m.d.mode,m.d.stack,(⟨0,0⟩:Scn),m.d.start,m.d.at_,m.d.field,m.d.wire,m.d.want,m.d.utf,m.d.end_⟩:Dcd),m.out⟩:Mac) (Ag m.d.scan b).1.bits) (Q23) (Nat.le_trans (Fe _ _) Q68)),rfl,Q6⟩) ?_
 rotate_left
 refine⟨(Lx m.d.scan _ Q2),dsp (fun h2 p2=>?_) fun h2 p2=>?_⟩
 refine zE (Bp m b ((m).d.at_-1)) (A0 m 1 (m.d.at_-1)) (fun hm1=>⟨(Cb m _ _ Q2),rfl,Q6⟩) ?_
 rotate_left
 refine dsp (fun h3 p3=>?_) fun h3 p3=>?_
 refine⟨fun h4=>have q4:=Ao h4;have p4:=of_decide_eq_false q4;?_,fun h4=>have q4:=An h4;have p4:=of_decide_eq_true q4;?_⟩
 refine⟨(Dz (⟨m.d.plan,m.d.mode,m.d.stack,(Ag m.d.scan b).1,m.d.start,m.d.at_,m.d.field,m.d.wire,m.d.want,m.d.utf,m.d.end_⟩:Dcd) Q7),dsp (fun h5 p5=>?_) fun h5 p5=>?_⟩
 refine zE (Bp m b ((m).d.at_-1)) (A0 (⟨(⟨m.d.plan,m.d.mode,m.d.stack,(Ag m.d.scan b).1,m.d.start,m.d.at_,m.d.field,m.d.wire,m.d.want,m.d.utf,m.d.end_⟩:Dcd),m.out⟩:Mac) 9 m.d.at_) (fun hm1=>⟨(Cb (⟨(⟨m.d.plan,m.d.mode,m.d.stack,(Ag m.d.scan b).1,m.d.start,m.d.at_,m.d.field,m.d.wire,m.d.want,m.d.utf,m.d.end_⟩:Dcd),m.out⟩:Mac) _ _ Q7),rfl,Q6⟩) ?_
 rotate_left
 refine dsp (fun h6 p6=>?_) fun h6 p6=>?_
 refine dsp (fun h7 p7=>?_) fun h7 p7=>?_
 refine zE (Bp m b ((m).d.at_-1)) (A0 (⟨(⟨m.d.plan,m.d.mode,m.d.stack,(Ag m.d.scan b).1,m.d.start,m.d.at_,m.d.field,m.d.wire,m.d.want,m.d.utf,m.d.end_⟩:Dcd),m.out⟩:Mac) 9 m.d.at_) (fun hm1=>⟨(Cb (⟨(⟨m.d.plan,m.d.mode,m.d.stack,(Ag m.d.scan b).1,m.d.start,m.d.at_,m.d.field,m.d.wire,m.d.want,m.d.utf,m.d.end_⟩:Dcd),m.out⟩:Mac) _ _ Q7),rfl,Q6⟩) ?_
 rotate_left
 refine zE (Bp m b ((m).d.at_-1)) (⟨(⟨m.d.plan,m.d.mode,m.d.stack,(Ag m.d.scan b).1,m.d.start,m.d.at_,m.d.field,m.d.wire,m.d.want,m.d.utf,m.d.end_⟩:Dcd),m.out⟩:Mac) (fun hm1=>⟨rfl,Q6⟩) ?_
 rotate_left
 refine zE (Bp m b ((m).d.at_-1)) (⟨(⟨m.d.plan,m.d.mode,m.d.stack,(Ag m.d.scan b).1,m.d.start,m.d.at_,m.d.field,m.d.wire,m.d.want,m.d.utf,m.d.end_⟩:Dcd),m.out⟩:Mac) (fun hm1=>⟨rfl,Q6⟩) ?_
 rotate_left
 refine dsp (fun h5 p5=>?_) fun h5 p5=>?_
 refine dsp (fun h6 p6=>?_) fun h6 p6=>?_
 refine zE (Bp m b ((m).d.at_-1)) (A0 (⟨(⟨m.d.plan,m.d.mode,m.d.stack,(Ag m.d.scan b).1,m.d.start,m.d.at_,m.d.field,m.d.wire,m.d.want,m.d.utf,m.d.end_⟩:Dcd),m.out⟩:Mac) 9 m.d.at_) (fun hm1=>⟨(Cb (⟨(⟨m.d.plan,m.d.mode,m.d.stack,(Ag m.d.scan b).1,m.d.start,m.d.at_,m.d.field,m.d.wire,m.d.want,m.d.utf,m.d.end_⟩:Dcd),m.out⟩:Mac) _ _ Q7),rfl,Q6⟩) ?_
 rotate_left
 refine zE (Bp m b ((m).d.at_-1)) (⟨(⟨m.d.plan,m.d.mode,m.d.stack,(Ag m.d.scan b).1,m.d.start,m.d.at_,m.d.field,m.d.wire,m.d.want,m.d.utf,m.d.end_⟩:Dcd),m.out⟩:Mac) (fun hm1=>⟨rfl,Q6⟩) ?_
 rotate_left
 refine zE (Bp m b ((m).d.at_-1)) (⟨(⟨m.d.plan,m.d.mode,m.d.stack,(Ag m.d.scan b).1,m.d.start,m.d.at_,m.d.field,m.d.wire,m.d.want,m.d.utf,m.d.end_⟩:Dcd),m.out⟩:Mac) (fun hm1=>⟨rfl,Q6⟩) ?_
 rotate_left
 refine dsp (fun h4 p4=>?_) fun h4 p4=>?_
 refine zE (Bp m b ((m).d.at_-1)) (Cu (⟨(⟨m.d.plan,m.d.mode,m.d.stack,(⟨0,0⟩:Scn),m.d.start,m.d.at_,m.d.field,m.d.wire,m.d.want,m.d.utf,m.d.end_⟩:Dcd),m.out⟩:Mac) (Ag m.d.scan b).1.bits) (fun hm1=>⟨(Afx (⟨(⟨m.d.plan,m.d.mode,m.d.stack,(⟨0,0⟩:Scn),m.d.start,m.d.at_,m.d.field,m.d.wire,m.d.want,m.d.utf,m.d.end_⟩:Dcd),m.out⟩:Mac) _ (Q23) Q7 Q2),rfl,Q6⟩) ?_
 rotate_left
 refine dsp (fun h5 p5=>?_) fun h5 p5=>?_
 refine zE (Bp m b ((m).d.at_-1)) (Ea (⟨(⟨m.d.plan,m.d.mode,m.d.stack,(⟨0,0⟩:Scn),m.d.start,m.d.at_,m.d.field,m.d.wire,m.d.want,m.d.utf,m.d.end_⟩:Dcd),m.out⟩:Mac) (Ag m.d.scan b).1.bits) (fun hm1=>⟨(Amg (⟨(⟨m.d.plan,m.d.mode,m.d.stack,(⟨0,0⟩:Scn),m.d.start,m.d.at_,m.d.field,m.d.wire,m.d.want,m.d.utf,m.d.end_⟩:Dcd),m.out⟩:Mac) _ (Q23) Q7 Q2),rfl,Q6⟩) ?_
 rotate_left
 refine dsp (fun h6 p6=>?_) fun h6 p6=>?_
 refine zE (Bp m b ((m).d.at_-1)) (Cn (⟨(⟨m.d.plan,m.d.mode,m.d.stack,(⟨0,0⟩:Scn),m.d.start,m.d.at_,m.d.field,m.d.wire,m.d.want,m.d.utf,m.d.end_⟩:Dcd),m.out⟩:Mac) (Ag m.d.scan b).1.bits) (fun hm1=>⟨(Ai8 (⟨(⟨m.d.plan,m.d.mode,m.d.stack,(⟨0,0⟩:Scn),m.d.start,m.d.at_,m.d.field,m.d.wire,m.d.want,m.d.utf,m.d.end_⟩:Dcd),m.out⟩:Mac) _ (Q23) Q7 Q2 (hp1.kn)),rfl,Q6⟩) ?_
 rotate_left
 refine zE (Bp m b ((m).d.at_-1)) (Ae (Bm (⟨(⟨m.d.plan,m.d.mode,m.d.stack,(⟨0,0⟩:Scn),m.d.start,m.d.at_,m.d.field,m.d.wire,m.d.want,m.d.utf,m.d.end_⟩:Dcd),m.out⟩:Mac) (Ag m.d.scan b).1.bits)) (fun hm1=>⟨(Aa0 (⟨(⟨m.d.plan,m.d.mode,m.d.stack,(⟨0,0⟩:Scn),m.d.start,m.d.at_,m.d.field,m.d.wire,m.d.want,m.d.utf,m.d.end_⟩:Dcd),m.out⟩:Mac) _ Q7 Q2),(D7 (Bm (⟨(⟨m.d.plan,m.d.mode,m.d.stack,(⟨0,0⟩:Scn),m.d.start,m.d.at_,m.d.field,m.d.wire,m.d.want,m.d.utf,m.d.end_⟩:Dcd),m.out⟩:Mac) (Ag m.d.scan b).1.bits) (Q23) (Nat.le_trans (Fe _ _) Q68)),rfl,Q6⟩) ?_
 rotate_left
 all_goals first|(simp_all[Bp,Gj,Fq,Vo,A0,A8,scn0];done)|(grind[Bp,Gj,Fq,Vo,A0,A8,scn0])
theorem Sk (m:Mac) (b:Int) (hp1:MW (m).d) (hp2:List.length (m).out≤50000000) (hp3:(0:Int)≤b∧b≤255):Fun Tryz.prog 217 [vP 0,vI b] [.cells (Ab 1 2 3 m),.tree m.d.plan.shapes,.lst .lev m.d.stack,.lst .ev m.out] (.tup []) [.cells (Ab 4 5 6 (Dp m b)),.dead,.dead,.dead,.tree (Dp m b).d.plan.shapes,.lst .lev (Dp m b).d.stack,.lst .ev (Dp m b).out]:=by
 have hN:Bb=274877906944:=rfl
 have hlv:=B3 hp1.lv
 have hpt:=Cc hlv.1
 have htb:=G5 hp1.lv
 have hwm:=Aea m
 have hbb:=hp1.b0
 have hat:=hp1.at_
 have hwt:=hp1.want
 have hwd:=Jf m.d
 have hfb:=Zt (b:=b) hbb
 refine Ap Tryz.func217 Q4 Q4 (w:=let zi:Int→C:= .int .i64;let z3:List Blk:=[.cells (Ab 4 5 6 (Dp m b)),.dead,.dead,.dead,.tree (Dp m b).d.plan.shapes,.lst .lev (Dp m b).d.stack,.lst .ev (Dp m b).out];let z6:=Bt m.d.scan b;let z1:=Bm (⟨(⟨m.d.plan,m.d.mode,m.d.stack,(⟨0,0⟩:Scn),m.d.start,m.d.at_,m.d.field,m.d.wire,m.d.want,m.d.utf,m.d.end_⟩:Dcd),m.out⟩:Mac) z6.bits;let z2:List Blk:=[.cells (Ab 4 5 6 (Ae z1)),.dead,.dead,.dead,.tree (Ae z1).d.plan.shapes,.lst .lev (Ae z1).d.stack,.lst .ev (Ae z1).out];let z4:List Blk:=[.cells (Ab 1 2 3 z1),.tree z1.d.plan.shapes,.lst .lev z1.d.stack,.lst .ev z1.out];let z5:=A0 z1 9 z1.d.at_;let z7:List Blk:=[.cells (Ab 1 2 4 z1),.tree z1.d.plan.shapes,.lst .lev z1.d.stack,.dead,.lst .ev z1.out];let z8:List Blk:=[.cells (Ab 1 2 4 z5),.tree z5.d.plan.shapes,.lst .lev z5.d.stack,.dead,.lst .ev z5.out];(.seg [.ord [(0,true),(1,true),(2,true),(3,true),(5,true),(6,true),(7,true),(8,true),(9,true),(10,true),(4,false),(11,true),(12,true)] [],.call [] (.v (vI (Bs m.d))) [],.call [] (.v (.agg (Km z6))) []] (.br (.seg [.at 0,.cut 0 0,.cut 0 5,.cut 0 27] (.leaf () [0,1,2,3,4,5,6])) (.seg [.call [0,1,2,3] (.tup []) z7] (.br (.br (.br (.seg [.call [0,1,2,4] (.tup []) z8,.at 0,.cut 0 0,.cut 0 5] (.leaf () [0,1,2,3,6,7,5])) (.seg [.call [0,1,2,4] (.tup []) z2] (.leaf () [0,1,2,3,5,6,7]))) (.seg [.call [0,1,2,4] (.tup []) z2] (.leaf () [0,1,2,3,5,6,7]))) (.seg [.call [0,1,2,4] (.tup []) z2] (.leaf () [0,1,2,3,5,6,7]))))),(Fp 213 [.agg (Bu m.d)] [] (.v (vI (Bs m.d))) [])∧(Fp 262 [.agg (Km m.d.scan),vI b] [] (.v (.agg (Km z6))) [])∧Bc (decide (z6.have_<Bs m.d)) (Lf (.tup []) (.tup []) [.cells [.own 4,zi m.d.plan.root,zi m.d.plan.deep,zi m.d.plan.most,zi m.d.mode,.own 5,.int .u64 z6.bits,zi z6.have_,zi m.d.start,zi m.d.at_,zi m.d.field.number,zi m.d.field.kind,.bool m.d.field.rep,.bool m.d.field.packed,zi m.d.field.msg,zi m.d.wire,zi m.d.want,zi m.d.utf.want,zi m.d.utf.low,zi m.d.utf.high,zi m.d.end_.kind,zi m.d.end_.field,.int .u64 m.d.end_.bits,zi m.d.end_.len,.str m.d.end_.text,zi m.d.end_.code,zi m.d.end_.at_,.own 6],.dead,.dead,.dead,.tree m.d.plan.shapes,.lst .lev m.d.stack,.lst .ev m.out] z3) ((Fp 263 [vP 0,.c (.int .u64 z6.bits)] [.cells [.own 1,zi m.d.plan.root,zi m.d.plan.deep,zi m.d.plan.most,zi m.d.mode,.own 2,.int .u64 0,zi 0,zi m.d.start,zi m.d.at_,zi m.d.field.number,zi m.d.field.kind,.bool m.d.field.rep,.bool m.d.field.packed,zi m.d.field.msg,zi m.d.wire,zi m.d.want,zi m.d.utf.want,zi m.d.utf.low,zi m.d.utf.high,zi m.d.end_.kind,zi m.d.end_.field,.int .u64 m.d.end_.bits,zi m.d.end_.len,.str m.d.end_.text,zi m.d.end_.code,zi m.d.end_.at_,.own 3],.tree m.d.plan.shapes,.lst .lev m.d.stack,.lst .ev m.out] (.tup []) z7)∧Bc (decide (m.d.mode=8)) (Bc (decide (0<z1.d.want)) (Bc (decide (z1.d.want<Bs m.d)) ((Fp 101 [vP 0,vI 9,vI z1.d.at_] z4 (.tup []) z8)∧Lf (.tup []) (.tup []) [.cells (Ab 4 5 6 z5),.dead,.dead,.dead,.tree z5.d.plan.shapes,.lst .lev z5.d.stack,.lst .ev z5.out] z3) ((Fp 216 [vP 0] z4 (.tup []) z2)∧Lf (.tup []) (.tup []) z2 z3)) ((Fp 216 [vP 0] z4 (.tup []) z2)∧Lf (.tup []) (.tup []) z2 z3)) ((Fp 216 [vP 0] z4 (.tup []) z2)∧Lf (.tup []) (.tup []) z2 z3)))) Q4 ?_
 refine⟨(P8 m.d),(Afy m.d.scan _),dsp (fun h1 p1=>?_) fun h1 p1=>?_⟩
 refine zE (Dp m b) (⟨(⟨m.d.plan,m.d.mode,m.d.stack,(Bt m.d.scan b),m.d.start,m.d.at_,m.d.field,m.d.wire,m.d.want,m.d.utf,m.d.end_⟩:Dcd),m.out⟩:Mac) (fun hm1=>⟨rfl,Q6⟩) ?_
 rotate_left
 refine⟨(Aa0 (⟨(⟨m.d.plan,m.d.mode,m.d.stack,(⟨0,0⟩:Scn),m.d.start,m.d.at_,m.d.field,m.d.wire,m.d.want,m.d.utf,m.d.end_⟩:Dcd),m.out⟩:Mac) _ Q7 Q2),dsp (fun h2 p2=>?_) fun h2 p2=>?_⟩
 refine dsp (fun h3 p3=>?_) fun h3 p3=>?_
 refine dsp (fun h4 p4=>?_) fun h4 p4=>?_
 refine zE (Dp m b) (A0 (Bm (⟨(⟨m.d.plan,m.d.mode,m.d.stack,(⟨0,0⟩:Scn),m.d.start,m.d.at_,m.d.field,m.d.wire,m.d.want,m.d.utf,m.d.end_⟩:Dcd),m.out⟩:Mac) (Bt m.d.scan b).bits) 9 (Bm (⟨(⟨m.d.plan,m.d.mode,m.d.stack,(⟨0,0⟩:Scn),m.d.start,m.d.at_,m.d.field,m.d.wire,m.d.want,m.d.utf,m.d.end_⟩:Dcd),m.out⟩:Mac) (Bt m.d.scan b).bits).d.at_) (fun hm1=>⟨(Cb (Bm (⟨(⟨m.d.plan,m.d.mode,m.d.stack,(⟨0,0⟩:Scn),m.d.start,m.d.at_,m.d.field,m.d.wire,m.d.want,m.d.utf,m.d.end_⟩:Dcd),m.out⟩:Mac) (Bt m.d.scan b).bits) _ _ (Nat.le_trans (Fe _ _) Q68)),rfl,Q6⟩) ?_
 rotate_left
 refine zE (Dp m b) (Ae (Bm (⟨(⟨m.d.plan,m.d.mode,m.d.stack,(⟨0,0⟩:Scn),m.d.start,m.d.at_,m.d.field,m.d.wire,m.d.want,m.d.utf,m.d.end_⟩:Dcd),m.out⟩:Mac) (Bt m.d.scan b).bits)) (fun hm1=>⟨(D7 (Bm (⟨(⟨m.d.plan,m.d.mode,m.d.stack,(⟨0,0⟩:Scn),m.d.start,m.d.at_,m.d.field,m.d.wire,m.d.want,m.d.utf,m.d.end_⟩:Dcd),m.out⟩:Mac) (Bt m.d.scan b).bits) (Q23) (Nat.le_trans (Fe _ _) Q68)),rfl,Q6⟩) ?_
 rotate_left
 refine zE (Dp m b) (Ae (Bm (⟨(⟨m.d.plan,m.d.mode,m.d.stack,(⟨0,0⟩:Scn),m.d.start,m.d.at_,m.d.field,m.d.wire,m.d.want,m.d.utf,m.d.end_⟩:Dcd),m.out⟩:Mac) (Bt m.d.scan b).bits)) (fun hm1=>⟨(D7 (Bm (⟨(⟨m.d.plan,m.d.mode,m.d.stack,(⟨0,0⟩:Scn),m.d.start,m.d.at_,m.d.field,m.d.wire,m.d.want,m.d.utf,m.d.end_⟩:Dcd),m.out⟩:Mac) (Bt m.d.scan b).bits) (Q23) (Nat.le_trans (Fe _ _) Q68)),rfl,Q6⟩) ?_
 rotate_left
 refine zE (Dp m b) (Ae (Bm (⟨(⟨m.d.plan,m.d.mode,m.d.stack,(⟨0,0⟩:Scn),m.d.start,m.d.at_,m.d.field,m.d.wire,m.d.want,m.d.utf,m.d.end_⟩:Dcd),m.out⟩:Mac) (Bt m.d.scan b).bits)) (fun hm1=>⟨(D7 (Bm (⟨(⟨m.d.plan,m.d.mode,m.d.stack,(⟨0,0⟩:Scn),m.d.start,m.d.at_,m.d.field,m.d.wire,m.d.want,m.d.utf,m.d.end_⟩:Dcd),m.out⟩:Mac) (Bt m.d.scan b).bits) (Q23) (Nat.le_trans (Fe _ _) Q68)),rfl,Q6⟩) ?_
 rotate_left
 all_goals first|(simp_all[Dp,Fq,A0,A8,scn0,Se,Mu];done)|(grind[Dp,Fq,A0,A8,scn0,Se,Mu])
theorem Xm (m:Mac) (b:Int) (hp1:MW (m).d) (hp2:List.length (m).out≤50000000) (hp3:(0:Int)≤b∧b≤255):Fun Tryz.prog 215 [vP 0,vI b] [.cells (Ab 1 2 3 m),.tree m.d.plan.shapes,.lst .lev m.d.stack,.lst .ev m.out] (.tup []) [.cells (Ab 4 5 6 (Eg m b)),.dead,.dead,.dead,.tree (Eg m b).d.plan.shapes,.lst .lev (Eg m b).d.stack,.lst .ev (Eg m b).out]:=by
 have hN:Bb=274877906944:=rfl
 have hlv:=B3 hp1.lv
 have hpt:=Cc hlv.1
 have htb:=G5 hp1.lv
 have hwm:=Aea m
 have hbb:=hp1.b0
 have hat:=hp1.at_
 have hwt:=hp1.want
 have hwd:=Jf m.d
 refine Ap Tryz.func215 Q4 Q4 (w:=let zi:Int→C:= .int .i64;let z3:List C:=[zi 4,zi 0,.int .u64 0,zi 0,.str (List.map A9 [b]),zi 0,zi 0];let z6:=(⟨4,0,0,0,List.map A9 [b],0,0⟩:Ev);let z5:=Ae (⟨(m).d,(m).out++[z6]⟩:Mac);let z7:List Blk:=[.cells (Ab 4 5 6 (Eg m b)),.dead,.dead,.dead,.tree (Eg m b).d.plan.shapes,.lst .lev (Eg m b).d.stack,.lst .ev (Eg m b).out];let z11:List Blk:=[.cells (Ab 4 5 6 z5),.dead,.dead,.dead,.tree z5.d.plan.shapes,.lst .lev z5.d.stack,.lst .ev z5.out];let z12:List Blk:=[.cells (Ab 1 2 4 m),.tree (m).d.plan.shapes,.lst .lev (m).d.stack,.dead,.lst .ev ((m).out++[z6])];let z14:List Blk:=[.cells (Ab 1 2 3 m),.tree m.d.plan.shapes,.lst .lev m.d.stack,.lst .ev m.out];let z16:=(.v (.c (.int .u8 (IntKind.u8.wrap (b)))):S)= .v (.c (.int .u8 b));let z18:=Bq m.d.utf b;let z8:=z18.getD m.d.utf;let z1:List C:=[.own 1,zi m.d.plan.root,zi m.d.plan.deep,zi m.d.plan.most,zi m.d.mode,.own 2,.int .u64 m.d.scan.bits,zi m.d.scan.have_,zi m.d.start,zi m.d.at_,zi m.d.field.number,zi m.d.field.kind,.bool m.d.field.rep,.bool m.d.field.packed,zi m.d.field.msg,zi m.d.wire,zi m.d.want,zi z8.want,zi z8.low,zi z8.high,zi m.d.end_.kind,zi m.d.end_.field,.int .u64 m.d.end_.bits,zi m.d.end_.len,.str m.d.end_.text,zi m.d.end_.code,zi m.d.end_.at_,.own 4];let z2:List C:=[.own 1,zi m.d.plan.root,zi m.d.plan.deep,zi m.d.plan.most,zi m.d.mode,.own 2,.int .u64 m.d.scan.bits,zi m.d.scan.have_,zi m.d.start,zi m.d.at_,zi m.d.field.number,zi m.d.field.kind,.bool m.d.field.rep,.bool m.d.field.packed,zi m.d.field.msg,zi m.d.wire,zi m.d.want,zi z8.want,zi z8.low,zi z8.high,zi m.d.end_.kind,zi m.d.end_.field,.int .u64 m.d.end_.bits,zi m.d.end_.len,.str m.d.end_.text,zi m.d.end_.code,zi m.d.end_.at_,.own 3];let z4:=Ae (⟨(⟨m.d.plan,m.d.mode,m.d.stack,m.d.scan,m.d.start,m.d.at_,m.d.field,m.d.wire,m.d.want,z8,m.d.end_⟩:Dcd),m.out++[z6]⟩:Mac);let z10:List Blk:=[.cells (Ab 4 5 6 z4),.dead,.dead,.dead,.tree z4.d.plan.shapes,.lst .lev z4.d.stack,.lst .ev z4.out];let z15:List Blk:=[.cells z1,.tree m.d.plan.shapes,.lst .lev m.d.stack,.dead,.lst .ev (m.out++[z6])];let z17:S:= .tup [.agg (J8 z8),vB z18.isSome];let z19:=m.d.at_-1;let z9:=A0 m 5 z19;let z13:List Blk:=[.cells (Ab 1 2 4 z9),.tree z9.d.plan.shapes,.lst .lev z9.d.stack,.dead,.lst .ev z9.out];(.br (.seg [.call [] z17 []] (.br (.seg [.as 31 (.v (vI z19)),.call [0,1,2,3] (.tup []) z13,.at 0,.cut 0 0,.cut 0 5] (.leaf () [0,1,2,3,6,7,5])) (.seg [.as 40 (.v (.c (.int .u8 b))),.ty .u8,.call [0,1,2,3] (.tup []) z15,.call [0,1,2,6] (.tup []) z10] (.leaf () [0,1,2,3,7,8,9])))) (.seg [.as 40 (.v (.c (.int .u8 b))),.ty .u8,.call [0,1,2,3] (.tup []) z12,.call [0,1,2,5] (.tup []) z11] (.leaf () [0,1,2,3,6,7,8])),Bc (decide (m.d.field.kind=6)) ((Fp 243 [.agg (J8 m.d.utf),vI b] [] z17 [])∧Bc (!z18.isSome) ((wI z19)∧(Fp 101 [vP 0,vI 5,vI z19] z14 (.tup []) z13)∧Lf (.tup []) (.tup []) [.cells (Ab 4 5 6 z9),.dead,.dead,.dead,.tree z9.d.plan.shapes,.lst .lev z9.d.stack,.lst .ev z9.out] z7) (z16∧(Fp 100 [vP 0,.agg z3] [.cells z2,.tree m.d.plan.shapes,.lst .lev m.d.stack,.lst .ev m.out] (.tup []) z15)∧(Fp 216 [vP 0] [.cells z2,.tree m.d.plan.shapes,.lst .lev m.d.stack,.lst .ev (m.out++[z6])] (.tup []) z10)∧Lf (.tup []) (.tup []) z10 z7)) (z16∧(Fp 100 [vP 0,.agg z3] z14 (.tup []) z12)∧(Fp 216 [vP 0] [.cells (Ab 1 2 3 m),.tree (m).d.plan.shapes,.lst .lev (m).d.stack,.lst .ev ((m).out++[z6])] (.tup []) z11)∧Lf (.tup []) (.tup []) z11 z7))) Q4 ?_
 refine dsp (fun h1 p1=>?_) fun h1 p1=>?_
 refine⟨(Afq m.d.utf _),fun h2=>have q2:=Ao h2;?_,fun h2=>have q2:=An h2;?_⟩
 refine zE (Eg m b) (A0 m 5 (m.d.at_-1)) (fun hm1=>⟨(Ac Q2 Q2),(Cb m _ _ Q2),rfl,Q6⟩) ?_
 rotate_left
 refine zE (Eg m b) (Ae (⟨(⟨m.d.plan,m.d.mode,m.d.stack,m.d.scan,m.d.start,m.d.at_,m.d.field,m.d.wire,m.d.want,((Bq m.d.utf b).getD m.d.utf),m.d.end_⟩:Dcd),m.out++[(⟨4,0,0,0,List.map A9 [b],0,0⟩:Ev)]⟩:Mac)) (fun hm1=>⟨(Lr Q2 Q2),(Fn (⟨(⟨m.d.plan,m.d.mode,m.d.stack,m.d.scan,m.d.start,m.d.at_,m.d.field,m.d.wire,m.d.want,((Bq m.d.utf b).getD m.d.utf),m.d.end_⟩:Dcd),m.out⟩:Mac) (⟨4,0,0,0,List.map A9 [b],0,0⟩:Ev) Q7),(D7 (⟨(⟨m.d.plan,m.d.mode,m.d.stack,m.d.scan,m.d.start,m.d.at_,m.d.field,m.d.wire,m.d.want,((Bq m.d.utf b).getD m.d.utf),m.d.end_⟩:Dcd),m.out++[(⟨4,0,0,0,List.map A9 [b],0,0⟩:Ev)]⟩:Mac) (Q23) Q20),rfl,Q6⟩) ?_
 rotate_left
 refine zE (Eg m b) (Ae (⟨(m).d,(m).out++[(⟨4,0,0,0,List.map A9 [b],0,0⟩:Ev)]⟩:Mac)) (fun hm1=>⟨(Lr Q2 Q2),(Fn m (⟨4,0,0,0,List.map A9 [b],0,0⟩:Ev) Q2),(D7 (⟨(m).d,(m).out++[(⟨4,0,0,0,List.map A9 [b],0,0⟩:Ev)]⟩:Mac) (Q23) Q20),rfl,Q6⟩) ?_
 rotate_left
 all_goals first|(simp_all[Eg,Akx,A0,A8,Yd];done)|(grind[Eg,Akx,A0,A8,Yd])
theorem Amh (m:Mac) (b:Int) (hp1:MW (m).d) (hp2:List.length (m).out≤50000000) (hp3:(0:Int)≤b∧b≤255) (hp4:((m).d.stack.length=0∨1≤Ds (m).d)) (hp5:(m).d.at_≤1000000000) (hp6:((m).d.mode=6∨(m).d.mode=7∨(m).d.mode=8)→0≤(m).d.want):Fun Tryz.prog 156 [vP 0,vI b] [.cells (Ab 1 2 3 m),.tree m.d.plan.shapes,.lst .lev m.d.stack,.lst .ev m.out] (.tup []) [.cells (Ab 4 5 6 (Eb m b)),.dead,.dead,.dead,.tree (Eb m b).d.plan.shapes,.lst .lev (Eb m b).d.stack,.lst .ev (Eb m b).out]:=by
 have hN:Bb=274877906944:=rfl
 have hlv:=B3 hp1.lv
 have hpt:=Cc hlv.1
 have htb:=G5 hp1.lv
 have hwm:=Aea m
 have hbb:=hp1.b0
 have hat:=hp1.at_
 have hwt:=hp1.want
 have hwd:=Jf m.d
 have hms:=hp1.step hp4 hp5 hp6
 refine Ap Tryz.func156 Q4 Q4 (w:=let zi:Int→C:= .int .i64;let z12:List C:=[zi m.d.utf.want,zi m.d.utf.low,zi m.d.utf.high,zi m.d.end_.kind,zi m.d.end_.field,.int .u64 m.d.end_.bits,zi m.d.end_.len,.str m.d.end_.text,zi m.d.end_.code,zi m.d.end_.at_];let z13:List C:=[zi m.d.utf.want,zi m.d.utf.low,zi m.d.utf.high,zi m.d.end_.kind,zi m.d.end_.field,.int .u64 m.d.end_.bits,zi m.d.end_.len,.str m.d.end_.text,zi m.d.end_.code,zi m.d.end_.at_,.own 3];let z14:=(⟨m.d.plan,m.d.mode,m.d.stack,m.d.scan,m.d.start,m.d.at_+1,m.d.field,m.d.wire,m.d.want-1,m.d.utf,m.d.end_⟩:Dcd);let z15:=(⟨m.d.plan,m.d.mode,m.d.stack,m.d.scan,m.d.start,m.d.at_+1,m.d.field,m.d.wire,m.d.want,m.d.utf,m.d.end_⟩:Dcd);let z16:List Blk:=[.cells (Ab 4 5 6 (Eb m b)),.dead,.dead,.dead,.tree (Eb m b).d.plan.shapes,.lst .lev (Eb m b).d.stack,.lst .ev (Eb m b).out];let z17:=((List.length m.d.stack:Nat):Int);let z26:=decide (m.d.mode=6);let z27:=m.d.want-1;let z28:=decide (m.d.mode=7);let z29:S:= .v (vI (Bs m.d));let z32:=Eg (⟨z14,m.out⟩:Mac) b;let z21:List Blk:=[.cells (Ab 4 5 6 z32),.dead,.dead,.dead,.tree z32.d.plan.shapes,.lst .lev z32.d.stack,.lst .ev z32.out];let z33:=Ae (⟨z14,m.out⟩:Mac);let z22:List Blk:=[.cells (Ab 4 5 6 z33),.dead,.dead,.dead,.tree z33.d.plan.shapes,.lst .lev z33.d.stack,.lst .ev z33.out];let z34:=m.d.at_+1;let z10:List C:= .own 1::zi m.d.plan.root::zi m.d.plan.deep::zi m.d.plan.most::zi m.d.mode:: .own 2:: .int .u64 m.d.scan.bits::zi m.d.scan.have_::zi m.d.start::zi z34::zi m.d.field.number::zi m.d.field.kind:: .bool m.d.field.rep:: .bool m.d.field.packed::zi m.d.field.msg::zi m.d.wire::zi z27::z13;let z11:List C:= .own 1::zi m.d.plan.root::zi m.d.plan.deep::zi m.d.plan.most::zi m.d.mode:: .own 2:: .int .u64 m.d.scan.bits::zi m.d.scan.have_::zi m.d.start::zi z34::zi m.d.field.number::zi m.d.field.kind:: .bool m.d.field.rep:: .bool m.d.field.packed::zi m.d.field.msg::zi m.d.wire::zi m.d.want::z13;let z18:=z34-1;let z25:List Blk:=[.cells z10,.tree m.d.plan.shapes,.lst .lev m.d.stack,.lst .ev m.out];let z30:=Bp (⟨z14,m.out⟩:Mac) b z18;let z19:List Blk:=[.cells (Ab 4 5 6 z30),.dead,.dead,.dead,.tree z30.d.plan.shapes,.lst .lev z30.d.stack,.lst .ev z30.out];let z31:=Bp (⟨z15,m.out⟩:Mac) b z18;let z20:List Blk:=[.cells (Ab 4 5 6 z31),.dead,.dead,.dead,.tree z31.d.plan.shapes,.lst .lev z31.d.stack,.lst .ev z31.out];let z35:=Dp (⟨z14,m.out⟩:Mac) b;let z23:List Blk:=[.cells (Ab 4 5 6 z35),.dead,.dead,.dead,.tree z35.d.plan.shapes,.lst .lev z35.d.stack,.lst .ev z35.out];let z36:=Dp (⟨z15,m.out⟩:Mac) b;let z24:List Blk:=[.cells (Ab 4 5 6 z36),.dead,.dead,.dead,.tree z36.d.plan.shapes,.lst .lev z36.d.stack,.lst .ev z36.out];let z37:List V:=[vP 0,vI b];let z38:=Int.toNat (z17-1);let z39:=decide (0<Bs m.d);let z40:List Blk:=[.cells z11,.tree m.d.plan.shapes,.lst .lev m.d.stack,.lst .ev m.out];let z41:=(0:Int)≤z17-1;let z42:=z26=false;let z43:S:= .v (vI z27);let z44:=z17-1<z17;let z45:=m.d.stack[Int.toNat (z17-1)]?;let z46:=z28=false;(.seg [.as 9 (.v (vI z34))] (.br (.intro (Sx z45) fun x1=>let z1:=(⟨m.d.plan,m.d.mode,List.set m.d.stack z38 (⟨x1.msg,x1.left-1⟩:Lev),m.d.scan,m.d.start,m.d.at_+1,m.d.field,m.d.wire,m.d.want-1,m.d.utf,m.d.end_⟩:Dcd);let z2:=(⟨m.d.plan,m.d.mode,List.set m.d.stack z38 (⟨x1.msg,x1.left-1⟩:Lev),m.d.scan,m.d.start,m.d.at_+1,m.d.field,m.d.wire,m.d.want,m.d.utf,m.d.end_⟩:Dcd);.seg [.ord (os 19 [18]) [],.as 31 (.v (vI (z17-1))),.el .lev x1,.as 35 (.v (vI (x1.left-1))),.el .lev x1] (.br (.seg [.as 65 z43,.br true,.call [0,1,2,3] (.tup []) [.cells (Ab 4 5 6 (Eg (⟨z1,m.out⟩:Mac) b)),.dead,.dead,.dead,.tree (Eg (⟨z1,m.out⟩:Mac) b).d.plan.shapes,.lst .lev (Eg (⟨z1,m.out⟩:Mac) b).d.stack,.lst .ev (Eg (⟨z1,m.out⟩:Mac) b).out]] (.leaf () [0,1,2,3,4,5,6])) (.br (.seg [.as 65 z43,.br false,.br true,.call [0,1,2,3] (.tup []) [.cells (Ab 4 5 6 (Ae (⟨z1,m.out⟩:Mac))),.dead,.dead,.dead,.tree (Ae (⟨z1,m.out⟩:Mac)).d.plan.shapes,.lst .lev (Ae (⟨z1,m.out⟩:Mac)).d.stack,.lst .ev (Ae (⟨z1,m.out⟩:Mac)).out]] (.leaf () [0,1,2,3,4,5,6])) (.br (.seg [.as 65 z43,.br false,.br false,.call [] z29 []] (.br (.seg [.call [0,1,2,3] (.tup []) [.cells (Ab 4 5 6 (Dp (⟨z1,m.out⟩:Mac) b)),.dead,.dead,.dead,.tree (Dp (⟨z1,m.out⟩:Mac) b).d.plan.shapes,.lst .lev (Dp (⟨z1,m.out⟩:Mac) b).d.stack,.lst .ev (Dp (⟨z1,m.out⟩:Mac) b).out]] (.leaf () [0,1,2,3,4,5,6])) (.seg [.call [0,1,2,3] (.tup []) [.cells (Ab 4 5 6 (Bp (⟨z1,m.out⟩:Mac) b z18)),.dead,.dead,.dead,.tree (Bp (⟨z1,m.out⟩:Mac) b z18).d.plan.shapes,.lst .lev (Bp (⟨z1,m.out⟩:Mac) b z18).d.stack,.lst .ev (Bp (⟨z1,m.out⟩:Mac) b z18).out]] (.leaf () [0,1,2,3,4,5,6])))) (.seg [.br false,.br false,.call [] z29 []] (.br (.seg [.call [0,1,2,3] (.tup []) [.cells (Ab 4 5 6 (Dp (⟨z2,m.out⟩:Mac) b)),.dead,.dead,.dead,.tree (Dp (⟨z2,m.out⟩:Mac) b).d.plan.shapes,.lst .lev (Dp (⟨z2,m.out⟩:Mac) b).d.stack,.lst .ev (Dp (⟨z2,m.out⟩:Mac) b).out]] (.leaf () [0,1,2,3,4,5,6])) (.seg [.call [0,1,2,3] (.tup []) [.cells (Ab 4 5 6 (Bp (⟨z2,m.out⟩:Mac) b z18)),.dead,.dead,.dead,.tree (Bp (⟨z2,m.out⟩:Mac) b z18).d.plan.shapes,.lst .lev (Bp (⟨z2,m.out⟩:Mac) b z18).d.stack,.lst .ev (Bp (⟨z2,m.out⟩:Mac) b z18).out]] (.leaf () [0,1,2,3,4,5,6])))))))) (.br (.seg [.as 65 z43,.br true,.call [0,1,2,3] (.tup []) z21] (.leaf () [0,1,2,3,4,5,6])) (.br (.seg [.as 65 z43,.br false,.br true,.call [0,1,2,3] (.tup []) z22] (.leaf () [0,1,2,3,4,5,6])) (.br (.seg [.as 65 z43,.br false,.br false,.call [] z29 []] (.br (.seg [.call [0,1,2,3] (.tup []) z23] (.leaf () [0,1,2,3,4,5,6])) (.seg [.call [0,1,2,3] (.tup []) z19] (.leaf () [0,1,2,3,4,5,6])))) (.seg [.br false,.br false,.call [] z29 []] (.br (.seg [.call [0,1,2,3] (.tup []) z24] (.leaf () [0,1,2,3,4,5,6])) (.seg [.call [0,1,2,3] (.tup []) z20] (.leaf () [0,1,2,3,4,5,6])))))))),(wI z34)∧Bc (decide (0<z17)) (El z45 fun x1=>(let z8:=m.d.stack[Int.toNat (z17-1)]? =some x1;let z9:=(⟨x1.msg,x1.left-1⟩:Lev);let z3:=(⟨m.d.plan,m.d.mode,List.set m.d.stack z38 z9,m.d.scan,m.d.start,m.d.at_+1,m.d.field,m.d.wire,m.d.want-1,m.d.utf,m.d.end_⟩:Dcd);let z4:=(⟨m.d.plan,m.d.mode,List.set m.d.stack z38 z9,m.d.scan,m.d.start,m.d.at_+1,m.d.field,m.d.wire,m.d.want,m.d.utf,m.d.end_⟩:Dcd);let z7:=List.set m.d.stack z38 z9;let z5:List Blk:=[.cells z10,.tree m.d.plan.shapes,.lst .lev z7,.lst .ev m.out];let z6:List Blk:=[.cells z11,.tree m.d.plan.shapes,.lst .lev z7,.lst .ev m.out];(wI (z17-1))∧(wI (z17-1))∧z44∧z41∧z44∧z41∧z8∧z8∧(wI (x1.left-1))∧(wI (x1.left-1))∧z44∧z41∧z44∧z41∧z8∧Bc z26 ((wI z27)∧(z26=true)∧(Fp 215 z37 z5 (.tup []) [.cells (Ab 4 5 6 (Eg (⟨z3,m.out⟩:Mac) b)),.dead,.dead,.dead,.tree (Eg (⟨z3,m.out⟩:Mac) b).d.plan.shapes,.lst .lev (Eg (⟨z3,m.out⟩:Mac) b).d.stack,.lst .ev (Eg (⟨z3,m.out⟩:Mac) b).out])∧Lf (.tup []) (.tup []) [.cells (Ab 4 5 6 (Eg (⟨z3,m.out⟩:Mac) b)),.dead,.dead,.dead,.tree (Eg (⟨z3,m.out⟩:Mac) b).d.plan.shapes,.lst .lev (Eg (⟨z3,m.out⟩:Mac) b).d.stack,.lst .ev (Eg (⟨z3,m.out⟩:Mac) b).out] z16) (Bc z28 ((wI z27)∧z42∧(z28=true)∧(Fp 216 [vP 0] z5 (.tup []) [.cells (Ab 4 5 6 (Ae (⟨z3,m.out⟩:Mac))),.dead,.dead,.dead,.tree (Ae (⟨z3,m.out⟩:Mac)).d.plan.shapes,.lst .lev (Ae (⟨z3,m.out⟩:Mac)).d.stack,.lst .ev (Ae (⟨z3,m.out⟩:Mac)).out])∧Lf (.tup []) (.tup []) [.cells (Ab 4 5 6 (Ae (⟨z3,m.out⟩:Mac))),.dead,.dead,.dead,.tree (Ae (⟨z3,m.out⟩:Mac)).d.plan.shapes,.lst .lev (Ae (⟨z3,m.out⟩:Mac)).d.stack,.lst .ev (Ae (⟨z3,m.out⟩:Mac)).out] z16) (Bc (decide (m.d.mode=8)) ((wI z27)∧z42∧z46∧(Fp 213 [.agg (.seq .shp m.d.plan.shapes::zi m.d.plan.root::zi m.d.plan.deep::zi m.d.plan.most::zi m.d.mode:: .seq .lev z7:: .int .u64 m.d.scan.bits::zi m.d.scan.have_::zi m.d.start::zi z34::zi m.d.field.number::zi m.d.field.kind:: .bool m.d.field.rep:: .bool m.d.field.packed::zi m.d.field.msg::zi m.d.wire::zi z27::z12)] [] z29 [])∧Bc z39 ((Fp 217 z37 z5 (.tup []) [.cells (Ab 4 5 6 (Dp (⟨z3,m.out⟩:Mac) b)),.dead,.dead,.dead,.tree (Dp (⟨z3,m.out⟩:Mac) b).d.plan.shapes,.lst .lev (Dp (⟨z3,m.out⟩:Mac) b).d.stack,.lst .ev (Dp (⟨z3,m.out⟩:Mac) b).out])∧Lf (.tup []) (.tup []) [.cells (Ab 4 5 6 (Dp (⟨z3,m.out⟩:Mac) b)),.dead,.dead,.dead,.tree (Dp (⟨z3,m.out⟩:Mac) b).d.plan.shapes,.lst .lev (Dp (⟨z3,m.out⟩:Mac) b).d.stack,.lst .ev (Dp (⟨z3,m.out⟩:Mac) b).out] z16) ((Fp 218 z37 z5 (.tup []) [.cells (Ab 4 5 6 (Bp (⟨z3,m.out⟩:Mac) b z18)),.dead,.dead,.dead,.tree (Bp (⟨z3,m.out⟩:Mac) b z18).d.plan.shapes,.lst .lev (Bp (⟨z3,m.out⟩:Mac) b z18).d.stack,.lst .ev (Bp (⟨z3,m.out⟩:Mac) b z18).out])∧Lf (.tup []) (.tup []) [.cells (Ab 4 5 6 (Bp (⟨z3,m.out⟩:Mac) b z18)),.dead,.dead,.dead,.tree (Bp (⟨z3,m.out⟩:Mac) b z18).d.plan.shapes,.lst .lev (Bp (⟨z3,m.out⟩:Mac) b z18).d.stack,.lst .ev (Bp (⟨z3,m.out⟩:Mac) b z18).out] z16)) (z42∧z46∧(Fp 213 [.agg (.seq .shp m.d.plan.shapes::zi m.d.plan.root::zi m.d.plan.deep::zi m.d.plan.most::zi m.d.mode:: .seq .lev z7:: .int .u64 m.d.scan.bits::zi m.d.scan.have_::zi m.d.start::zi z34::zi m.d.field.number::zi m.d.field.kind:: .bool m.d.field.rep:: .bool m.d.field.packed::zi m.d.field.msg::zi m.d.wire::zi m.d.want::z12)] [] z29 [])∧Bc z39 ((Fp 217 z37 z6 (.tup []) [.cells (Ab 4 5 6 (Dp (⟨z4,m.out⟩:Mac) b)),.dead,.dead,.dead,.tree (Dp (⟨z4,m.out⟩:Mac) b).d.plan.shapes,.lst .lev (Dp (⟨z4,m.out⟩:Mac) b).d.stack,.lst .ev (Dp (⟨z4,m.out⟩:Mac) b).out])∧Lf (.tup []) (.tup []) [.cells (Ab 4 5 6 (Dp (⟨z4,m.out⟩:Mac) b)),.dead,.dead,.dead,.tree (Dp (⟨z4,m.out⟩:Mac) b).d.plan.shapes,.lst .lev (Dp (⟨z4,m.out⟩:Mac) b).d.stack,.lst .ev (Dp (⟨z4,m.out⟩:Mac) b).out] z16) ((Fp 218 z37 z6 (.tup []) [.cells (Ab 4 5 6 (Bp (⟨z4,m.out⟩:Mac) b z18)),.dead,.dead,.dead,.tree (Bp (⟨z4,m.out⟩:Mac) b z18).d.plan.shapes,.lst .lev (Bp (⟨z4,m.out⟩:Mac) b z18).d.stack,.lst .ev (Bp (⟨z4,m.out⟩:Mac) b z18).out])∧Lf (.tup []) (.tup []) [.cells (Ab 4 5 6 (Bp (⟨z4,m.out⟩:Mac) b z18)),.dead,.dead,.dead,.tree (Bp (⟨z4,m.out⟩:Mac) b z18).d.plan.shapes,.lst .lev (Bp (⟨z4,m.out⟩:Mac) b z18).d.stack,.lst .ev (Bp (⟨z4,m.out⟩:Mac) b z18).out] z16)))))) (Bc z26 ((wI z27)∧(z26=true)∧(Fp 215 z37 z25 (.tup []) z21)∧Lf (.tup []) (.tup []) z21 z16) (Bc z28 ((wI z27)∧z42∧(z28=true)∧(Fp 216 [vP 0] z25 (.tup []) z22)∧Lf (.tup []) (.tup []) z22 z16) (Bc (decide (m.d.mode=8)) ((wI z27)∧z42∧z46∧(Fp 213 [.agg (.seq .shp m.d.plan.shapes::zi m.d.plan.root::zi m.d.plan.deep::zi m.d.plan.most::zi m.d.mode:: .seq .lev m.d.stack:: .int .u64 m.d.scan.bits::zi m.d.scan.have_::zi m.d.start::zi z34::zi m.d.field.number::zi m.d.field.kind:: .bool m.d.field.rep:: .bool m.d.field.packed::zi m.d.field.msg::zi m.d.wire::zi z27::z12)] [] z29 [])∧Bc z39 ((Fp 217 z37 z25 (.tup []) z23)∧Lf (.tup []) (.tup []) z23 z16) ((Fp 218 z37 z25 (.tup []) z19)∧Lf (.tup []) (.tup []) z19 z16)) (z42∧z46∧(Fp 213 [.agg (.seq .shp m.d.plan.shapes::zi m.d.plan.root::zi m.d.plan.deep::zi m.d.plan.most::zi m.d.mode:: .seq .lev m.d.stack:: .int .u64 m.d.scan.bits::zi m.d.scan.have_::zi m.d.start::zi z34::zi m.d.field.number::zi m.d.field.kind:: .bool m.d.field.rep:: .bool m.d.field.packed::zi m.d.field.msg::zi m.d.wire::zi m.d.want::z12)] [] z29 [])∧Bc z39 ((Fp 217 z37 z40 (.tup []) z24)∧Lf (.tup []) (.tup []) z24 z16) ((Fp 218 z37 z40 (.tup []) z20)∧Lf (.tup []) (.tup []) z20 z16))))))) Q4 ?_
 refine⟨(Ac Q2 Q2),dsp (fun h1 p1=>?_) fun h1 p1=>?_⟩
 have hne:m.d.stack≠[]:=fun e=>by have:=congrArg List.length e;simp only[List.length_nil] at this;omega
 refine⟨(Bh (l:=m.d.stack) (i:=Int.toNat (((List.length m.d.stack:Nat):Int)-1)) Q2),fun x1 hx1=>?_⟩
 have hll:=Jb (d:=m.d) (by rw[←hx1];congr 1;omega)
 have hix:Int.toNat ((m.d.stack.length:Int)-1)=m.d.stack.length-1:=by omega
 refine⟨(Ac Q2 Q2),(Ac Q2 Q2),Q2,Q2,Q2,Q2,hx1,hx1,(Ac Q2 Q2),(Ac Q2 Q2),Q2,Q2,Q2,Q2,hx1,dsp (fun h2 p2=>?_) fun h2 p2=>?_⟩
 refine zE (Eb m b) (Eg (⟨(⟨m.d.plan,m.d.mode,List.set m.d.stack (Int.toNat (((List.length m.d.stack:Nat):Int)-1)) (⟨x1.msg,x1.left-1⟩:Lev),m.d.scan,m.d.start,m.d.at_+1,m.d.field,m.d.wire,m.d.want-1,m.d.utf,m.d.end_⟩:Dcd),m.out⟩:Mac) b) (fun hm1=>⟨(Ac Q2 Q2),h2,(Xm (⟨(⟨m.d.plan,m.d.mode,List.set m.d.stack (Int.toNat (((List.length m.d.stack:Nat):Int)-1)) (⟨x1.msg,x1.left-1⟩:Lev),m.d.scan,m.d.start,m.d.at_+1,m.d.field,m.d.wire,m.d.want-1,m.d.utf,m.d.end_⟩:Dcd),m.out⟩:Mac) _ (Q25) Q7 Q2),rfl,Q6⟩) ?_
 rotate_left
 refine dsp (fun h3 p3=>?_) fun h3 p3=>?_
 refine zE (Eb m b) (Ae (⟨(⟨m.d.plan,m.d.mode,List.set m.d.stack (Int.toNat (((List.length m.d.stack:Nat):Int)-1)) (⟨x1.msg,x1.left-1⟩:Lev),m.d.scan,m.d.start,m.d.at_+1,m.d.field,m.d.wire,m.d.want-1,m.d.utf,m.d.end_⟩:Dcd),m.out⟩:Mac)) (fun hm1=>⟨(Ac Q2 Q2),h2,h3,(D7 (⟨(⟨m.d.plan,m.d.mode,List.set m.d.stack (Int.toNat (((List.length m.d.stack:Nat):Int)-1)) (⟨x1.msg,x1.left-1⟩:Lev),m.d.scan,m.d.start,m.d.at_+1,m.d.field,m.d.wire,m.d.want-1,m.d.utf,m.d.end_⟩:Dcd),m.out⟩:Mac) ((by have e:Di m.d=(⟨m.d.plan,m.d.mode,List.set m.d.stack (Int.toNat (((List.length m.d.stack:Nat):Int)-1)) (⟨x1.msg,x1.left-1⟩:Lev),m.d.scan,m.d.start,m.d.at_+1,m.d.field,m.d.wire,m.d.want-1,m.d.utf,m.d.end_⟩:Dcd):=Q31;exact((e▸hms:MW (⟨m.d.plan,m.d.mode,List.set m.d.stack (Int.toNat (((List.length m.d.stack:Nat):Int)-1)) (⟨x1.msg,x1.left-1⟩:Lev),m.d.scan,m.d.start,m.d.at_+1,m.d.field,m.d.wire,m.d.want-1,m.d.utf,m.d.end_⟩:Dcd))).lv)) Q7),rfl,Q6⟩) ?_
 rotate_left
 refine dsp (fun h4 p4=>?_) fun h4 p4=>?_
 refine⟨(Ac Q2 Q2),h2,h3,(P8 (⟨m.d.plan,m.d.mode,List.set m.d.stack (Int.toNat (((List.length m.d.stack:Nat):Int)-1)) (⟨x1.msg,x1.left-1⟩:Lev),m.d.scan,m.d.start,m.d.at_+1,m.d.field,m.d.wire,m.d.want-1,m.d.utf,m.d.end_⟩:Dcd)),dsp (fun h5 p5=>?_) fun h5 p5=>?_⟩
 refine zE (Eb m b) (Dp (⟨(⟨m.d.plan,m.d.mode,List.set m.d.stack (Int.toNat (((List.length m.d.stack:Nat):Int)-1)) (⟨x1.msg,x1.left-1⟩:Lev),m.d.scan,m.d.start,m.d.at_+1,m.d.field,m.d.wire,m.d.want-1,m.d.utf,m.d.end_⟩:Dcd),m.out⟩:Mac) b) (fun hm1=>⟨(Sk (⟨(⟨m.d.plan,m.d.mode,List.set m.d.stack (Int.toNat (((List.length m.d.stack:Nat):Int)-1)) (⟨x1.msg,x1.left-1⟩:Lev),m.d.scan,m.d.start,m.d.at_+1,m.d.field,m.d.wire,m.d.want-1,m.d.utf,m.d.end_⟩:Dcd),m.out⟩:Mac) _ (Q25) Q7 Q2),rfl,Q6⟩) ?_
 rotate_left
 refine zE (Eb m b) (Bp (⟨(⟨m.d.plan,m.d.mode,List.set m.d.stack (Int.toNat (((List.length m.d.stack:Nat):Int)-1)) (⟨x1.msg,x1.left-1⟩:Lev),m.d.scan,m.d.start,m.d.at_+1,m.d.field,m.d.wire,m.d.want-1,m.d.utf,m.d.end_⟩:Dcd),m.out⟩:Mac) b ((m.d.at_+1)-1)) (fun hm1=>⟨(Sj (⟨(⟨m.d.plan,m.d.mode,List.set m.d.stack (Int.toNat (((List.length m.d.stack:Nat):Int)-1)) (⟨x1.msg,x1.left-1⟩:Lev),m.d.scan,m.d.start,m.d.at_+1,m.d.field,m.d.wire,m.d.want-1,m.d.utf,m.d.end_⟩:Dcd),m.out⟩:Mac) _ (Q25) Q7 Q2),rfl,Q6⟩) ?_
 rotate_left
 refine⟨h2,h3,(P8 (⟨m.d.plan,m.d.mode,List.set m.d.stack (Int.toNat (((List.length m.d.stack:Nat):Int)-1)) (⟨x1.msg,x1.left-1⟩:Lev),m.d.scan,m.d.start,m.d.at_+1,m.d.field,m.d.wire,m.d.want,m.d.utf,m.d.end_⟩:Dcd)),dsp (fun h5 p5=>?_) fun h5 p5=>?_⟩
 refine zE (Eb m b) (Dp (⟨(⟨m.d.plan,m.d.mode,List.set m.d.stack (Int.toNat (((List.length m.d.stack:Nat):Int)-1)) (⟨x1.msg,x1.left-1⟩:Lev),m.d.scan,m.d.start,m.d.at_+1,m.d.field,m.d.wire,m.d.want,m.d.utf,m.d.end_⟩:Dcd),m.out⟩:Mac) b) (fun hm1=>⟨(Sk (⟨(⟨m.d.plan,m.d.mode,List.set m.d.stack (Int.toNat (((List.length m.d.stack:Nat):Int)-1)) (⟨x1.msg,x1.left-1⟩:Lev),m.d.scan,m.d.start,m.d.at_+1,m.d.field,m.d.wire,m.d.want,m.d.utf,m.d.end_⟩:Dcd),m.out⟩:Mac) _ (Q42) Q7 Q2),rfl,Q6⟩) ?_
 rotate_left
 refine zE (Eb m b) (Bp (⟨(⟨m.d.plan,m.d.mode,List.set m.d.stack (Int.toNat (((List.length m.d.stack:Nat):Int)-1)) (⟨x1.msg,x1.left-1⟩:Lev),m.d.scan,m.d.start,m.d.at_+1,m.d.field,m.d.wire,m.d.want,m.d.utf,m.d.end_⟩:Dcd),m.out⟩:Mac) b ((m.d.at_+1)-1)) (fun hm1=>⟨(Sj (⟨(⟨m.d.plan,m.d.mode,List.set m.d.stack (Int.toNat (((List.length m.d.stack:Nat):Int)-1)) (⟨x1.msg,x1.left-1⟩:Lev),m.d.scan,m.d.start,m.d.at_+1,m.d.field,m.d.wire,m.d.want,m.d.utf,m.d.end_⟩:Dcd),m.out⟩:Mac) _ (Q42) Q7 Q2),rfl,Q6⟩) ?_
 rotate_left
 have hne:m.d.stack=[]:=List.eq_nil_of_length_eq_zero (by omega)
 refine dsp (fun h2 p2=>?_) fun h2 p2=>?_
 refine zE (Eb m b) (Eg (⟨(⟨m.d.plan,m.d.mode,m.d.stack,m.d.scan,m.d.start,m.d.at_+1,m.d.field,m.d.wire,m.d.want-1,m.d.utf,m.d.end_⟩:Dcd),m.out⟩:Mac) b) (fun hm1=>⟨(Ac Q2 Q2),h2,(Xm (⟨(⟨m.d.plan,m.d.mode,m.d.stack,m.d.scan,m.d.start,m.d.at_+1,m.d.field,m.d.wire,m.d.want-1,m.d.utf,m.d.end_⟩:Dcd),m.out⟩:Mac) _ (Q38) Q7 Q2),rfl,Q6⟩) ?_
 rotate_left
 refine dsp (fun h3 p3=>?_) fun h3 p3=>?_
 refine zE (Eb m b) (Ae (⟨(⟨m.d.plan,m.d.mode,m.d.stack,m.d.scan,m.d.start,m.d.at_+1,m.d.field,m.d.wire,m.d.want-1,m.d.utf,m.d.end_⟩:Dcd),m.out⟩:Mac)) (fun hm1=>⟨(Ac Q2 Q2),h2,h3,(D7 (⟨(⟨m.d.plan,m.d.mode,m.d.stack,m.d.scan,m.d.start,m.d.at_+1,m.d.field,m.d.wire,m.d.want-1,m.d.utf,m.d.end_⟩:Dcd),m.out⟩:Mac) (Q23) Q7),rfl,Q6⟩) ?_
 rotate_left
 refine dsp (fun h4 p4=>?_) fun h4 p4=>?_
 refine⟨(Ac Q2 Q2),h2,h3,(P8 (⟨m.d.plan,m.d.mode,m.d.stack,m.d.scan,m.d.start,m.d.at_+1,m.d.field,m.d.wire,m.d.want-1,m.d.utf,m.d.end_⟩:Dcd)),dsp (fun h5 p5=>?_) fun h5 p5=>?_⟩
 refine zE (Eb m b) (Dp (⟨(⟨m.d.plan,m.d.mode,m.d.stack,m.d.scan,m.d.start,m.d.at_+1,m.d.field,m.d.wire,m.d.want-1,m.d.utf,m.d.end_⟩:Dcd),m.out⟩:Mac) b) (fun hm1=>⟨(Sk (⟨(⟨m.d.plan,m.d.mode,m.d.stack,m.d.scan,m.d.start,m.d.at_+1,m.d.field,m.d.wire,m.d.want-1,m.d.utf,m.d.end_⟩:Dcd),m.out⟩:Mac) _ (Q38) Q7 Q2),rfl,Q6⟩) ?_
 rotate_left
 refine zE (Eb m b) (Bp (⟨(⟨m.d.plan,m.d.mode,m.d.stack,m.d.scan,m.d.start,m.d.at_+1,m.d.field,m.d.wire,m.d.want-1,m.d.utf,m.d.end_⟩:Dcd),m.out⟩:Mac) b ((m.d.at_+1)-1)) (fun hm1=>⟨(Sj (⟨(⟨m.d.plan,m.d.mode,m.d.stack,m.d.scan,m.d.start,m.d.at_+1,m.d.field,m.d.wire,m.d.want-1,m.d.utf,m.d.end_⟩:Dcd),m.out⟩:Mac) _ (Q38) Q7 Q2),rfl,Q6⟩) ?_
 rotate_left
 refine⟨h2,h3,(P8 (⟨m.d.plan,m.d.mode,m.d.stack,m.d.scan,m.d.start,m.d.at_+1,m.d.field,m.d.wire,m.d.want,m.d.utf,m.d.end_⟩:Dcd)),dsp (fun h5 p5=>?_) fun h5 p5=>?_⟩
 refine zE (Eb m b) (Dp (⟨(⟨m.d.plan,m.d.mode,m.d.stack,m.d.scan,m.d.start,m.d.at_+1,m.d.field,m.d.wire,m.d.want,m.d.utf,m.d.end_⟩:Dcd),m.out⟩:Mac) b) (fun hm1=>⟨(Sk (⟨(⟨m.d.plan,m.d.mode,m.d.stack,m.d.scan,m.d.start,m.d.at_+1,m.d.field,m.d.wire,m.d.want,m.d.utf,m.d.end_⟩:Dcd),m.out⟩:Mac) _ (Q52) Q7 Q2),rfl,Q6⟩) ?_
 rotate_left
 refine zE (Eb m b) (Bp (⟨(⟨m.d.plan,m.d.mode,m.d.stack,m.d.scan,m.d.start,m.d.at_+1,m.d.field,m.d.wire,m.d.want,m.d.utf,m.d.end_⟩:Dcd),m.out⟩:Mac) b ((m.d.at_+1)-1)) (fun hm1=>⟨(Sj (⟨(⟨m.d.plan,m.d.mode,m.d.stack,m.d.scan,m.d.start,m.d.at_+1,m.d.field,m.d.wire,m.d.want,m.d.utf,m.d.end_⟩:Dcd),m.out⟩:Mac) _ (Q52) Q7 Q2),rfl,Q6⟩) ?_
 rotate_left
 all_goals first|(simp_all[Eb,Di];done)|((have hw0:Bs m.d=0:=(by omega);simp_all[Eb,Di];done))|(grind[Eb,Di])
theorem Aka (d:Dcd):Fun Tryz.prog 155 [.agg (Bu d)] [] (.v (vB (E1 d))) []:=by
 have hN:Bb=274877906944:=rfl
 refine Ap Tryz.func155 Q4 Q4 (w:=(.br (.leaf () []) (.leaf () []),Bc (!decide (d.mode=9)) (Lf (.v (vB (decide (d.at_<1000000000)))) (.v (vB (E1 d))) [] []) (Lf (.v (vB false)) (.v (vB (E1 d))) [] []))) Q4 ?_
 refine⟨fun h1=>have q1:=Ao h1;have p1:=of_decide_eq_false q1;?_,fun h1=>have q1:=An h1;have p1:=of_decide_eq_true q1;?_⟩
 refine⟨(sB ?_),rfl⟩
 rotate_left
 refine⟨(sB ?_),rfl⟩
 rotate_left
 all_goals first|(simp[E1, *];done)|(simp_all[E1];done)|(grind[E1])
structure Com (d:Dcd):Prop where
 lv:Bd d=true
 at_:0≤d.at_∧d.at_≤1000000000
 st:0≤d.start∧d.start≤d.at_
 ut:Eo d.utf=true
 wi:Do d.wire=true
 fl:d.field=fld0∨H5 d.plan.shapes d.field=true
 en:d.end_=ev0
theorem Jg {d:Dcd} (lv:Bd d=true) (hm:1≤d.mode∧d.mode≤9) (at_:0≤d.at_∧d.at_≤1000000000) (st:0≤d.start∧d.start≤d.at_) (ut:Eo d.utf=true) (wi:Do d.wire=true) (fl:d.field=fld0∨H5 d.plan.shapes d.field=true)
  (h8:Y1 d=true) (h9:Kt d=true) (h10:H3 d=true) (h11:H4 d=true) (h12:Kn d=true):Dh d=true:=by
 simp only[Dh,Bool.and_eq_true,Bool.or_eq_true,decide_eq_true_eq]
 refine⟨⟨⟨⟨⟨⟨⟨⟨⟨⟨⟨lv,?_⟩,?_⟩,?_⟩,ut⟩,wi⟩,fl⟩,h8⟩,h9⟩,h10⟩,h11⟩,h12⟩<;>simp only[Ak,Bool.and_eq_true,decide_eq_true_eq]<;>assumption
theorem Ai9 {d:Dcd} {c a:Int} (lv:Bd d=true) (at_:0≤d.at_∧d.at_≤1000000000) (st:0≤d.start∧d.start≤d.at_) (ut:Eo d.utf=true) (wi:Do d.wire=true) (fl:d.field=fld0∨H5 d.plan.shapes d.field=true) (hc:1≤c) (ha:0≤a):Dh (A8 d c a)=true:=by
 have hs:(⟨0,0⟩:Scn)=scn0:=rfl
 refine Jg (B4 lv rfl rfl) (show (1:Int)≤9∧(9:Int)≤9 by decide) at_ st ut wi fl ?_ ?_ ?_ ?_ ?_
 ·simp[Y1,A8,Fo,Ms,Ak,Tz,Ee,A2,En,Dx,hc,ha]
 ·simp[Kt,A8]
 ·simp[H3,A8]
 ·simp[H4,A8]
 ·simp[Kn,A8,Bs,hs]
theorem Com.fail {d:Dcd} (h:Com d) {c a:Int} (hc:1≤c) (ha:0≤a):Dh (A8 d c a)=true:=Ai9 h.lv h.at_ h.st h.ut h.wi h.fl hc ha
theorem Acb {m:Mac} (h:m.d.mode=9∨m.d.mode=1):Ay m=none:=by
 unfold Ay
 rw[if_neg (by omega),if_neg (by omega),if_neg (by omega)]
structure Pre (d:Dcd):Prop extends Com d where
 sc:d.scan=scn0
 ne:0<d.stack.length
 md:(d.mode=2∧d.want=0)∨(d.mode=6∧F2 d.field.kind=true∧0≤d.want∧d.want≤Ds d)∨(d.mode=7∧0≤d.want∧d.want≤Ds d)∨(d.mode=8∧Tw d.field=true∧0≤d.want∧d.want≤Ds d∧(d.want=0∨Az (B6 d.field.kind)≤d.want))
theorem Rk:Df scn0=true:=by simp[Df,scn0,Ak]
theorem Sn {d e:Dcd} {k:Nat} (h:Bd d=true) (hp:e.plan=d.plan) (hs:e.stack=d.stack.take k):Bd e=true:=by
 have hb:=B3 h
 refine J9 (by rw[hp];exact hb.1) ?_ fun l hl=>?_
 ·rw[hs,hp];have:=hb.2.1;simp only[List.length_take];omega
 ·rw[hp];rw[hs] at hl;exact hb.2.2.2 l (List.mem_of_mem_take hl)
theorem Af0:Eo ⟨0,0,0⟩=true:=by decide
set_option maxHeartbeats 3200000 in
theorem Pre.close {d:Dcd} (h:Pre d) (o:List Ev):(Ay ⟨d,o⟩=none∧Dh d=true)∨∃q,Ay ⟨d,o⟩=some q∧(Pre q.d∨(Dh q.d=true∧Ay q=none)):=by
 have hb:=G5 h.lv
 have hsc:=h.sc
 have hne:=h.ne
 have h0:d.scan.have_=0:=by rw[hsc];rfl
 have hb0:d.scan.bits=0:=by rw[hsc];rfl
 have hend:d.mode≠9→Y1 d=true:=fun h9=>by unfold Y1;rw[if_neg h9];exact decide_eq_true h.en
 have hst:d.mode≠1→1≤Ds d→Kt d=true:=fun h1 ht=>by unfold Kt;rw[if_neg h1];split;rfl;exact decide_eq_true ht
 rcases h.md with ⟨hm,hw⟩|⟨hm,hk,hw0,hw1⟩|⟨hm,hw0,hw1⟩|⟨hm,hk,hw0,hw1,hw2⟩
 ·by_cases ht:Ds d=0
  ·right
   by_cases h1:d.stack.length=1
   ·refine⟨_,Vq hm h0 hne ht h1,.inr ⟨?_,Acb (.inr rfl)⟩⟩
    have hn:d.stack.take (d.stack.length-1)=[]:=by rw[h1];rfl
    refine Jg (Sn h.lv rfl rfl) (show (1:Int)≤1∧(1:Int)≤9 by decide) h.at_ h.st h.ut h.wi h.fl ?_ ?_ ?_ ?_ ?_
    ·simp[Y1,h.en]
    ·simp[Kt,hn]
    ·simp[H3,hw]
    ·simp[H4]
    ·simp[Kn,Bs,hsc,Rk]
   ·refine⟨_,Vr hm h0 hne ht h1,.inl ⟨⟨Sn h.lv rfl rfl,h.at_,h.st,h.ut,h.wi,h.fl,h.en⟩,hsc,?_,.inl ⟨hm,hw⟩⟩⟩
    simp only[List.length_take];omega
  ·left
   refine⟨?_,?_⟩
   ·unfold Ay;simp only;rw[if_neg (by omega),if_neg (by omega),if_neg (by omega)]
   ·refine Jg h.lv (by omega) h.at_ h.st h.ut h.wi h.fl (hend (by omega)) (hst (by omega) (by omega)) ?_ ?_ ?_
    ·simp[H3,hm,hw]
    ·simp[H4,hm]
    ·simp[Kn,Bs,hm,hsc,Rk]
 ·by_cases hw:d.want<1
  ·right
   by_cases hu:0<d.utf.want
   ·refine⟨A0 ⟨d,o⟩ 5 d.at_,by unfold Ay;simp only;rw[if_pos ⟨hm,hw⟩,if_pos hu],.inr ⟨h.toCom.fail (by decide) h.at_.1,Acb (.inl rfl)⟩⟩
   ·refine⟨_,by unfold Ay;simp only;rw[if_pos ⟨hm,hw⟩,if_neg hu],.inl ⟨⟨B4 h.lv rfl rfl,h.at_,h.st,Af0,h.wi,h.fl,h.en⟩,hsc,hne,.inl ⟨rfl,rfl⟩⟩⟩
  ·left
   refine⟨?_,?_⟩
   ·unfold Ay;simp only;rw[if_neg (by omega),if_neg (by omega),if_neg (by omega)]
   ·refine Jg h.lv (by omega) h.at_ h.st h.ut h.wi h.fl (hend (by omega)) (hst (by omega) (by omega)) ?_ ?_ ?_
    ·simp[H3,hm,Ak];omega
    ·simp[H4,hm,hk]
    ·simp[Kn,Bs,hm,hsc]
 ·by_cases hw:d.want<1
  ·right
   refine⟨_,by unfold Ay;simp only;rw[if_neg (by omega),if_pos ⟨.inl hm,hw⟩],.inl ⟨⟨B4 h.lv rfl rfl,h.at_,h.st,h.ut,h.wi,h.fl,h.en⟩,hsc,hne,.inl ⟨rfl,rfl⟩⟩⟩
  ·left
   refine⟨?_,?_⟩
   ·unfold Ay;simp only;rw[if_neg (by omega),if_neg (by omega),if_neg (by omega)]
   ·refine Jg h.lv (by omega) h.at_ h.st h.ut h.wi h.fl (hend (by omega)) (hst (by omega) (by omega)) ?_ ?_ ?_
    ·simp[H3,hm,Ak];omega
    ·simp[H4,hm]
    ·simp[Kn,Bs,hm,hsc]
 ·by_cases hw:d.want<1
  ·right
   refine⟨_,by unfold Ay;simp only;rw[if_neg (by omega),if_pos ⟨.inr ⟨hm,h0⟩,hw⟩],.inl ⟨⟨B4 h.lv rfl rfl,h.at_,h.st,h.ut,h.wi,h.fl,h.en⟩,hsc,hne,.inl ⟨rfl,rfl⟩⟩⟩
  ·left
   refine⟨?_,?_⟩
   ·unfold Ay;simp only;rw[if_neg (by omega),if_neg (by omega),if_neg (by omega)]
   ·refine Jg h.lv (by omega) h.at_ h.st h.ut h.wi h.fl (hend (by omega)) (hst (by omega) (by omega)) ?_ ?_ ?_
    ·simp[H3,hm,Ak];omega
    ·simp[H4,hm,hk]
    ·have hwd:Bs d=Az (B6 d.field.kind):=by unfold Bs;rw[if_neg (by omega),if_pos hm]
     have hr:Pg d=d.want:=by unfold Pg;rw[if_pos hm]
     unfold Kn
     split
     ·rw[h0,hb0,hr]
      simp[Ak]
      omega
     ·rw[if_neg (by omega),hsc];exact Rk
theorem Pre.settle: ∀(k:Nat) (m:Mac),wM m≤k→Pre m.d→Dh (Ae m).d=true:=by
 intro k
 induction k with
 |zero=>
  intro m hk h
  have:=h.ne
  have:m.d.stack.length≤wM m:=by unfold wM;omega
  omega
 |succ k ih=>
  intro m hk h
  rcases h.close m.out with ⟨h1,h2⟩|⟨q,h1,h2⟩
  ·rw[Bw h1];exact h2
  ·rw[Cf h1]
   rcases h2 with h2|⟨h2,h3⟩
   ·exact ih q (by have h3:wM q<wM m:=(B2 h1).1;omega) h2
   ·rw[Bw h3];exact h2
theorem Fu {m:Mac} (h:Pre m.d):Dh (Ae m).d=true:=Pre.settle _ m (Nat.le_refl _) h
theorem Ah1 {d:Dcd} {o:List Ev} {u:Int} (h:Com d) (hw:d.want=0) (hu:0≤u):Dh (Cu ⟨d,o⟩ u).d=true:=by
 unfold Cu
 simp only
 split
 ·exact h.fail (by decide) h.st.1
 ·exact Fu ⟨⟨Qx (u:=u) h.lv rfl rfl hu (by omega),h.at_,h.st,h.ut,h.wi,h.fl,h.en⟩,rfl,Nat.zero_lt_one,.inl ⟨rfl,hw⟩⟩
theorem Ah2 {d:Dcd} {n:Int} (h:Com d) (hn:d.stack.length≠0):(fieldAt d.plan.shapes (Hb d).msg n).getD fld0=fld0∨H5 d.plan.shapes ((fieldAt d.plan.shapes (Hb d).msg n).getD fld0)=true:=by
 cases hf:fieldAt d.plan.shapes (Hb d).msg n with
 |none=>exact .inl rfl
 |some f=>
  right
  have hb:=B3 h.lv
  have hl:=hb.2.2.2 _ (Sb hn)
  simp only[E3,Bool.and_eq_true] at hl
  have hl:=Ar hl.1
  have hk:=(Xb (Cc hb.1).2.1 hf).2
  show H5 d.plan.shapes f=true
  refine Ya (k:=(Hb d).msg.toNat) Q2 ?_
  rw[hk,show (((Hb d).msg.toNat:Nat):Int)=(Hb d).msg by omega];exact hf
theorem Ami {d:Dcd} {o:List Ev} {u:Int} (h:Com d) (hw:d.want=0):Dh (Ea ⟨d,o⟩ u).d=true:=by
 unfold Ea
 simp only
 split
 ·exact h.fail (by decide) h.st.1
 ·rename_i h1
  simp only[not_or] at h1
  have hk:=Ah2 (n:=Bo u) h h1.2
  split
  ·exact h.fail (by decide) h.st.1
  ·rename_i h2
   have h2:Do (Aj u)=true:=by simpa using h2
   split
   ·exact h.fail (by decide) h.st.1
   ·rename_i h3
    split
    ·exact Ai9 (d:=⟨d.plan,d.mode,d.stack,⟨0,0⟩,d.start,d.at_,(fieldAt d.plan.shapes (Hb d).msg (Bo u)).getD fld0,Aj u,d.want,d.utf,d.end_⟩) (B4 h.lv rfl rfl) h.at_ h.st h.ut h2 hk (by decide) h.at_.1
    ·rename_i h4
     have hfit:(fieldAt d.plan.shapes (Hb d).msg (Bo u)).getD fld0=fld0∨Da ((fieldAt d.plan.shapes (Hb d).msg (Bo u)).getD fld0) (Aj u)=true:=by
      cases hf:fieldAt d.plan.shapes (Hb d).msg (Bo u) with
      |none=>exact .inl rfl
      |some f=>right;rw[hf] at h3;simpa using h3
     have hwi:Aj u=0∨Aj u=1∨Aj u=2∨Aj u=5:=by
      simp only[Do,Bool.or_eq_true,decide_eq_true_eq] at h2;omega
     have hwb:=D5 (Aj u)
     have htop: ∀e:Dcd,e.stack=d.stack→Ds e=Ds d:=fun e he=>by unfold Ds;rw[he]
     generalize (fieldAt d.plan.shapes (Hb d).msg (Bo u)).getD fld0=f at *
     generalize Aj u=w at *
     refine Jg (B4 h.lv rfl rfl) ?_ h.at_ h.st h.ut h2 hk ?_ ?_ ?_ ?_ ?_
     ·show 1≤(if w=0 then (3:Int) else if w=2 then 4 else 5)∧(if w=0 then (3:Int) else if w=2 then 4 else 5)≤9
      split<;>(try split)<;>omega
     ·rcases hwi with rfl|rfl|rfl|rfl<;>simp[Y1,h.en]
     ·have:=htop ⟨d.plan,if w=0 then 3 else if w=2 then 4 else 5,d.stack,⟨0,0⟩,d.start,d.at_,f,w,d.want,d.utf,d.end_⟩ rfl
      rcases hwi with rfl|rfl|rfl|rfl<;>simp[Kt] at this ⊢ <;>rw[this]<;>omega
     ·rcases hwi with rfl|rfl|rfl|rfl<;>simp[H3,hw]
     ·rcases hwi with rfl|rfl|rfl|rfl<;>simp[H4,Ai5,Az]<;>exact hfit
     ·have:=htop ⟨d.plan,if w=0 then 3 else if w=2 then 4 else 5,d.stack,⟨0,0⟩,d.start,d.at_,f,w,d.want,d.utf,d.end_⟩ rfl
      rcases hwi with rfl|rfl|rfl|rfl<;>simp[Kn,Bs,Az,Pg,Ak,Df] at this h4 ⊢ <;>rw[this]<;>omega
theorem Akb {f:Fld} (h:f=fld0∨Da f 2=true) (h0:f≠fld0) (h8:f.kind≠8) (hb:F2 f.kind=false):Tw f=true:=by
 rcases h with h|h
 ·exact absurd h h0
 ·simp only[Da,Bool.or_eq_true,Bool.and_eq_true,decide_eq_true_eq] at h
  rcases h with h|h
  ·exfalso
   simp only[F2,Bool.or_eq_false_iff,decide_eq_false_iff_not] at hb
   unfold B6 Ed at h
   split at h
   ·rename_i hk
    have hk:=Ar hk
    repeat' split at h
    all_goals omega
   ·omega
  ·exact h.2
theorem Akc {d:Dcd} {o:List Ev} {u:Int} (h:Com d) (hw:d.want=0) (hu:0≤u) (hf:d.field=fld0∨Da d.field 2=true):Dh (Cn ⟨d,o⟩ u).d=true:=by
 unfold Cn
 simp only
 split
 ·exact h.fail (by decide) h.st.1
 ·rename_i h1
  simp only[not_or] at h1
  have hn:0<d.stack.length:=by omega
  split
  ·exact Fu ⟨⟨B4 h.lv rfl rfl,h.at_,h.st,h.ut,h.wi,h.fl,h.en⟩,rfl,hn,.inr (.inr (.inl ⟨rfl,hu,by show u≤Ds d;omega⟩))⟩
  ·rename_i h0
   split
   ·rename_i h8
    split
    ·exact h.fail (by decide) h.st.1
    ·rename_i hd
     have hk:=h.fl.resolve_left h0
     exact Fu ⟨⟨Sc (u:=u) h.lv hk h8 h1.1 Q2 hu Q2 rfl rfl,h.at_,h.st,h.ut,h.wi,h.fl,h.en⟩,rfl,by simp,.inl ⟨rfl,rfl⟩⟩
   ·rename_i h8
    split
    ·rename_i hb
     exact Fu ⟨⟨B4 h.lv rfl rfl,h.at_,h.st,Af0,h.wi,h.fl,h.en⟩,rfl,hn,.inr (.inl ⟨rfl,hb,hu,by show u≤Ds d;omega⟩)⟩
    ·rename_i hb
     split
     ·exact h.fail (by decide) h.at_.1
     ·rename_i hx
      exact Fu ⟨⟨B4 h.lv rfl rfl,h.at_,h.st,h.ut,h.wi,h.fl,h.en⟩,rfl,hn,.inr (.inr (.inr ⟨rfl,Akb hf h0 h8 (by simpa using hb),hu,by show u≤Ds d;omega,by show u=0∨Az (B6 d.field.kind)≤u;omega⟩))⟩
theorem Com.start {d:Dcd} (h:Com d) {a:Int} (ha:0≤a∧a≤d.at_):Com (Gj d a):=by
 refine⟨B4 h.lv rfl rfl,h.at_,?_,h.ut,h.wi,h.fl,h.en⟩
 show 0≤(if d.scan.have_=0∧(d.mode=1∨d.mode=2∨d.mode=4) then a else d.start)∧(if d.scan.have_=0∧(d.mode=1∨d.mode=2∨d.mode=4) then a else d.start)≤d.at_
 split
 ·exact ha
 ·exact h.st
theorem Com.scan {d:Dcd} (h:Com d) (s:Scn):Com (Fq d s):=⟨B4 h.lv rfl rfl,h.at_,h.st,h.ut,h.wi,h.fl,h.en⟩
theorem Af1 {s:Scn} {b:Int} (h0:0≤s.bits) (h:(Ag s b).2=0):Df (Ag s b).1=true:=by
 unfold Ag at h ⊢
 split at h
 ·simp at h
 ·rename_i hc
  rw[if_neg hc]
  simp only[not_or] at hc
  have hs:Df s=true:=by simpa using hc.1
  have hb:=Ar (show Ak b 0 255=true by simpa using hc.2.1)
  have hk:=Uj hs h0
  have hb2: ¬b<128:=fun hx=>by rw[if_pos hx] at h;simp at h
  have h9:s.have_≠9:=fun e=>hc.2.2 ⟨e,by omega⟩
  obtain ⟨u,hv⟩:=s
  simp only at h0 hk h9 ⊢
  obtain ⟨k,rfl⟩:=Int.eq_ofNat_of_zero_le hk.1
  have hk9:k<9:=by omega
  have hu:=hk.2.2
  rw[Int.toNat_natCast] at hu ⊢
  have hp:(0:Int)<2 ^ (7*(k+1)):=Int.pow_pos (by decide)
  have hp2:(2:Int) ^ (7*(k+1))=2 ^ (7*k)*128:=by rw[show 7*(k+1)=7*k+7 by omega,Int.pow_add];rfl
  have hp0:(0:Int)<2 ^ (7*k):=Int.pow_pos (by decide)
  have hm:b % 128*2 ^ (7*k)≤127*2 ^ (7*k):=Int.mul_le_mul_of_nonneg_right (by omega) (by omega)
  have hm0:0≤b % 128*2 ^ (7*k):=Int.mul_nonneg (by omega) (by omega)
  simp only[Df,Ak,Bool.and_eq_true,decide_eq_true_eq]
  refine⟨⟨by omega,by omega⟩,?_⟩
  rw[show min (Int.toNat (7*((k:Int)+1))) 64=7*(k+1) by omega,Int.fdiv_eq_ediv_of_nonneg _ (Int.le_of_lt hp)]
  exact Int.ediv_eq_zero_of_lt Q2 Q2
theorem Amj {d:Dcd} {o:List Ev} {b a:Int} (h:Com d) (hb:0≤d.scan.bits∧d.scan.bits≤18446744073709551615) (ha:0≤a∧a≤d.at_) (h1:d.mode=1→d.stack=[]) (hn:d.mode≠1→0<d.stack.length) (hk:H4 d=true)
  (hm:((d.mode=1∨d.mode=2∨d.mode=3∨d.mode=4)∧d.want=0)∨(d.mode=8∧Az (B6 d.field.kind)=0∧0≤d.want∧d.want≤Ds d)):Dh (Bp ⟨d,o⟩ b a).d=true:=by
 have hcs:=h.start ha
 have hbt:=G5 h.lv
 have hbb:=P6 (b:=b) hb.1 hb.2
 unfold Bp
 simp only
 split
 ·exact hcs.fail (by decide) ha.1
 ·split
  ·rename_i hc
   have hsn:=Af1 hb.1 hc
   unfold Vo
   simp only
   split
   ·exact(hcs.scan _).fail (by decide) h.at_.1
   ·rename_i hx
    simp only[not_or,not_and] at hx
    have hcc:=hcs.scan (Ag d.scan b).1
    refine Jg hcc.lv (show 1≤d.mode∧d.mode≤9 by omega) hcc.at_ hcc.st hcc.ut hcc.wi hcc.fl ?_ ?_ ?_ hk ?_
    ·show (if d.mode=9 then _ else _)=true
     rw[if_neg (by omega)];exact decide_eq_true h.en
    ·show (if d.mode=1 then decide (d.stack=[]) else if d.mode=9 then true else decide (1≤Ds d))=true
     split
     ·rename_i hm1;exact decide_eq_true (h1 hm1)
     ·rename_i hm1
      rw[if_neg (by omega)];exact decide_eq_true (by have:=hx.1 hm1;omega)
    ·show (if d.mode=6∨d.mode=7∨d.mode=8 then Ak d.want 1 (Ds d) else decide (d.want=0))=true
     split
     ·have:=hx.2 (by omega)
      simp only[Ak,Bool.and_eq_true,decide_eq_true_eq];omega
     ·exact decide_eq_true (by omega)
    ·have hw:Bs (Fq (Gj d a) (Ag d.scan b).1)=0:=by
      show (if d.mode=5 then Az d.wire else if d.mode=8 then Az (B6 d.field.kind) else 0)=0
      rw[if_neg (by omega)]
      split<;>omega
     unfold Kn
     rw[hw,if_neg (by decide)]
     show (if d.mode=6∨d.mode=7∨d.mode=9 then decide ((Ag d.scan b).1=scn0) else Df (Ag d.scan b).1)=true
     rw[if_neg (by omega)]
     exact hsn
  ·split
   ·rename_i hm1
    exact Ah1 (hcs.scan _) (show d.want=0 by omega) hbb.1
   ·split
    ·rename_i hm1
     exact Ami (hcs.scan _) (show d.want=0 by omega)
    ·split
     ·rename_i hm1
      refine Akc (hcs.scan _) (show d.want=0 by omega) hbb.1 ?_
      unfold H4 at hk
      rw[if_neg (by omega),if_neg (by omega),if_neg (by omega),if_pos hm1] at hk
      simp only[Bool.and_eq_true,decide_eq_true_eq,Ai5,Bool.or_eq_true] at hk
      rw[hk.1] at hk
      exact hk.2
     ·rename_i hc1 hc2 hc3 hc4 hc5
      have hcc:=hcs.scan scn0
      refine Fu ⟨⟨B4 hcc.lv rfl rfl,hcc.at_,hcc.st,hcc.ut,hcc.wi,hcc.fl,hcc.en⟩,rfl,hn hc3,?_⟩
      rcases hm with hm|hm
      ·exact .inl ⟨by show (if d.mode=8 then (8:Int) else 2)=2;rw[if_neg (by omega)],hm.2⟩
      ·refine .inr (.inr (.inr ⟨by show (if d.mode=8 then (8:Int) else 2)=8;rw[if_pos hm.1],?_,hm.2.2.1,hm.2.2.2,?_⟩))
       ·unfold H4 at hk
        rw[if_neg (by omega),if_pos hm.1] at hk
        exact hk
       ·right;show Az (B6 d.field.kind)≤d.want;omega
theorem Ah3 {s:Scn} {b w:Int} (h:0≤s.have_∧s.have_+1<w) (hw:w≤8) (hf:Int.fdiv s.bits (2 ^ min (Int.toNat (8*s.have_)) 64)=0) (hb:0≤b∧b≤255):(Bt s b).have_=s.have_+1∧Int.fdiv (Bt s b).bits (2 ^ min (Int.toNat (8*(s.have_+1))) 64)=0:=by
 obtain ⟨u,hv⟩:=s
 simp only at h hf
 unfold Bt
 rw[if_pos ⟨by simp only[Ak,Bool.and_eq_true,decide_eq_true_eq];omega,by simp only[Ak,Bool.and_eq_true,decide_eq_true_eq];omega⟩]
 refine⟨rfl,?_⟩
 simp only
 obtain ⟨k,rfl⟩:=Int.eq_ofNat_of_zero_le h.1
 have hk:k<7:=by omega
 rw[show min (Int.toNat (8*(k:Int))) 64=8*k by omega] at hf ⊢
 rw[show min (Int.toNat (8*((k:Int)+1))) 64=8*(k+1) by omega]
 have hp0:(0:Int)<2 ^ (8*k):=Int.pow_pos (by decide)
 have hp:(0:Int)<2 ^ (8*(k+1)):=Int.pow_pos (by decide)
 have hp2:(2:Int) ^ (8*(k+1))=2 ^ (8*k)*256:=by rw[show 8*(k+1)=8*k+8 by omega,Int.pow_add];rfl
 have hp3:(2:Int) ^ (8*(k+1))≤2 ^ 56:=by
  rcases (show k=0∨k=1∨k=2∨k=3∨k=4∨k=5∨k=6 by omega) with rfl|rfl|rfl|rfl|rfl|rfl|rfl<;>decide
 have hp56:(2:Int) ^ 56=72057594037927936:=rfl
 rw[Int.fdiv_eq_ediv_of_nonneg _ (Int.le_of_lt hp0)] at hf
 have hd:=Int.mul_ediv_add_emod u (2 ^ (8*k))
 rw[hf,Int.mul_zero,Int.zero_add] at hd
 have hu0:=Int.emod_nonneg u (show (2:Int) ^ (8*k)≠0 by omega)
 have hu1:=Int.emod_lt_of_pos u hp0
 have hm:b*2 ^ (8*k)≤255*2 ^ (8*k):=Int.mul_le_mul_of_nonneg_right (by omega) (by omega)
 have hm0:0≤b*2 ^ (8*k):=Int.mul_nonneg (by omega) (by omega)
 rw[Int.fdiv_eq_ediv_of_nonneg _ (Int.le_of_lt hp),IntKind.wrap_u64,IntKind.wrap_u64]
 have e1:b*2 ^ (8*k) % 18446744073709551616=b*2 ^ (8*k):=Int.emod_eq_of_lt hm0 (by omega)
 rw[e1,Int.emod_eq_of_lt (by omega) (by omega)]
 exact Int.ediv_eq_zero_of_lt Q2 Q2
theorem Amk {d:Dcd} {o:List Ev} {b:Int} (h:Com d) (hn:0<d.stack.length) (hk:H4 d=true) (hb:0≤b∧b≤255) (h0:0≤d.scan.have_∧d.scan.have_≤Bs d-1) (hf:Int.fdiv d.scan.bits (2 ^ min (Int.toNat (8*d.scan.have_)) 64)=0) (hr:Bs d-d.scan.have_-1≤Pg d)
  (hm:(d.mode=5∧d.want=0)∨(d.mode=8∧0≤d.want∧d.want≤Ds d)):Dh (Dp ⟨d,o⟩ b).d=true:=by
 have hbt:=G5 h.lv
 have hwb:0≤Bs d∧Bs d≤8:=by
  have h1:=D5 d.wire
  have h2:=D5 (B6 d.field.kind)
  unfold Bs
  split
  ·omega
  ·split<;>omega
 have hro:Pg d=if d.mode=8 then d.want else Ds d:=rfl
 unfold Dp
 simp only
 split
 ·rename_i hx
  have h1:d.scan.have_+1<Bs d:=by
   unfold Bt at hx
   rw[if_pos ⟨by simp only[Ak,Bool.and_eq_true,decide_eq_true_eq];omega,by simp only[Ak,Bool.and_eq_true,decide_eq_true_eq];omega⟩] at hx
   exact hx
  have hfn:=Ah3 ⟨h0.1,h1⟩ hwb.2 hf hb
  have hcc:=h.scan (Bt d.scan b)
  refine Jg hcc.lv (show 1≤d.mode∧d.mode≤9 by omega) hcc.at_ hcc.st hcc.ut hcc.wi hcc.fl ?_ ?_ ?_ hk ?_
  ·show (if d.mode=9 then _ else _)=true
   rw[if_neg (by omega)];exact decide_eq_true h.en
  ·show (if d.mode=1 then decide (d.stack=[]) else if d.mode=9 then true else decide (1≤Ds d))=true
   rw[if_neg (by omega),if_neg (by omega)]
   refine decide_eq_true ?_
   split at hro<;>omega
  ·show (if d.mode=6∨d.mode=7∨d.mode=8 then Ak d.want 1 (Ds d) else decide (d.want=0))=true
   split
   ·rw[if_pos (by omega)] at hro
    simp only[Ak,Bool.and_eq_true,decide_eq_true_eq];omega
   ·exact decide_eq_true (by omega)
  ·have hw:Bs (Fq d (Bt d.scan b))=Bs d:=rfl
   have hrr:Pg (Fq d (Bt d.scan b))=Pg d:=rfl
   have hss:(Fq d (Bt d.scan b)).scan=Bt d.scan b:=rfl
   unfold Kn
   rw[hw,if_pos (by omega),hrr,hss,hfn.1]
   simp only[Ak,Bool.and_eq_true,decide_eq_true_eq]
   exact⟨⟨⟨by omega,by omega⟩,hfn.2⟩,by omega⟩
 ·have hcc:=h.scan scn0
  have hcv:Com (Bm ⟨Fq d scn0,o⟩ (Bt d.scan b).bits).d:=⟨B4 hcc.lv rfl rfl,hcc.at_,hcc.st,hcc.ut,hcc.wi,hcc.fl,hcc.en⟩
  split
  ·exact hcv.fail (by decide) h.at_.1
  ·rename_i hx
   refine Fu ⟨hcv,rfl,hn,?_⟩
   rcases hm with hm|hm
   ·exact .inl ⟨by show (if d.mode=8 then (8:Int) else 2)=2;rw[if_neg (by omega)],hm.2⟩
   ·have hw:Bs d=Az (B6 d.field.kind):=by unfold Bs;rw[if_neg (by omega),if_pos hm.1]
    refine .inr (.inr (.inr ⟨by show (if d.mode=8 then (8:Int) else 2)=8;rw[if_pos hm.1],?_,hm.2.1,hm.2.2,?_⟩))
    ·unfold H4 at hk
     rw[if_neg (by omega),if_pos hm.1] at hk
     exact hk
    ·show d.want=0∨Az (B6 d.field.kind)≤d.want
     omega
theorem Akd {d:Dcd} {o:List Ev} {b:Int} (h:Com d) (h1:1≤d.at_) (hm:d.mode=6) (hk:F2 d.field.kind=true) (hw:0≤d.want∧d.want≤Ds d) (hn:0<d.stack.length) (hs:d.scan=scn0):Dh (Eg ⟨d,o⟩ b).d=true:=by
 unfold Eg
 simp only
 split
 ·split
  ·exact h.fail (by decide) (by omega)
  ·rename_i u hu
   exact Fu ⟨⟨B4 h.lv rfl rfl,h.at_,h.st,Ac6 hu,h.wi,h.fl,h.en⟩,hs,hn,.inr (.inl ⟨hm,hk,hw.1,hw.2⟩)⟩
 ·exact Fu ⟨h,hs,hn,.inr (.inl ⟨hm,hk,hw.1,hw.2⟩)⟩
theorem Aja {u:Int} {k:Nat} (hk:k≤64) (h:Int.fdiv u (2 ^ k)=0):0≤u∧u≤18446744073709551615:=by
 have hp0:(0:Int)<2 ^ k:=Int.pow_pos (by decide)
 rw[Int.fdiv_eq_ediv_of_nonneg _ (Int.le_of_lt hp0)] at h
 have hd:=Int.mul_ediv_add_emod u (2 ^ k)
 rw[h,Int.mul_zero,Int.zero_add] at hd
 have hu0:=Int.emod_nonneg u (show (2:Int) ^ k≠0 by omega)
 have hu1:=Int.emod_lt_of_pos u hp0
 have hp:(2:Nat) ^ k≤2 ^ 64:=Nat.pow_le_pow_right (by decide) hk
 have hc:((2 ^ k:Nat):Int)=(2:Int) ^ k:=by simp
 have h64:(2:Nat) ^ 64=18446744073709551616:=rfl
 omega
theorem Ta {d:Dcd} (h:Dh d=true):0≤d.scan.bits∧d.scan.bits≤18446744073709551615:=by
 have hs:=(S6 h).2.2.2.2.2.2.2.2.2.2.2
 unfold Kn at hs
 split at hs
 ·simp only[Bool.and_eq_true,decide_eq_true_eq] at hs
  exact Aja (Nat.min_le_right _ _) hs.1.2
 ·split at hs
  ·have e:d.scan=scn0:=of_decide_eq_true hs
   rw[e];decide
  ·simp only[Df,Bool.and_eq_true,decide_eq_true_eq] at hs
   exact Aja (Nat.min_le_right _ _) hs.2
theorem Af2 {d:Dcd} (h:d.stack.length≠0):Ds (Di d)=Ds d-1:=by
 show (List.getD (Di d).stack ((Di d).stack.length-1) Ana).left=_
 rw[Ka]
 unfold Di
 simp only
 rw[if_neg h,List.getD_eq_getElem?_getD,List.getElem?_set_self (by omega)]
 rfl
theorem Ake {d:Dcd} {o:List Ev} {b:Int} (hok:Dh d=true) (h9:d.mode≠9) (hat:d.at_<1000000000) (hb:0≤b∧b≤255):Dh (Eb ⟨d,o⟩ b).d=true:=by
 obtain ⟨lv,hm,hat0,hst,hut,hwi,hfl,hen,hsk,hwd,hkd,hsc⟩:=S6 hok
 have hbits:=Ta hok
 have hs:=Yf hok h9
 have hms:=(Ye hok hbits).step hs.1 hs.2.1 hs.2.2.1
 have hw:=Aaz hwd
 have hc:Com (Di d):=⟨hms.lv,(show 0≤d.at_+1∧d.at_+1≤1000000000 by omega),(show 0≤d.start∧d.start≤d.at_+1 by omega),hut,hwi,hfl,hs.2.2.2.2⟩
 have hk:H4 (Di d)=true:=hkd
 have htp:d.mode≠1→1≤Ds d:=fun h1=>by unfold Kt at hsk;rw[if_neg h1,if_neg h9] at hsk;exact of_decide_eq_true hsk
 have hn:d.mode≠1→0<d.stack.length:=fun h1=>by
  have:=htp h1
  by_cases h0:d.stack.length=0
  ·rw[Yc (List.eq_nil_of_length_eq_zero h0)] at this;omega
  ·omega
 have hns:d.mode≠1→0<(Di d).stack.length:=fun h1=>by rw[Ka];exact hn h1
 have ht:d.mode≠1→Ds (Di d)=Ds d-1:=fun h1=>Af2 (by have:=hn h1;omega)
 have hwa:(Di d).want=if d.mode=6∨d.mode=7∨d.mode=8 then d.want-1 else d.want:=rfl
 have hwb:=D5 (B6 d.field.kind)
 unfold Eb
 simp only
 split
 ·rename_i h6
  have hw1:=hw.1 (by omega)
  rw[if_pos (by omega)] at hwa
  have ht:=ht (by omega)
  refine Akd hc (show 1≤d.at_+1 by omega) h6 ?_ Q2 (hns Q2) ?_
  ·unfold H4 at hkd;rw[if_pos h6] at hkd;exact hkd
  ·unfold Kn Bs at hsc
   rw[if_neg (show¬d.mode=5 by omega),if_neg (show¬d.mode=8 by omega),if_neg (by decide),if_pos (by omega)] at hsc
   exact of_decide_eq_true hsc
 ·split
  ·rename_i h6 h7
   have hw1:=hw.1 (by omega)
   rw[if_pos (by omega)] at hwa
   have ht:=ht (by omega)
   refine Fu ⟨hc,?_,hns Q2,.inr (.inr (.inl ⟨h7,by show 0≤(Di d).want;omega,by show (Di d).want≤Ds (Di d);omega⟩))⟩
   unfold Kn Bs at hsc
   rw[if_neg (show¬d.mode=5 by omega),if_neg (show¬d.mode=8 by omega),if_neg (by decide),if_pos (by omega)] at hsc
   exact of_decide_eq_true hsc
  ·rename_i h6 h7
   split
   ·rename_i h0
    unfold Kn at hsc
    rw[if_pos h0] at hsc
    simp only[Bool.and_eq_true,decide_eq_true_eq] at hsc
    have hh:=Ar hsc.1.1
    have hwe:Bs (Di d)=Bs d:=rfl
    have hmm:d.mode=5∨d.mode=8:=by unfold Bs at h0;split at h0<;>(try split at h0)<;>omega
    have ht:=ht (by omega)
    have hr1:Pg d=if d.mode=8 then d.want else Ds d:=rfl
    have hr2:Pg (Di d)=if d.mode=8 then (Di d).want else Ds (Di d):=rfl
    refine Amk hc (hns Q2) hk hb (by rw[hwe];exact hh) hsc.1.2 ?_ ?_
    ·rw[hwe]
     show Bs d-d.scan.have_-1≤Pg (Di d)
     rcases hmm with h5|h8
     ·rw[if_neg (by omega)] at hr1 hr2;omega
     ·rw[if_pos h8] at hr1 hr2;rw[if_pos (by omega)] at hwa;omega
    ·rcases hmm with h5|h8
     ·rw[if_neg (by omega)] at hwa
      exact .inl ⟨h5,by rw[hwa];exact hw.2 Q2⟩
     ·rw[if_pos (by omega)] at hwa
      have hw1:=hw.1 (by omega)
      exact .inr ⟨h8,by omega,by omega⟩
   ·rename_i h0
    have h5:d.mode≠5:=fun h5=>by
     unfold H4 at hkd
     rw[if_neg (by omega),if_neg (by omega),if_neg (by omega),if_neg (by omega),if_pos h5] at hkd
     simp only[Bool.and_eq_true,decide_eq_true_eq] at hkd
     unfold Bs at h0
     rw[if_pos h5] at h0
     omega
    refine Amj hc hbits (show 0≤d.at_∧d.at_≤d.at_+1 by omega) (fun h1=>?_) hns hk ?_
    ·unfold Kt at hsk
     rw[if_pos (show d.mode=1 from h1)] at hsk
     have e:d.stack=[]:=of_decide_eq_true hsk
     exact List.eq_nil_of_length_eq_zero (by rw[Ka,e];rfl)
    ·by_cases h8:d.mode=8
     ·rw[if_pos (by omega)] at hwa
      have hw1:=hw.1 (by omega)
      have ht:=ht (by omega)
      refine .inr ⟨h8,?_,by omega,by omega⟩
      unfold Bs at h0
      rw[if_neg (by omega),if_pos h8] at h0
      show Az (B6 d.field.kind)=0
      omega
     ·rw[if_neg (by omega)] at hwa
      exact .inl ⟨(show d.mode=1∨d.mode=2∨d.mode=3∨d.mode=4 by omega),by rw[hwa];exact hw.2 Q2⟩
def Kd (o:List Ev) (m:Mac):Mac:=⟨m.d,o++m.out⟩
theorem E7 (o:List Ev) (m:Mac) (c a:Int):A0 (Kd o m) c a=Kd o (A0 m c a):=by simp[A0,Kd,List.append_assoc]
theorem Xn (o:List Ev) (m:Mac):Ay (Kd o m)=(Ay m).map (Kd o):=by
 have hd:(Kd o m).d=m.d:=rfl
 unfold Ay
 rw[hd]
 split
 ·split<;>simp[A0,Kd,List.append_assoc]
 ·split
  ·simp[Kd]
  ·split
   ·split<;>simp[Kd,List.append_assoc]
   ·rfl
theorem K6 (o:List Ev): ∀(m:Mac),Ae (Kd o m)=Kd o (Ae m):=by
 suffices ∀(k:Nat) (m:Mac),wM m≤k→Ae (Kd o m)=Kd o (Ae m) from fun m=>this _ m (Nat.le_refl _)
 intro k
 induction k with
 |zero=>
  intro m hk
  have hp:=Xn o m
  cases h:Ay m with
  |none=>rw[Bw h];rw[h] at hp;exact Bw hp
  |some q=>have:=(B2 h).1;omega
 |succ k ih=>
  intro m hk
  have hp:=Xn o m
  cases h:Ay m with
  |none=>rw[Bw h];rw[h] at hp;exact Bw hp
  |some q=>
   rw[h] at hp
   rw[Cf h,Cf hp]
   exact ih q (by have:=(B2 h).1;omega)
theorem Ep {o:List Ev} {d:Dcd} {p r:List Ev} (h:r=o++p):Ae ⟨d,r⟩=Kd o (Ae ⟨d,p⟩):=by subst h;exact K6 o ⟨d,p⟩
theorem Adi (o:List Ev) (m:Mac) (u:Int):Cu (Kd o m) u=Kd o (Cu m u):=by
 have hd:(Kd o m).d=m.d:=rfl
 unfold Cu
 rw[hd]
 split
 ·exact E7 _ _ _ _
 ·exact Ep (List.append_assoc _ _ _)
theorem Ah4 (o:List Ev) (m:Mac) (u:Int):Ea (Kd o m) u=Kd o (Ea m u):=by
 have hd:(Kd o m).d=m.d:=rfl
 unfold Ea
 rw[hd]
 split
 ·exact E7 _ _ _ _
 ·split
  ·exact E7 _ _ _ _
  ·split
   ·exact E7 _ _ _ _
   ·split
    ·simp[A0,Kd,List.append_assoc]
    ·rfl
theorem Af3 (o:List Ev) (m:Mac) (u:Int):Cn (Kd o m) u=Kd o (Cn m u):=by
 have hd:(Kd o m).d=m.d:=rfl
 unfold Cn
 rw[hd]
 split
 ·exact E7 _ _ _ _
 ·split
  ·exact Ep rfl
  ·split
   ·split
    ·exact E7 _ _ _ _
    ·exact Ep (List.append_assoc _ _ _)
   ·split
    ·exact Ep (List.append_assoc _ _ _)
    ·split
     ·exact E7 _ _ _ _
     ·exact Ep rfl
theorem Tb (o:List Ev) (m:Mac) (u:Int):Bm (Kd o m) u=Kd o (Bm m u):=by
 unfold Bm Kd
 simp only
 by_cases h:m.d.field=fld0<;>simp[h,List.append_assoc]
theorem Ah5 (o:List Ev) (m:Mac) (b a:Int):Bp (Kd o m) b a=Kd o (Bp m b a):=by
 have hd:(Kd o m).d=m.d:=rfl
 have hq: ∀d:Dcd,(⟨d,(Kd o m).out⟩:Mac)=Kd o ⟨d,m.out⟩:=fun _=>rfl
 unfold Bp
 simp only[hd,hq]
 split
 ·exact E7 _ _ _ _
 ·split
  ·unfold Vo
   rw[hd]
   split
   ·exact E7 _ _ _ _
   ·rfl
  ·split
   ·exact Adi _ _ _
   ·split
    ·exact Ah4 _ _ _
    ·split
     ·exact Af3 _ _ _
     ·rw[Tb,K6]
theorem Ah6 (o:List Ev) (m:Mac) (b:Int):Dp (Kd o m) b=Kd o (Dp m b):=by
 have hd:(Kd o m).d=m.d:=rfl
 have hq: ∀d:Dcd,(⟨d,(Kd o m).out⟩:Mac)=Kd o ⟨d,m.out⟩:=fun _=>rfl
 unfold Dp
 simp only[hd,hq]
 split
 ·rfl
 ·split
  ·rw[Tb,E7]
  ·rw[Tb,K6]
theorem Af4 (o:List Ev) (m:Mac) (b:Int):Eg (Kd o m) b=Kd o (Eg m b):=by
 have hd:(Kd o m).d=m.d:=rfl
 unfold Eg
 rw[hd]
 split
 ·split
  ·exact E7 _ _ _ _
  ·exact Ep (List.append_assoc _ _ _)
 ·exact Ep (List.append_assoc _ _ _)
theorem Af5 (o:List Ev) (m:Mac) (b:Int):Eb (Kd o m) b=Kd o (Eb m b):=by
 have hd:(Kd o m).d=m.d:=rfl
 have hq: ∀d:Dcd,(⟨d,(Kd o m).out⟩:Mac)=Kd o ⟨d,m.out⟩:=fun _=>rfl
 unfold Eb
 simp only[hd,hq]
 split
 ·exact Af4 _ _ _
 ·split
  ·exact K6 _ _
  ·split
   ·exact Ah6 _ _ _
   ·exact Ah5 _ _ _ _
def Pi (m:Mac) (b:Int):Mac:=⟨(B8 m.d b).d,m.out++(B8 m.d b).out⟩
def Ce (m:Mac) (s:List UInt8):Mac:=s.foldl (fun m b=>Pi m (b.toNat:Int)) m
theorem So (m:Mac):Ce m []=m:=rfl
theorem Fh (m:Mac) (b:UInt8) (r:List UInt8):Ce m (b::r)=Ce (Pi m (b.toNat:Int)) r:=List.foldl_cons ..
theorem Adj {d:Dcd} {b:Int} (hok:Dh d=true) (ht:E1 d=true) (hb:0≤b∧b≤255):B8 d b=Eb ⟨d,[]⟩ b:=by
 unfold B8
 rw[if_pos ⟨hok,ht,by simp only[Ak,Bool.and_eq_true,decide_eq_true_eq];exact hb⟩]
theorem Adk {m:Mac} {b:Int} (hok:Dh m.d=true) (ht:E1 m.d=true) (hb:0≤b∧b≤255):Pi m b=Eb m b:=by
 have h:=Af5 m.out ⟨m.d,[]⟩ b
 have e:Kd m.out ⟨m.d,[]⟩=m:=by cases m;simp[Kd]
 rw[e] at h
 unfold Pi
 rw[Adj hok ht hb,h];rfl
theorem Acc {d:Dcd} {b:Int} (h:Dh d=false∨E1 d=false):B8 d b=⟨d,[]⟩:=by
 unfold B8
 rw[if_neg]
 rintro ⟨h1,h2,-⟩
 rcases h with h|h
 ·rw[h] at h1;cases h1
 ·rw[h] at h2;cases h2
theorem Acd {m:Mac} {b:Int} (h:Dh m.d=false∨E1 m.d=false):Pi m b=m:=by
 unfold Pi
 rw[Acc h]
 cases m;simp
theorem Ace {d:Dcd} (h:E1 d=true):d.mode≠9∧d.at_<1000000000:=by
 simpa only[E1,Bool.and_eq_true,Bool.not_eq_true',decide_eq_false_iff_not,decide_eq_true_eq] using h
theorem Acf {d:Dcd} {b:Int} (hok:Dh d=true):Dh (B8 d b).d=true:=by
 unfold B8
 split
 ·rename_i h
  have ht:=Ace h.2.1
  exact Ake hok ht.1 ht.2 (Ar h.2.2)
 ·exact hok
theorem Z1 {m:Mac} (h:Dh m.d=false): ∀s:List UInt8,Ce m s=m
 |[]=>rfl
 |b::r=>by rw[Fh,Acd (.inl h)];exact Z1 h r
theorem Yk {m:Mac} (h:E1 m.d=false): ∀s:List UInt8,Ce m s=m
 |[]=>rfl
 |b::r=>by rw[Fh,Acd (.inr h)];exact Yk h r
theorem Adm {m:Mac} (h:E1 m.d=false) (s r:List UInt8):Ce m s=Ce m r:=by rw[Yk h,Yk h]
theorem Pj {d:Dcd} {b:Int} :(B8 d b).d.plan=d.plan∧((B8 d b).d.stack.length:Int)≤max (d.stack.length:Int) 8∧(B8 d b).out.length≤14∧((0≤d.scan.bits∧d.scan.bits≤18446744073709551615)→0≤(B8 d b).d.scan.bits∧(B8 d b).d.scan.bits≤18446744073709551615):=by
 cases hok:Dh d with
 |false=>rw[Acc (.inl hok)];exact⟨rfl,by simp only;omega,by simp,fun h=>h⟩
 |true=>
  have h1:=Acf (b:=b) hok
  have h2:=B3 (S6 hok).1
  have h3:=B3 (S6 h1).1
  exact⟨Ac8.1,by omega,by have:=Afj (d:=d) (b:=b);omega,fun _=>Ta h1⟩
theorem Anp (b:UInt8):(0:Int)≤(b.toNat:Int)∧(b.toNat:Int)≤255:=by have:=b.toNat_lt;omega
theorem Sp: ∀(s:List UInt8) (m:Mac),(Ce m s).d.plan=m.d.plan∧((Ce m s).d.stack.length:Int)≤max (m.d.stack.length:Int) 8∧(Ce m s).out.length≤m.out.length+14*s.length∧((0≤m.d.scan.bits∧m.d.scan.bits≤18446744073709551615)→0≤(Ce m s).d.scan.bits∧(Ce m s).d.scan.bits≤18446744073709551615)
 |[],m=>⟨rfl,by show (m.d.stack.length:Int)≤_;omega,Nat.le_refl _,fun h=>h⟩
 |b::r,m=>by
  have h1:=Pj (d:=m.d) (b:=(b.toNat:Int))
  have h2:=Sp r (Pi m (b.toNat:Int))
  rw[Fh]
  have e1:(Pi m (b.toNat:Int)).d=(B8 m.d (b.toNat:Int)).d:=rfl
  have e2:(Pi m (b.toNat:Int)).out.length=m.out.length+(B8 m.d (b.toNat:Int)).out.length:=by simp[Pi]
  rw[e1,e2] at h2
  refine⟨h2.1.trans h1.1,by omega,by simp only[List.length_cons];omega,fun h=>h2.2.2.2 (h1.2.2.2 h)⟩
theorem Xo  :Fun Tryz.prog 98 [] [] (.tup []) []:=by
 have hN:Bb=274877906944:=rfl
 refine Ap Tryz.func98 Q4 Q4 (w:=(.leaf () [],Lf (.tup []) (.tup []) [] [])) Q4 ?_
 exact⟨rfl,rfl⟩
structure Ly where
 m:Mac
 v:Nat
def Lz (m:Mac) (s:List UInt8):Fam:=⟨Ly,fun q1=>[(0,.v (vP 0)),(1,.v (vT s)),(2,.v (.c (.fn 98 []))),(8,.v (vI ((List.length s:Nat):Int))),(9,.v (vI ((q1.v:Nat):Int)))],fun q1=>[.cells (Ab 4 5 6 q1.m),.dead,.dead,.dead,.tree q1.m.d.plan.shapes,.lst .lev q1.m.d.stack,.lst .ev q1.m.out],fun q1=>q1.v≤List.length s∧Ce q1.m (List.drop q1.v s)=Ce m s∧Dh (q1.m).d=true∧List.length (q1.m).out≤List.length m.out+14*q1.v,fun q1=>List.length s-q1.v⟩
theorem Akf (m:Mac) (s:List UInt8) (hp1:Dh (m).d=true) (hp2:List.length (m).out≤1000000) (hp3:List.length s≤1048576):Fun Tryz.prog 97 [vP 0,vT s,.c (.fn 98 [])] [.cells (Ab 1 2 3 m),.tree m.d.plan.shapes,.lst .lev m.d.stack,.lst .ev m.out] (.tup []) [.cells (Ab 4 5 6 (Ce m s)),.dead,.dead,.dead,.tree (Ce m s).d.plan.shapes,.lst .lev (Ce m s).d.stack,.lst .ev (Ce m s).out]:=by
 have hN:Bb=274877906944:=rfl
 refine Ap Tryz.func97 Q4 Q4 (w:=let z7:=((List.length s:Nat):Int);let z8:=Lz m s;(.seg [.at 0,.cut 0 0,.cut 0 5,.cut 0 27,.keep [0,1,2,8,9],.sel [0,1,2,3,4,5,6]] (.loop z8 fun q1=>let z4:S:= .v (vI (((q1.v:Nat):Int)+1));.br (.seg [.call [] (.v (vB (E1 q1.m.d))) []] (.br (.intro (Sx (s[q1.v]?)) fun x1=>let z1:=Eb q1.m ((UInt8.toNat x1:Nat):Int);.seg [.ch x1,.as 21 (.v (vI ((UInt8.toNat x1:Nat):Int))),.call [0,4,5,6] (.tup []) [.cells (Ab 4 5 6 z1),.dead,.dead,.dead,.tree z1.d.plan.shapes,.lst .lev z1.d.stack,.lst .ev z1.out],.call [] (.tup []) [],.as 25 z4,.at 0,.keep [0,1,2,8,9],.sel [0,1,2,3,7,8,9]] (.next)) (.seg [.call [] (.tup []) [],.as 25 z4,.at 0,.keep [0,1,2,8,9],.sel [0,1,2,3,4,5,6]] (.next)))) (.leaf () [0,1,2,3,4,5,6])),z8.Has [(0,.v (vP 0)),(1,.v (vT s)),(2,.v (.c (.fn 98 []))),(8,.v (vI z7)),(9,.v (vI 0))] [.cells (Ab 4 5 6 m),.dead,.dead,.dead,.tree m.d.plan.shapes,.lst .lev m.d.stack,.lst .ev m.out]∧∀q1,z8.inv q1→(let z5:List Blk:=[.cells (Ab 4 5 6 q1.m),.dead,.dead,.dead,.tree q1.m.d.plan.shapes,.lst .lev q1.m.d.stack,.lst .ev q1.m.out];let z6:=((q1.v:Nat):Int);Bc (decide (z6<z7)) ((Fp 155 [.agg (Bu q1.m.d)] [] (.v (vB (E1 q1.m.d))) [])∧Bc (E1 q1.m.d) (El (s[q1.v]?) fun x1=>(let z3:=((UInt8.toNat x1:Nat):Int);let z2:=Eb q1.m z3;(s[q1.v]? =some x1)∧((0:Int)≤z6)∧(wI (z3))∧(Fp 156 [vP 0,vI z3] [.cells (Ab 1 2 3 q1.m),.tree q1.m.d.plan.shapes,.lst .lev q1.m.d.stack,.lst .ev q1.m.out] (.tup []) [.cells (Ab 4 5 6 z2),.dead,.dead,.dead,.tree z2.d.plan.shapes,.lst .lev z2.d.stack,.lst .ev z2.out])∧(Fp 98 [] [] (.tup []) [])∧(wI (z6+1))∧z8.Nxt q1 [(0,.v (vP 0)),(1,.v (vT s)),(2,.v (.c (.fn 98 []))),(8,.v (vI z7)),(9,.v (vI (z6+1)))] [.cells (Ab 4 5 6 z2),.dead,.dead,.dead,.tree z2.d.plan.shapes,.lst .lev z2.d.stack,.lst .ev z2.out])) ((Fp 98 [] [] (.tup []) [])∧(wI (z6+1))∧z8.Nxt q1 [(0,.v (vP 0)),(1,.v (vT s)),(2,.v (.c (.fn 98 []))),(8,.v (vI z7)),(9,.v (vI (z6+1)))] z5)) (Lf (.tup []) (.tup []) z5 [.cells (Ab 4 5 6 (Ce m s)),.dead,.dead,.dead,.tree (Ce m s).d.plan.shapes,.lst .lev (Ce m s).d.stack,.lst .ev (Ce m s).out])))) Q4 ?_
 refine⟨Bf (j:=(⟨m,0⟩:Ly)) Q9 rfl (by dsimp only[Lz];exact⟨by omega,rfl,hp1,by omega⟩),fun (q1:Ly) hq_q1=>?_⟩
 have hi_q1:q1.v≤List.length s∧Ce q1.m (List.drop q1.v s)=Ce m s∧Dh (q1.m).d=true∧List.length (q1.m).out≤List.length m.out+14*q1.v:=hq_q1
 obtain ⟨v1,v2,v3,v4⟩:=hi_q1
 have hbt:=Ta v3
 have hmw:=Ye v3 hbt
 have hlv:=B3 hmw.lv
 have hpt:=Cc hlv.1
 refine dsp (fun h1 p1=>?_) fun h1 p1=>?_
 refine⟨(Aka q1.m.d),fun h2=>?_,fun h2=>?_⟩
 have hta:E1 q1.m.d=true:=h2
 have htk:=Ace hta
 have hst:=Yf v3 htk.1
 refine⟨(Bh (l:=s) (i:=q1.v) Q2),fun x1 hx1=>?_⟩
 have hb_x1:=UInt8.toNat_lt x1
 rw[C2 hx1,Fh] at v2
 have hub:=Anp x1
 have hsm:=Adk (m:=q1.m) v3 hta hub
 exact⟨hx1,Q2,(Ac Q2 Q2),(Amh q1.m _ (hmw) Q2 Q2 Q2 Q2 (hst.2.2.1)),(Xo),(Ac Q2 Q2),A3 (j:=(⟨(Eb q1.m ((UInt8.toNat x1:Nat):Int)),q1.v+1⟩:Ly)) Q9 rfl Q51 (by dsimp only[Lz];omega)⟩
 have hnt:E1 q1.m.d=false:=h2
 exact⟨(Xo),(Ac Q2 Q2),A3 (j:=(⟨q1.m,q1.v+1⟩:Ly)) Q9 rfl Q51 (by dsimp only[Lz];omega)⟩
 rw[List.drop_eq_nil_of_le (by omega),So] at v2
 refine zE (Ce m s) q1.m (fun hm1=>⟨rfl,Q6⟩) ?_
 rotate_left
 all_goals first|((rw[←v2];done))|(rfl)|(grind)
theorem Af6 (d:Dcd) (s:List UInt8) (hp1:List.length (d).plan.shapes≤1048576) (hp2: ∀e∈(d).plan.shapes,List.length e.fields≤1048576) (hp3:List.length (d).stack≤1048576) (hp4:(0:Int)≤(d).scan.bits∧(d).scan.bits≤18446744073709551615) (hp5:List.length s≤1048576):Fun Tryz.prog 47 [.agg (Bu d),vT s] [] (.tup [.agg (Ad 0 1 (Ce ⟨d,[]⟩ s).d),vO 2]) [.tree (Ce ⟨d,[]⟩ s).d.plan.shapes,.lst .lev (Ce ⟨d,[]⟩ s).d.stack,.lst .ev (Ce ⟨d,[]⟩ s).out]:=by
 have hN:Bb=274877906944:=rfl
 refine Ap Tryz.func47 Q4 Q4 (w:=let zi:Int→C:= .int .i64;let z1:=Ce (⟨d,([]:List Ev)⟩:Mac) s;let z2:List Blk:=[.cells (Ab 4 5 6 z1),.dead,.dead,.dead,.tree z1.d.plan.shapes,.lst .lev z1.d.stack,.lst .ev z1.out];let z3:=Ce ⟨d,[]⟩ s;let z4:S:= .tup [.agg (Ad 0 1 z3.d),vO 2];(.seg [.call [] (.v (.agg (Ad 0 1 d))) (L2 d),.call [] (.v (vB (Dh d))) []] (.br (.seg [.at 4,.mk 4 27 .ev,.call [4,2,3,5] (.tup []) z2,.ord (os 10 [8]) [1]] (.leaf () [6,7,8])) (.seg [.ord (os 10 [8]) [1],.at 0,.mkS 5 .ev] (.leaf () [2,3,5]))),(Fp 82 [.agg (Bu d)] [] (.v (.agg (Ad 0 1 d))) (L2 d))∧(Fp 96 [.agg (Bu d)] [] (.v (vB (Dh d))) [])∧Bc (Dh d) ((Fp 97 [vP 0,vT s,.c (.fn 98 [])] [.cells [.own 1,zi d.plan.root,zi d.plan.deep,zi d.plan.most,zi d.mode,.own 2,.int .u64 d.scan.bits,zi d.scan.have_,zi d.start,zi d.at_,zi d.field.number,zi d.field.kind,.bool d.field.rep,.bool d.field.packed,zi d.field.msg,zi d.wire,zi d.want,zi d.utf.want,zi d.utf.low,zi d.utf.high,zi d.end_.kind,zi d.end_.field,.int .u64 d.end_.bits,zi d.end_.len,.str d.end_.text,zi d.end_.code,zi d.end_.at_,.own 3],.tree d.plan.shapes,.lst .lev d.stack,.lst .ev ([]:List Ev)] (.tup []) z2)∧Lf (.tup [.agg (Ad 0 1 z1.d),vO 2]) z4 (Ls z1.d z1.out) (Ls z3.d z3.out)) (Lf (.tup [.agg (Ad 0 1 d),vO 2]) z4 (Ls d ([]:List Ev)) (Ls z3.d z3.out)))) Q4 ?_
 refine⟨(Zz d Q2 (hp2) Q2),(Aj7 d Q2 Q2),fun h1=>?_,fun h1=>?_⟩
 refine zM Mac.d Mac.out (Ce ⟨d,[]⟩ s) (Ce (⟨d,([]:List Ev)⟩:Mac) s) (fun hm1 hm2=>⟨(Akf (⟨d,([]:List Ev)⟩:Mac) _ Q7 Q20 Q2),Q6,Q10⟩) ?_ ?_
 rotate_left 2
 have hbad:Ce ⟨d,[]⟩ s=⟨d,[]⟩:=Z1 (m:=⟨d,[]⟩) (by simpa using h1) s
 refine zD ((Ce ⟨d,[]⟩ s).d) d ((Ce ⟨d,[]⟩ s).out) ([]:List Ev) (fun hm1 hm2=>⟨Q6,Q10⟩) ?_ ?_
 rotate_left 2
 all_goals first|(rfl)|((rw[hbad];done))|(grind)
theorem Aa1 (a:List Ev): ∀(k:Nat) (d:Dcd) (o:List Ev),wM ⟨d,o⟩≤k→Ae ⟨d,a++o⟩=⟨(Ae ⟨d,o⟩).d,a++(Ae ⟨d,o⟩).out⟩:=by
 have hc: ∀(d:Dcd) (o:List Ev),Ay ⟨d,a++o⟩=(Ay ⟨d,o⟩).map fun q=>⟨q.d,a++q.out⟩:=by
  intro d o
  unfold Ay A0
  simp only
  split
  ·split<;>simp
  ·split
   ·rfl
   ·split
    ·split<;>simp
    ·rfl
 intro k
 induction k with
 |zero=>
  intro d o hk
  cases h:Ay ⟨d,o⟩ with
  |none=>rw[Bw h,Bw (by rw[hc,h];rfl)]
  |some q=>have:=(B2 h).1;omega
 |succ k ih=>
  intro d o hk
  cases h:Ay ⟨d,o⟩ with
  |none=>rw[Bw h,Bw (by rw[hc,h];rfl)]
  |some q=>
   have h2:Ay ⟨d,a++o⟩=some ⟨q.d,a++q.out⟩:=by rw[hc,h];rfl
   rw[Cf h,Cf h2]
   have h3:=(B2 h).1
   exact ih q.d q.out (by have:wM (⟨q.d,q.out⟩:Mac)=wM q:=rfl;omega)
theorem Cg (d:Dcd) (e:Ev):Ae ⟨d,[e]⟩=⟨(Ae ⟨d,[]⟩).d,e::(Ae ⟨d,[]⟩).out⟩:=Aa1 [e] _ d [] (Nat.le_refl _)
structure Jh where
 i:Nat
def Ji (d:Dcd):Fam:=⟨Jh,fun q1=>[(1,.v (vP 0)),(3,.v (vI ((q1.i:Nat):Int)))],fun _=>[.cells (Bu d)],fun q1=>q1.i≤List.length d.stack∧Wu (List.length d.plan.shapes:Int) (List.drop q1.i d.stack)+q1.i=Wu (List.length d.plan.shapes:Int) d.stack,fun q1=>List.length d.stack-q1.i⟩
theorem Tc (d:Dcd) (hp1:List.length (d).stack≤Bb) (hp2:List.length (d).plan.shapes≤Bb):Fun Tryz.prog 292 [.agg (Bu d)] [] (.v (vB (Bd d))) []:=by
 have hN:Bb=274877906944:=rfl
 refine Ap Tryz.func292 Q4 Q4 (w:=let z7:=((List.length d.plan.shapes:Nat):Int)-1;let z9:=Ji d;let z10:S:= .v (vB (Bd d));let z8:=Lf (.v (vB false)) z10 [] [];let z11:=((List.length d.stack:Nat):Int);(.seg [.call [] (.v (vB (C8 d.plan))) []] (.br (.leaf () []) (.br (.leaf () []) (.seg [.at 0,.keep [1,3],.sel [0]] (.loop z9 fun q1=> .br (.intro (Sx (d.stack[q1.i]?)) fun x1=>let z1:=Ak x1.msg 0 z7;.case (!z1) (.seg [.ord (os 24 [12,21]) [],.el .lev x1,.as 35 (.v (vI z7)),.call [] (.v (vB z1)) [],.br true] (.leaf () [])) (.seg [.ord (os 24 [12,21]) [],.el .lev x1,.as 35 (.v (vI z7)),.call [] (.v (vB z1)) [],.br false,.el .lev x1,.call [] (.v (vB (Ak x1.left 0 2000))) []] (.br (.leaf () []) (.seg [.as 23 (.v (vI (((q1.i:Nat):Int)+1))),.at 0,.keep [1,3],.sel [0]] (.next))))) (.leaf () []))))),(Fp 42 [.agg (Nw d.plan)] [] (.v (vB (C8 d.plan))) [])∧Bc (!(C8 d.plan)) z8 (Bc (decide (d.plan.deep<z11)) z8 (z9.Has [(1,.v (vP 0)),(3,.v (vI 0))] [.cells (Bu d)]∧∀q1,z9.inv q1→(let z6:=((q1.i:Nat):Int);let z5:=(0:Int)≤z6;Bc (decide (z6<z11)) (El (d.stack[q1.i]?) fun x1=>(let z2:=Ak x1.msg 0 z7;let z3:=d.stack[q1.i]? =some x1;let z4:List V:=[vI x1.msg,vI 0,vI z7];Bc (!z2) (z3∧z5∧z3∧z5∧(wI z7)∧(wI z7)∧(Fp 71 z4 [] (.v (vB z2)) [])∧((!z2)=true)∧Lf (.v (vB false)) z10 [] []) (z3∧z5∧z3∧z5∧(wI z7)∧(wI z7)∧(Fp 71 z4 [] (.v (vB z2)) [])∧((!z2)=false)∧z3∧z5∧z3∧z5∧(Fp 71 [vI x1.left,vI 0,vI 2000] [] (.v (vB (Ak x1.left 0 2000))) [])∧Bc (!(Ak x1.left 0 2000)) z8 ((wI (z6+1))∧z9.Nxt q1 [(1,.v (vP 0)),(3,.v (vI (z6+1)))] [.cells (Bu d)])))) (Lf (.v (vB true)) z10 [] [])))))) Q4 ?_
 refine⟨(Un d.plan),fun h1=>have q1:=Ao h1;?_,fun h1=>have q1:=An h1;have p1:=Cc q1;?_⟩
 refine⟨(sB ?_),rfl⟩
 rotate_left
 refine dsp (fun h2 p2=>?_) fun h2 p2=>?_
 refine⟨(sB ?_),rfl⟩
 rotate_left
 refine⟨Bf (j:=(⟨0⟩:Jh)) Q9 rfl (by dsimp only[Ji];exact⟨by omega,rfl⟩),fun (q1:Jh) hq_q1=>?_⟩
 have hi_q1:q1.i≤List.length d.stack∧Wu (List.length d.plan.shapes:Int) (List.drop q1.i d.stack)+q1.i=Wu (List.length d.plan.shapes:Int) d.stack:=hq_q1
 obtain ⟨v1,v2⟩:=hi_q1
 refine dsp (fun h3 p3=>?_) fun h3 p3=>?_
 refine⟨(Bh (l:=d.stack) (i:=q1.i) Q2),fun x1 hx1=>?_⟩
 rw[C2 hx1,R8] at v2
 have hll:=congrArg List.length (C2 hx1)
 rw[List.length_drop,List.length_cons,List.length_drop] at hll
 refine⟨fun h4=>have q4:=Ao h4;have p4:=Aw q4;?_,fun h4=>have q4:=An h4;have p4:=Ar q4;?_⟩
 refine⟨hx1,Q2,hx1,Q2,(Ac Q2 Q2),(Ac Q2 Q2),(Be _ _ _),h4,(sB ?_),rfl⟩
 rotate_left
 refine⟨hx1,Q2,hx1,Q2,(Ac Q2 Q2),(Ac Q2 Q2),(Be _ _ _),h4,hx1,Q2,hx1,Q2,(Be _ _ _),fun h5=>have q5:=Ao h5;have p5:=Aw q5;?_,fun h5=>have q5:=An h5;have p5:=Ar q5;?_⟩
 refine⟨(sB ?_),rfl⟩
 rotate_left
 exact⟨(Ac Q2 Q2),A3 (j:=(⟨q1.i+1⟩:Jh)) Q9 rfl (by dsimp only[Ji];exact⟨by omega,by simp_all[E3];omega⟩) (by dsimp only[Ji];omega)⟩
 have hal:List.all d.stack (E3 (List.length d.plan.shapes:Int))=true:=by rw[Mr];rw[List.drop_eq_nil_of_le (by omega)] at v2;simp only[Wu] at v2;exact decide_eq_true (by omega)
 refine⟨(sB ?_),rfl⟩
 rotate_left
 all_goals first|(simp_all[Bd];done)|((have hal:List.all d.stack (E3 (List.length d.plan.shapes:Int))=false:=(by rw[Mr];rw[if_neg (by simp_all[E3])] at v2;exact decide_eq_false (by omega));simp[Bd,hal];done))|(grind[Bd])
theorem C6 (d:Dcd) (c:Int) (a:Int):Fun Tryz.prog 253 [.agg (Ad 0 1 d),vI c,vI a] [.tree d.plan.shapes,.lst .lev d.stack] (.tup [.agg (Ad 2 3 (A8 d c a)),vO 4]) [.dead,.dead,.tree (A8 d c a).plan.shapes,.lst .lev (A8 d c a).stack,.lst .ev [A2 c a]]:=by
 have hN:Bb=274877906944:=rfl
 refine Ap Tryz.func253 Q4 Q4 (w:=let zi:Int→C:= .int .i64;let z2:=A2 c a;let z1:List C:=[.int .u64 0,zi 0,zi d.start,zi d.at_,zi d.field.number,zi d.field.kind,.bool d.field.rep,.bool d.field.packed,zi d.field.msg,zi d.wire,zi 0,zi d.utf.want,zi d.utf.low,zi d.utf.high,zi z2.kind,zi z2.field,.int .u64 z2.bits,zi z2.len,.str z2.text,zi z2.code,zi z2.at_];(.seg [.call [] (.v (.agg (cEv z2))) [],.tree (fr (.two 3 (.one 4 (.first 5 (.done))) 4 (.one 3 (.first 5 (.done)))) 0 3) 6 [3],.ty .ev,.at 0,.keep [6,7],.sel [0,1,3,4],.ty .ev,.at 0,.keep [6,7],.sel [0,1,3,4],.at 0,.cut 2 0,.cut 2 5] (.leaf () [0,1,4,5,3]),(Fp 113 [vI c,vI a] [] (.v (.agg (cEv z2))) [])∧(([.tree d.plan.shapes,.lst .lev d.stack,.cells (.own 0::zi d.plan.root::zi d.plan.deep::zi d.plan.most::zi 9:: .own 1::z1),.lst .ev [z2]]:List Blk)=[.tree d.plan.shapes,.lst .lev d.stack,.cells (.own 0::zi d.plan.root::zi d.plan.deep::zi d.plan.most::zi 9:: .own 1::z1),.lst .ev [z2]])∧(([(6,.v (vP 2)),(7,.v (vO 3))]:List (Nat×S))=[(6,.v (vP 2)),(7,.v (vO 3))])∧Lf (.tup [.agg (.own 2::zi d.plan.root::zi d.plan.deep::zi d.plan.most::zi 9:: .own 3::z1),vO 4]) (.tup [.agg (Ad 2 3 (A8 d c a)),vO 4]) (.dead:: .dead::Ls d [z2]) (.dead:: .dead::Ls (A8 d c a) [A2 c a]))) Q4 ?_
 refine zD (A8 d c a) (⟨d.plan,9,d.stack,(⟨0,0⟩:Scn),d.start,d.at_,d.field,d.wire,0,d.utf,(A2 c a)⟩:Dcd) [A2 c a] [(A2 c a)] (fun hm1 hm2=>⟨(Afn _ _),rfl,rfl,Q6,Q10⟩) ?_ ?_
 rotate_left 2
 all_goals first|(rfl)|(simp_all[A8])
structure De where
 d:Dcd
 out:List Ev
def Ec (d:Dcd):Fam:=⟨De,fun q1=>[(1,.v (vP 2)),(2,.v (vP 5)),(4,.v (vO 6))],fun q1=>[.dead,.dead,.cells (Ad 3 4 q1.d),.tree q1.d.plan.shapes,.lst .lev q1.d.stack,.cells [.nil,.int .i64 0,.int .i64 0,.int .i64 0,.int .i64 0,.nil,.int .u64 0,.int .i64 0,.int .i64 0,.int .i64 0,.int .i64 0,.int .i64 0,.bool false,.bool false,.int .i64 0,.int .i64 0,.int .i64 0,.int .i64 0,.int .i64 0,.int .i64 0,.int .i64 0,.int .i64 0,.int .u64 0,.int .i64 0,.str [],.int .i64 0,.int .i64 0],.lst .ev q1.out],fun q1=>Ae ⟨q1.d,q1.out⟩=Ae ⟨d,[]⟩∧List.length q1.out+wM ⟨q1.d,q1.out⟩≤wM ⟨d,[]⟩∧List.length (q1.d).stack≤List.length d.stack,fun q1=>wM ⟨q1.d,q1.out⟩⟩
theorem Hi (d:Dcd) (hp1:List.length (d).stack≤1000):Fun Tryz.prog 251 [.agg (Ad 0 1 d)] [.tree d.plan.shapes,.lst .lev d.stack] (.tup [.agg (Ad 2 3 (Ae ⟨d,[]⟩).d),vO 4]) [.dead,.dead,.tree (Ae ⟨d,[]⟩).d.plan.shapes,.lst .lev (Ae ⟨d,[]⟩).d.stack,.lst .ev (Ae ⟨d,[]⟩).out]:=by
 have hN:Bb=274877906944:=rfl
 have hwd:=Aea ⟨d,[]⟩
 simp only at hwd
 refine Ap Tryz.func251 Q4 Q4 (w:=let zi:Int→C:= .int .i64;let z15:List C:=[.nil,zi 0,zi 0,zi 0,zi 0,.nil,.int .u64 0,zi 0,zi 0,zi 0,zi 0,zi 0,.bool false,.bool false,zi 0,zi 0,zi 0,zi 0,zi 0,zi 0,zi 0,zi 0,.int .u64 0,zi 0,.str [],zi 0,zi 0];let z16:List Blk:= .dead:: .dead::Ls (Ae ⟨d,[]⟩).d (Ae ⟨d,[]⟩).out;let z17:S:= .tup [.agg (Ad 2 3 (Ae ⟨d,[]⟩).d),vO 4];let z18:=Ec d;(.seg [.ty .ev,.at 0,.cut 2 0,.cut 2 5,.keep [1,2,4],.sel [0,1,2,5,6,3,4]] (.loop z18 fun q1=>let z1:=((List.length q1.d.stack:Nat):Int)-1;let z2:=Sx (q1.d.stack[Int.toNat z1]?);let z3:=A8 q1.d 5 q1.d.at_;.br (.br (.br (.seg [.call [3,4] (.tup [.agg (Ad 2 3 z3),vO 4]) (.dead:: .dead::Ls z3 [A2 5 q1.d.at_]),.tree (fr (.one 3 (.one 4 (.first 5 (.done)))) 0 3) 4 [6,9],.ty .ev] (.leaf () [0,1,7,8,11])) (.seg [.ty .ev,.ty .ev,.at 0,.keep [1,2,4],.sel [0,1,2,3,4,5,8]] (.next))) (.seg [.br false] (.br (.br (.br (.seg [.as 86 (.v (vI z1))] (.intro z2 fun x1=> .seg [.el .lev x1] (.br (.seg [.ty .lev,.as 96 (.v (vI z1)),.ty .lev] (.br (.seg [.ty .ev,.ty .ev,.at 0,.keep [1,2,4],.sel [0,1,2,3,8,5,10]] (.next)) (.seg [.ty .ev,.ty .ev,.at 0,.keep [1,2,4],.sel [0,1,2,3,8,5,10]] (.next)))) (.leaf () [0,1,3,4,6])))) (.leaf () [0,1,3,4,6])) (.leaf () [0,1,3,4,6])) (.leaf () [0,1,3,4,6])))) (.br (.br (.seg [.at 0,.keep [1,2,4],.sel [0,1,2,3,4,5,6]] (.next)) (.br (.br (.seg [.at 0,.keep [1,2,4],.sel [0,1,2,3,4,5,6]] (.next)) (.br (.seg [.br false] (.leaf () [0,1,3,4,6])) (.leaf () [0,1,3,4,6]))) (.br (.br (.br (.seg [.as 86 (.v (vI z1))] (.intro z2 fun x1=> .seg [.el .lev x1] (.br (.seg [.ty .lev,.as 96 (.v (vI z1)),.ty .lev] (.br (.seg [.ty .ev,.ty .ev,.at 0,.keep [1,2,4],.sel [0,1,2,3,8,5,10]] (.next)) (.seg [.ty .ev,.ty .ev,.at 0,.keep [1,2,4],.sel [0,1,2,3,8,5,10]] (.next)))) (.leaf () [0,1,3,4,6])))) (.leaf () [0,1,3,4,6])) (.leaf () [0,1,3,4,6])) (.leaf () [0,1,3,4,6])))) (.br (.br (.br (.seg [.as 86 (.v (vI z1))] (.intro z2 fun x1=> .seg [.el .lev x1] (.br (.seg [.ty .lev,.as 96 (.v (vI z1)),.ty .lev] (.br (.seg [.ty .ev,.ty .ev,.at 0,.keep [1,2,4],.sel [0,1,2,3,8,5,10]] (.next)) (.seg [.ty .ev,.ty .ev,.at 0,.keep [1,2,4],.sel [0,1,2,3,8,5,10]] (.next)))) (.leaf () [0,1,3,4,6])))) (.leaf () [0,1,3,4,6])) (.leaf () [0,1,3,4,6])) (.leaf () [0,1,3,4,6])))),z18.Has [(1,.v (vP 2)),(2,.v (vP 5)),(4,.v (vO 6))] [.dead,.dead,.cells (Ad 3 4 d),.tree d.plan.shapes,.lst .lev d.stack,.cells z15,.lst .ev ([]:List Ev)]∧∀q1,z18.inv q1→(let z6:=z18.Nxt q1 [(1,.v (vP 2)),(2,.v (vP 5)),(4,.v (vO 6))] [.dead,.dead,.cells [.own 3,zi q1.d.plan.root,zi q1.d.plan.deep,zi q1.d.plan.most,zi 2,.own 4,.int .u64 q1.d.scan.bits,zi q1.d.scan.have_,zi q1.d.start,zi q1.d.at_,zi q1.d.field.number,zi q1.d.field.kind,.bool q1.d.field.rep,.bool q1.d.field.packed,zi q1.d.field.msg,zi q1.d.wire,zi 0,zi q1.d.utf.want,zi q1.d.utf.low,zi q1.d.utf.high,zi q1.d.end_.kind,zi q1.d.end_.field,.int .u64 q1.d.end_.bits,zi q1.d.end_.len,.str q1.d.end_.text,zi q1.d.end_.code,zi q1.d.end_.at_],.tree q1.d.plan.shapes,.lst .lev q1.d.stack,.cells z15,.lst .ev q1.out];let z7:=((List.length q1.d.stack:Nat):Int);let z8:=List.take ((Int.toNat (z7-1))-0) (List.drop 0 q1.d.stack);let z9:=A8 q1.d 5 q1.d.at_;let z10:List Blk:=(.dead:: .dead::Ls q1.d q1.out);let z11:=decide (q1.d.mode=2);let z12:=decide (q1.d.scan.have_=0);let z13:=decide (q1.d.want<1);let z14:S:= .tup [.agg (Ad 2 3 q1.d),vO 4];let z5:=Lf z14 z17 z10 z16;let z4:=Bc z12 (Bc (decide (0<z7)) ((wI (z7-1))∧El (q1.d.stack[Int.toNat (z7-1)]?) fun x1=>((z7-1<z7)∧((0:Int)≤z7-1)∧(q1.d.stack[Int.toNat (z7-1)]? =some x1)∧Bc (decide (x1.left=0)) ((wI (z7-1))∧(z7-1≤z7)∧((0:Int)≤z7-1)∧(List.length ([]:List Lev)+List.length z8≤Bb)∧Bc (decide (z7=1)) ((List.length q1.out+List.length [(⟨8,0,0,0,[],0,0⟩:Ev)]≤Bb)∧z18.Nxt q1 [(1,.v (vP 2)),(2,.v (vP 5)),(4,.v (vO 6))] [.dead,.dead,.cells [.own 3,zi q1.d.plan.root,zi q1.d.plan.deep,zi q1.d.plan.most,zi 1,.own 4,.int .u64 q1.d.scan.bits,zi q1.d.scan.have_,zi q1.d.start,zi q1.d.at_,zi q1.d.field.number,zi q1.d.field.kind,.bool q1.d.field.rep,.bool q1.d.field.packed,zi q1.d.field.msg,zi q1.d.wire,zi q1.d.want,zi q1.d.utf.want,zi q1.d.utf.low,zi q1.d.utf.high,zi q1.d.end_.kind,zi q1.d.end_.field,.int .u64 q1.d.end_.bits,zi q1.d.end_.len,.str q1.d.end_.text,zi q1.d.end_.code,zi q1.d.end_.at_],.tree q1.d.plan.shapes,.lst .lev (([]:List Lev)++z8),.cells z15,.lst .ev (q1.out++[(⟨8,0,0,0,[],0,0⟩:Ev)])]) ((List.length q1.out+List.length [(⟨7,0,0,0,[],0,0⟩:Ev)]≤Bb)∧z18.Nxt q1 [(1,.v (vP 2)),(2,.v (vP 5)),(4,.v (vO 6))] [.dead,.dead,.cells (Ad 3 4 q1.d),.tree q1.d.plan.shapes,.lst .lev (([]:List Lev)++z8),.cells z15,.lst .ev (q1.out++[(⟨7,0,0,0,[],0,0⟩:Ev)])])) z5)) z5) z5;Bc (decide (q1.d.mode=6)) (Bc z13 (Bc (decide (0<q1.d.utf.want)) ((Fp 253 [.agg (Ad 0 1 q1.d),vI 5,vI q1.d.at_] (L2 q1.d) (.tup [.agg (Ad 2 3 z9),vO 4]) (.dead:: .dead::Ls z9 [A2 5 q1.d.at_]))∧(List.length q1.out+List.length [A2 5 q1.d.at_]≤Bb)∧Lf (.tup [.agg (Ad 2 3 z9),vO 4]) z17 (.dead:: .dead::Ls z9 (q1.out++[A2 5 q1.d.at_])) z16) ((List.length q1.out+List.length [(⟨5,0,0,0,[],0,0⟩:Ev)]≤Bb)∧z18.Nxt q1 [(1,.v (vP 2)),(2,.v (vP 5)),(4,.v (vO 6))] [.dead,.dead,.cells [.own 3,zi q1.d.plan.root,zi q1.d.plan.deep,zi q1.d.plan.most,zi 2,.own 4,.int .u64 q1.d.scan.bits,zi q1.d.scan.have_,zi q1.d.start,zi q1.d.at_,zi q1.d.field.number,zi q1.d.field.kind,.bool q1.d.field.rep,.bool q1.d.field.packed,zi q1.d.field.msg,zi q1.d.wire,zi 0,zi 0,zi 0,zi 0,zi q1.d.end_.kind,zi q1.d.end_.field,.int .u64 q1.d.end_.bits,zi q1.d.end_.len,.str q1.d.end_.text,zi q1.d.end_.code,zi q1.d.end_.at_],.tree q1.d.plan.shapes,.lst .lev q1.d.stack,.cells z15,.lst .ev (q1.out++[(⟨5,0,0,0,[],0,0⟩:Ev)])])) ((z13=false)∧Bc z11 z4 z5)) (Bc z13 (Bc (decide (q1.d.mode=7)) z6 (Bc (decide (q1.d.mode=8)) (Bc z12 z6 (Bc z11 ((z12=false)∧Lf z14 z17 z10 z16) z5)) (Bc z11 z4 z5))) (Bc z11 z4 z5))))) Q4 ?_
 refine⟨Bf (j:=(⟨d,([]:List Ev)⟩:De)) rfl rfl (by dsimp only[Ec];exact⟨rfl,by simp,Nat.le_refl _⟩),fun (q1:De) hq_q1=>?_⟩
 have hi_q1:Ae ⟨q1.d,q1.out⟩=Ae ⟨d,[]⟩∧List.length q1.out+wM ⟨q1.d,q1.out⟩≤wM ⟨d,[]⟩∧List.length (q1.d).stack≤List.length d.stack:=hq_q1
 obtain ⟨v1,v2,v3⟩:=hi_q1
 have hwq:=Aea ⟨q1.d,q1.out⟩
 refine dsp (fun h1 p1=>?_) fun h1 p1=>?_
 refine dsp (fun h2 p2=>?_) fun h2 p2=>?_
 refine dsp (fun h3 p3=>?_) fun h3 p3=>?_
 have hst:Ae ⟨d,[]⟩=A0 ⟨q1.d,q1.out⟩ 5 q1.d.at_:=by rw[←v1];exact Zu (by assumption) (by assumption) (by assumption)
 refine zD ((Ae ⟨d,[]⟩).d) (A8 q1.d 5 q1.d.at_) ((Ae ⟨d,[]⟩).out) (q1.out++[A2 5 q1.d.at_]) (fun hm1 hm2=>⟨(C6 q1.d _ _),Q5,Q6,Q10⟩) ?_ ?_
 rotate_left 2
 exact⟨Q5,A3 (j:=(⟨(⟨q1.d.plan,2,q1.d.stack,q1.d.scan,q1.d.start,q1.d.at_,q1.d.field,q1.d.wire,0,(⟨0,0,0⟩:Utf),q1.d.end_⟩:Dcd),q1.out++[(⟨5,0,0,0,[],0,0⟩:Ev)]⟩:De)) rfl Q9 (by dsimp only[Ec];have hcl:Ay ⟨q1.d,q1.out⟩=some ⟨(⟨q1.d.plan,2,q1.d.stack,q1.d.scan,q1.d.start,q1.d.at_,q1.d.field,q1.d.wire,0,(⟨0,0,0⟩:Utf),q1.d.end_⟩:Dcd),q1.out++[(⟨5,0,0,0,[],0,0⟩:Ev)]⟩:=Q40;exact⟨by rw[←v1];exact(Cf hcl).symm,by have:=B2 hcl;simp only at this;omega,by have:=(Jt hcl).1;simp only at this;omega⟩) (by dsimp only[Ec];have hcl:Ay ⟨q1.d,q1.out⟩=some ⟨(⟨q1.d.plan,2,q1.d.stack,q1.d.scan,q1.d.start,q1.d.at_,q1.d.field,q1.d.wire,0,(⟨0,0,0⟩:Utf),q1.d.end_⟩:Dcd),q1.out++[(⟨5,0,0,0,[],0,0⟩:Ev)]⟩:=Q40;exact(B2 hcl).1)⟩
 refine⟨h2,dsp (fun h3 p3=>?_) fun h3 p3=>?_⟩
 refine dsp (fun h4 p4=>?_) fun h4 p4=>?_
 refine dsp (fun h5 p5=>?_) fun h5 p5=>?_
 refine⟨(Ac Q2 Q2),(Bh (l:=q1.d.stack) (i:=Int.toNat (((List.length q1.d.stack:Nat):Int)-1)) Q2),fun x1 hx1=>?_⟩
 refine⟨Q2,Q2,?_⟩
 have hll:=Jb (d:=q1.d) (by rw[←hx1];congr 1;omega)
 have hix:Int.toNat ((q1.d.stack.length:Int)-1)=q1.d.stack.length-1:=by omega
 refine⟨hx1,dsp (fun h6 p6=>?_) fun h6 p6=>?_⟩
 refine⟨(Ac Q2 Q2),Q2,Q2,Q69,dsp (fun h7 p7=>?_) fun h7 p7=>?_⟩
 exact⟨Q5,A3 (j:=(⟨(⟨q1.d.plan,1,([]:List Lev)++(List.take ((Int.toNat (((List.length q1.d.stack:Nat):Int)-1))-0) (List.drop 0 q1.d.stack)),q1.d.scan,q1.d.start,q1.d.at_,q1.d.field,q1.d.wire,q1.d.want,q1.d.utf,q1.d.end_⟩:Dcd),q1.out++[(⟨8,0,0,0,[],0,0⟩:Ev)]⟩:De)) rfl Q9 Q27 Q34⟩
 exact⟨Q5,A3 (j:=(⟨(⟨q1.d.plan,q1.d.mode,([]:List Lev)++(List.take ((Int.toNat (((List.length q1.d.stack:Nat):Int)-1))-0) (List.drop 0 q1.d.stack)),q1.d.scan,q1.d.start,q1.d.at_,q1.d.field,q1.d.wire,q1.d.want,q1.d.utf,q1.d.end_⟩:Dcd),q1.out++[(⟨7,0,0,0,[],0,0⟩:Ev)]⟩:De)) rfl Q9 Q26 Q32⟩
 refine zD ((Ae ⟨d,[]⟩).d) q1.d ((Ae ⟨d,[]⟩).out) q1.out (fun hm1 hm2=>⟨Q6,Q10⟩) ?_ ?_
 rotate_left 2
 refine zD ((Ae ⟨d,[]⟩).d) q1.d ((Ae ⟨d,[]⟩).out) q1.out (fun hm1 hm2=>⟨Q6,Q10⟩) ?_ ?_
 rotate_left 2
 refine zD ((Ae ⟨d,[]⟩).d) q1.d ((Ae ⟨d,[]⟩).out) q1.out (fun hm1 hm2=>⟨Q6,Q10⟩) ?_ ?_
 rotate_left 2
 refine zD ((Ae ⟨d,[]⟩).d) q1.d ((Ae ⟨d,[]⟩).out) q1.out (fun hm1 hm2=>⟨Q6,Q10⟩) ?_ ?_
 rotate_left 2
 refine dsp (fun h2 p2=>?_) fun h2 p2=>?_
 refine dsp (fun h3 p3=>?_) fun h3 p3=>?_
 exact A3 (j:=(⟨(⟨q1.d.plan,2,q1.d.stack,q1.d.scan,q1.d.start,q1.d.at_,q1.d.field,q1.d.wire,0,q1.d.utf,q1.d.end_⟩:Dcd),q1.out⟩:De)) rfl Q9 Q46 Q63
 refine dsp (fun h4 p4=>?_) fun h4 p4=>?_
 refine dsp (fun h5 p5=>?_) fun h5 p5=>?_
 exact A3 (j:=(⟨(⟨q1.d.plan,2,q1.d.stack,q1.d.scan,q1.d.start,q1.d.at_,q1.d.field,q1.d.wire,0,q1.d.utf,q1.d.end_⟩:Dcd),q1.out⟩:De)) rfl Q9 Q46 Q63
 refine dsp (fun h6 p6=>?_) fun h6 p6=>?_
 refine zD ((Ae ⟨d,[]⟩).d) q1.d ((Ae ⟨d,[]⟩).out) q1.out (fun hm1 hm2=>⟨h5,Q6,Q10⟩) ?_ ?_
 rotate_left 2
 refine zD ((Ae ⟨d,[]⟩).d) q1.d ((Ae ⟨d,[]⟩).out) q1.out (fun hm1 hm2=>⟨Q6,Q10⟩) ?_ ?_
 rotate_left 2
 refine dsp (fun h5 p5=>?_) fun h5 p5=>?_
 refine dsp (fun h6 p6=>?_) fun h6 p6=>?_
 refine dsp (fun h7 p7=>?_) fun h7 p7=>?_
 refine⟨(Ac Q2 Q2),(Bh (l:=q1.d.stack) (i:=Int.toNat (((List.length q1.d.stack:Nat):Int)-1)) Q2),fun x1 hx1=>?_⟩
 refine⟨Q2,Q2,?_⟩
 have hll:=Jb (d:=q1.d) (by rw[←hx1];congr 1;omega)
 have hix:Int.toNat ((q1.d.stack.length:Int)-1)=q1.d.stack.length-1:=by omega
 refine⟨hx1,dsp (fun h8 p8=>?_) fun h8 p8=>?_⟩
 refine⟨(Ac Q2 Q2),Q2,Q2,Q69,dsp (fun h9 p9=>?_) fun h9 p9=>?_⟩
 exact⟨Q5,A3 (j:=(⟨(⟨q1.d.plan,1,([]:List Lev)++(List.take ((Int.toNat (((List.length q1.d.stack:Nat):Int)-1))-0) (List.drop 0 q1.d.stack)),q1.d.scan,q1.d.start,q1.d.at_,q1.d.field,q1.d.wire,q1.d.want,q1.d.utf,q1.d.end_⟩:Dcd),q1.out++[(⟨8,0,0,0,[],0,0⟩:Ev)]⟩:De)) rfl Q9 Q27 Q34⟩
 exact⟨Q5,A3 (j:=(⟨(⟨q1.d.plan,q1.d.mode,([]:List Lev)++(List.take ((Int.toNat (((List.length q1.d.stack:Nat):Int)-1))-0) (List.drop 0 q1.d.stack)),q1.d.scan,q1.d.start,q1.d.at_,q1.d.field,q1.d.wire,q1.d.want,q1.d.utf,q1.d.end_⟩:Dcd),q1.out++[(⟨7,0,0,0,[],0,0⟩:Ev)]⟩:De)) rfl Q9 Q26 Q32⟩
 refine zD ((Ae ⟨d,[]⟩).d) q1.d ((Ae ⟨d,[]⟩).out) q1.out (fun hm1 hm2=>⟨Q6,Q10⟩) ?_ ?_
 rotate_left 2
 refine zD ((Ae ⟨d,[]⟩).d) q1.d ((Ae ⟨d,[]⟩).out) q1.out (fun hm1 hm2=>⟨Q6,Q10⟩) ?_ ?_
 rotate_left 2
 refine zD ((Ae ⟨d,[]⟩).d) q1.d ((Ae ⟨d,[]⟩).out) q1.out (fun hm1 hm2=>⟨Q6,Q10⟩) ?_ ?_
 rotate_left 2
 refine zD ((Ae ⟨d,[]⟩).d) q1.d ((Ae ⟨d,[]⟩).out) q1.out (fun hm1 hm2=>⟨Q6,Q10⟩) ?_ ?_
 rotate_left 2
 refine dsp (fun h3 p3=>?_) fun h3 p3=>?_
 refine dsp (fun h4 p4=>?_) fun h4 p4=>?_
 refine dsp (fun h5 p5=>?_) fun h5 p5=>?_
 refine⟨(Ac Q2 Q2),(Bh (l:=q1.d.stack) (i:=Int.toNat (((List.length q1.d.stack:Nat):Int)-1)) Q2),fun x1 hx1=>?_⟩
 refine⟨Q2,Q2,?_⟩
 have hll:=Jb (d:=q1.d) (by rw[←hx1];congr 1;omega)
 have hix:Int.toNat ((q1.d.stack.length:Int)-1)=q1.d.stack.length-1:=by omega
 refine⟨hx1,dsp (fun h6 p6=>?_) fun h6 p6=>?_⟩
 refine⟨(Ac Q2 Q2),Q2,Q2,Q69,dsp (fun h7 p7=>?_) fun h7 p7=>?_⟩
 exact⟨Q5,A3 (j:=(⟨(⟨q1.d.plan,1,([]:List Lev)++(List.take ((Int.toNat (((List.length q1.d.stack:Nat):Int)-1))-0) (List.drop 0 q1.d.stack)),q1.d.scan,q1.d.start,q1.d.at_,q1.d.field,q1.d.wire,q1.d.want,q1.d.utf,q1.d.end_⟩:Dcd),q1.out++[(⟨8,0,0,0,[],0,0⟩:Ev)]⟩:De)) rfl Q9 Q27 Q34⟩
 exact⟨Q5,A3 (j:=(⟨(⟨q1.d.plan,q1.d.mode,([]:List Lev)++(List.take ((Int.toNat (((List.length q1.d.stack:Nat):Int)-1))-0) (List.drop 0 q1.d.stack)),q1.d.scan,q1.d.start,q1.d.at_,q1.d.field,q1.d.wire,q1.d.want,q1.d.utf,q1.d.end_⟩:Dcd),q1.out++[(⟨7,0,0,0,[],0,0⟩:Ev)]⟩:De)) rfl Q9 Q26 Q32⟩
 refine zD ((Ae ⟨d,[]⟩).d) q1.d ((Ae ⟨d,[]⟩).out) q1.out (fun hm1 hm2=>⟨Q6,Q10⟩) ?_ ?_
 rotate_left 2
 refine zD ((Ae ⟨d,[]⟩).d) q1.d ((Ae ⟨d,[]⟩).out) q1.out (fun hm1 hm2=>⟨Q6,Q10⟩) ?_ ?_
 rotate_left 2
 refine zD ((Ae ⟨d,[]⟩).d) q1.d ((Ae ⟨d,[]⟩).out) q1.out (fun hm1 hm2=>⟨Q6,Q10⟩) ?_ ?_
 rotate_left 2
 refine zD ((Ae ⟨d,[]⟩).d) q1.d ((Ae ⟨d,[]⟩).out) q1.out (fun hm1 hm2=>⟨Q6,Q10⟩) ?_ ?_
 rotate_left 2
 all_goals first|((rw[hst];rfl))|((rw[←v1,Bw (by first|((simp_all[Ay,T3,Ahs,Ja,utf0];done))|(grind[Ay,T3,Ahs,Ja,utf0]))]))
end Go.Proofs.YtijacopaadmncaaGreat.Ax
