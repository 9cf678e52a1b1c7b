/- The machine: bytes. The machine: a byte. A byte: the program. A byte keeps a decoder right. A byte keeps a decoder right. Whole inputs. Whole inputs: the program. The reference: settling. -/
import Derived.Test.YtphecbmdhbphgaaGreatKFnDecode3
import Derived.Test.YtphecbmdhbphgaaGreatKFnDecode2
import Derived.Test.YtphecbmdhbphgaaGreatKFnDecode1
set_option linter.unusedSimpArgs false
set_option linter.unusedVariables false
namespace Go.Proofs.YtphecbmdhbphgaaGreat.Ax
open Go.RowKit
theorem Uq (m:Mac) (b:Int) (hp1:MW (m).d) (hp2:List.length (m).oJ≤50000000) (hp3:(0:Int)≤b∧b≤255):Fun Tryz.prog 120 [vP 0,vI b] [.cells (Ac 1 2 3 m),.tree m.d.pJ.sQ,.lst .lev m.d.sJ,.lst .ev m.oJ] (.tup []) [.cells (Ac 4 5 6 (B3 m b ((m).d.aJ-1))),.dK,.dK,.dK,.tree (B3 m b ((m).d.aJ-1)).d.pJ.sQ,.lst .lev (B3 m b ((m).d.aJ-1)).d.sJ,.lst .ev (B3 m b ((m).d.aJ-1)).oJ]:=by
 have hN:Bh=274877906944:=rfl
 have hlv:=Cm hp1.lv
 have hpt:=By hlv.1
 have htb:=Jn hp1.lv
 have hwm:=Aik m
 have hbb:=hp1.b0
 have hat:=hp1.aJ
 have hwt:=hp1.wK
 have hwd:=Kz m.d
 have hsb:=Vh (b:=b) hbb.1 hbb.2
 refine Ar Tryz.func120 Q4 Q4 (w:=let zi:Int→C:= .int .i64;let z1:List C:=[zi m.d.aJ,zi m.d.field.nJ,zi m.d.field.kind,.bool m.d.field.rep,.bool m.d.field.packed,zi m.d.field.mK,zi m.d.wJ,zi m.d.wK,zi m.d.uJ.wK,zi m.d.uJ.low,zi m.d.uJ.high,zi m.d.eJ.kind,zi m.d.eJ.field,.int .u64 m.d.eJ.bits,zi m.d.eJ.len,.str m.d.eJ.text,zi m.d.eJ.code,zi m.d.eJ.aJ,.own 3];let z2:List C:=[zi m.d.aJ,zi m.d.field.nJ,zi m.d.field.kind,.bool m.d.field.rep,.bool m.d.field.packed,zi m.d.field.mK,zi m.d.wJ,zi m.d.wK,zi m.d.uJ.wK,zi m.d.uJ.low,zi m.d.uJ.high,zi m.d.eJ.kind,zi m.d.eJ.field,.int .u64 m.d.eJ.bits,zi m.d.eJ.len,.str m.d.eJ.text,zi m.d.eJ.code,zi m.d.eJ.aJ,.own 6];let z3:List C:=[zi m.d.aJ,zi m.d.field.nJ,zi m.d.field.kind,.bool m.d.field.rep,.bool m.d.field.packed,zi m.d.field.mK,zi m.d.wJ,zi m.d.wK,zi m.d.uJ.wK,zi m.d.uJ.low,zi m.d.uJ.high,zi m.d.eJ.kind,zi m.d.eJ.field,.int .u64 m.d.eJ.bits,zi m.d.eJ.len,.str m.d.eJ.text,zi m.d.eJ.code,zi m.d.eJ.aJ];let z6:=(⟨m.d.pJ,m.d.mJ,m.d.sJ,(⟨0,0⟩:Scn),m.d.sX,m.d.aJ,m.d.field,m.d.wJ,m.d.wK,m.d.uJ,m.d.eJ⟩:Dcd);let z9:=(⟨m.d.pJ,m.d.mJ,m.d.sJ,(⟨0,0⟩:Scn),m.d.aJ-1,m.d.aJ,m.d.field,m.d.wJ,m.d.wK,m.d.uJ,m.d.eJ⟩:Dcd);let z10:=Aj m.d.sK b;let z4:=A3 (⟨(⟨m.d.pJ,m.d.mJ,m.d.sJ,z10.1,m.d.aJ-1,m.d.aJ,m.d.field,m.d.wJ,m.d.wK,m.d.uJ,m.d.eJ⟩:Dcd),m.oJ⟩:Mac) 9 m.d.aJ;let z5:=A3 (⟨(⟨m.d.pJ,m.d.mJ,m.d.sJ,z10.1,m.d.sX,m.d.aJ,m.d.field,m.d.wJ,m.d.wK,m.d.uJ,m.d.eJ⟩:Dcd),m.oJ⟩:Mac) 9 m.d.aJ;let z14:=Bv (⟨z6,m.oJ⟩:Mac) z10.1.bits;let z15:List Blk:=[.cells (Ac 1 2 4 z4),.tree z4.d.pJ.sQ,.lst .lev z4.d.sJ,.dK,.lst .ev z4.oJ];let z16:List Blk:=[.cells (.own 1::zi m.d.pJ.rJ::zi m.d.pJ.dJ::zi m.d.pJ.most::zi m.d.mJ:: .own 2:: .int .u64 z10.1.bits::zi z10.1.hJ::zi m.d.sX::z1),.tree m.d.pJ.sQ,.lst .lev m.d.sJ,.lst .ev m.oJ];let z17:List Blk:=[.cells (Ac 1 2 4 z5),.tree z5.d.pJ.sQ,.lst .lev z5.d.sJ,.dK,.lst .ev z5.oJ];let z18:List Blk:=[.cells (.own 1::zi m.d.pJ.rJ::zi m.d.pJ.dJ::zi m.d.pJ.most::zi m.d.mJ:: .own 2:: .int .u64 0::zi 0::zi m.d.sX::z1),.tree m.d.pJ.sQ,.lst .lev m.d.sJ,.lst .ev m.oJ];let z19:List Blk:=[.cells (Ac 4 5 6 z4),.dK,.dK,.dK,.tree z4.d.pJ.sQ,.lst .lev z4.d.sJ,.lst .ev z4.oJ];let z22:List Blk:=[.cells (Ac 4 5 6 z5),.dK,.dK,.dK,.tree z5.d.pJ.sQ,.lst .lev z5.d.sJ,.lst .ev z5.oJ];let z32:S:= .tup [.agg (Qx z10.1),vI z10.2];let z33:List Blk:=[.cells (Ac 1 2 4 z14),.tree z14.d.pJ.sQ,.lst .lev z14.d.sJ,.dK,.lst .ev z14.oJ];let z34:List V:=[vP 0,vI 9,vI m.d.aJ];let z35:=m.d.aJ-1;let z8:=A3 (⟨(⟨m.d.pJ,m.d.mJ,m.d.sJ,m.d.sK,m.d.aJ-1,m.d.aJ,m.d.field,m.d.wJ,m.d.wK,m.d.uJ,m.d.eJ⟩:Dcd),m.oJ⟩:Mac) 1 z35;let z13:List Blk:=[.cells (.own 1::zi m.d.pJ.rJ::zi m.d.pJ.dJ::zi m.d.pJ.most::zi m.d.mJ:: .own 2:: .int .u64 z10.1.bits::zi z10.1.hJ::zi z35::z1),.tree m.d.pJ.sQ,.lst .lev m.d.sJ,.lst .ev m.oJ];let z23:List Blk:=[.cells (.own 1::zi m.d.pJ.rJ::zi m.d.pJ.dJ::zi m.d.pJ.most::zi m.d.mJ:: .own 2:: .int .u64 m.d.sK.bits::zi m.d.sK.hJ::zi z35::z1),.tree m.d.pJ.sQ,.lst .lev m.d.sJ,.lst .ev m.oJ];let z30:List Blk:=[.cells (.own 1::zi m.d.pJ.rJ::zi m.d.pJ.dJ::zi m.d.pJ.most::zi m.d.mJ:: .own 2:: .int .u64 0::zi 0::zi z35::z1),.tree m.d.pJ.sQ,.lst .lev m.d.sJ,.lst .ev m.oJ];let z31:List Blk:=[.cells (Ac 1 2 4 z8),.tree z8.d.pJ.sQ,.lst .lev z8.d.sJ,.dK,.lst .ev z8.oJ];let z36:List Blk:=[.cells (Ac 4 5 6 z8),.dK,.dK,.dK,.tree z8.d.pJ.sQ,.lst .lev z8.d.sJ,.lst .ev z8.oJ];let z37:List V:=[vP 0,.c (.int .u64 z10.1.bits)];let z38:=decide (m.d.mJ=8);let z39:=decide (m.d.wK=0);let z41:S:= .v (vI (D2 m.d));let z42:=m.d.mJ=1;let z43:=C0 (⟨z9,m.oJ⟩:Mac) z10.1.bits;let z24:List Blk:=[.cells (Ac 4 5 6 z43),.dK,.dK,.dK,.tree z43.d.pJ.sQ,.lst .lev z43.d.sJ,.lst .ev z43.oJ];let z44:=C0 (⟨z6,m.oJ⟩:Mac) z10.1.bits;let z25:List Blk:=[.cells (Ac 4 5 6 z44),.dK,.dK,.dK,.tree z44.d.pJ.sQ,.lst .lev z44.d.sJ,.lst .ev z44.oJ];let z45:=Cu (⟨z9,m.oJ⟩:Mac) z10.1.bits;let z26:List Blk:=[.cells (Ac 4 5 6 z45),.dK,.dK,.dK,.tree z45.d.pJ.sQ,.lst .lev z45.d.sJ,.lst .ev z45.oJ];let z46:=Cu (⟨z6,m.oJ⟩:Mac) z10.1.bits;let z27:List Blk:=[.cells (Ac 4 5 6 z46),.dK,.dK,.dK,.tree z46.d.pJ.sQ,.lst .lev z46.d.sJ,.lst .ev z46.oJ];let z47:=Ew (⟨z9,m.oJ⟩:Mac) z10.1.bits;let z28:List Blk:=[.cells (Ac 4 5 6 z47),.dK,.dK,.dK,.tree z47.d.pJ.sQ,.lst .lev z47.d.sJ,.lst .ev z47.oJ];let z48:=Ew (⟨z6,m.oJ⟩:Mac) z10.1.bits;let z29:List Blk:=[.cells (Ac 4 5 6 z48),.dK,.dK,.dK,.tree z48.d.pJ.sQ,.lst .lev z48.d.sJ,.lst .ev z48.oJ];let z49:List Blk:=[.cells (Ac 1 2 3 z14),.tree z14.d.pJ.sQ,.lst .lev z14.d.sJ,.lst .ev z14.oJ];let z50:=A3 m 1 z35;let z21:List Blk:=[.cells (Ac 1 2 4 z50),.tree z50.d.pJ.sQ,.lst .lev z50.d.sJ,.dK,.lst .ev z50.oJ];let z40:List Blk:=[.cells (Ac 4 5 6 z50),.dK,.dK,.dK,.tree z50.d.pJ.sQ,.lst .lev z50.d.sJ,.lst .ev z50.oJ];let z51:=decide (D2 m.d=0);let z52:=decide (m.d.mJ=2);let z53:List Blk:=[.cells (Ac 1 2 3 m),.tree m.d.pJ.sQ,.lst .lev m.d.sJ,.lst .ev m.oJ];let z54:=B3 m b ((m).d.aJ-1);let z7:List Blk:=[.cells (Ac 4 5 6 z54),.dK,.dK,.dK,.tree z54.d.pJ.sQ,.lst .lev z54.d.sJ,.lst .ev z54.oJ];let z11:=Lf (.tup []) (.tup []) [.cells (.own 4::zi m.d.pJ.rJ::zi m.d.pJ.dJ::zi m.d.pJ.most::zi m.d.mJ:: .own 5:: .int .u64 z10.1.bits::zi z10.1.hJ::zi z35::z2),.dK,.dK,.dK,.tree m.d.pJ.sQ,.lst .lev m.d.sJ,.lst .ev m.oJ] z7;let z12:=Lf (.tup []) (.tup []) [.cells (.own 4::zi m.d.pJ.rJ::zi m.d.pJ.dJ::zi m.d.pJ.most::zi m.d.mJ:: .own 5:: .int .u64 z10.1.bits::zi z10.1.hJ::zi m.d.sX::z2),.dK,.dK,.dK,.tree m.d.pJ.sQ,.lst .lev m.d.sJ,.lst .ev m.oJ] z7;let z55:=decide (z10.2=2);let z56:=decide (z10.2=0);let z57:List V:=[vP 0,vI 1,vI z35];let z58:=decide (m.d.mJ=4);let z59:=Qx m.d.sK;let z60:=decide z42;let z61:= !decide z42;let z62:=Ae z14;let z20:List Blk:=[.cells (Ac 4 5 6 z62),.dK,.dK,.dK,.tree z62.d.pJ.sQ,.lst .lev z62.d.sJ,.lst .ev z62.oJ];(.sZ [.as 12 (.v (vI z35))] (.br (.br (.sZ [.call [] z32 []] (.br (.sZ [.call [0,1,2,3] (.tup []) z31,.at 0,.cut 0 0,.cut 0 5] (.lJ () [0,1,2,3,6,7,5])) (.br (.br (.sZ [.call [] z41 []] (.br (.sZ [.call [0,1,2,3] (.tup []) z15,.at 0,.cut 0 0,.cut 0 5] (.lJ () [0,1,2,3,6,7,5])) (.br (.br (.sZ [.call [0,1,2,3] (.tup []) z15,.at 0,.cut 0 0,.cut 0 5] (.lJ () [0,1,2,3,6,7,5])) (.sZ [.at 0,.cut 0 0,.cut 0 5,.cut 0 27] (.lJ () [0,1,2,3,5,6,7]))) (.sZ [.at 0,.cut 0 0,.cut 0 5,.cut 0 27] (.lJ () [0,1,2,3,5,6,7]))))) (.br (.br (.sZ [.call [0,1,2,3] (.tup []) z15,.at 0,.cut 0 0,.cut 0 5] (.lJ () [0,1,2,3,6,7,5])) (.sZ [.at 0,.cut 0 0,.cut 0 5,.cut 0 27] (.lJ () [0,1,2,3,5,6,7]))) (.sZ [.at 0,.cut 0 0,.cut 0 5,.cut 0 27] (.lJ () [0,1,2,3,5,6,7])))) (.sZ [.br true,.call [0,1,2,3] (.tup []) z24] (.lJ () [0,1,2,3,5,6,7]))))) (.br (.sZ [.call [] z32 []] (.br (.sZ [.call [0,1,2,3] (.tup []) z31,.at 0,.cut 0 0,.cut 0 5] (.lJ () [0,1,2,3,6,7,5])) (.br (.br (.sZ [.call [] z41 []] (.br (.sZ [.call [0,1,2,3] (.tup []) z15,.at 0,.cut 0 0,.cut 0 5] (.lJ () [0,1,2,3,6,7,5])) (.br (.br (.sZ [.call [0,1,2,3] (.tup []) z15,.at 0,.cut 0 0,.cut 0 5] (.lJ () [0,1,2,3,6,7,5])) (.sZ [.at 0,.cut 0 0,.cut 0 5,.cut 0 27] (.lJ () [0,1,2,3,5,6,7]))) (.sZ [.at 0,.cut 0 0,.cut 0 5,.cut 0 27] (.lJ () [0,1,2,3,5,6,7]))))) (.br (.br (.sZ [.call [0,1,2,3] (.tup []) z15,.at 0,.cut 0 0,.cut 0 5] (.lJ () [0,1,2,3,6,7,5])) (.sZ [.at 0,.cut 0 0,.cut 0 5,.cut 0 27] (.lJ () [0,1,2,3,5,6,7]))) (.sZ [.at 0,.cut 0 0,.cut 0 5,.cut 0 27] (.lJ () [0,1,2,3,5,6,7])))) (.sZ [.br false,.br true,.call [0,1,2,3] (.tup []) z28] (.lJ () [0,1,2,3,5,6,7]))))) (.br (.sZ [.call [] z32 []] (.br (.sZ [.call [0,1,2,3] (.tup []) z31,.at 0,.cut 0 0,.cut 0 5] (.lJ () [0,1,2,3,6,7,5])) (.br (.br (.sZ [.call [] z41 []] (.br (.sZ [.call [0,1,2,3] (.tup []) z15,.at 0,.cut 0 0,.cut 0 5] (.lJ () [0,1,2,3,6,7,5])) (.br (.br (.sZ [.call [0,1,2,3] (.tup []) z15,.at 0,.cut 0 0,.cut 0 5] (.lJ () [0,1,2,3,6,7,5])) (.sZ [.at 0,.cut 0 0,.cut 0 5,.cut 0 27] (.lJ () [0,1,2,3,5,6,7]))) (.sZ [.at 0,.cut 0 0,.cut 0 5,.cut 0 27] (.lJ () [0,1,2,3,5,6,7]))))) (.br (.br (.sZ [.call [0,1,2,3] (.tup []) z15,.at 0,.cut 0 0,.cut 0 5] (.lJ () [0,1,2,3,6,7,5])) (.sZ [.at 0,.cut 0 0,.cut 0 5,.cut 0 27] (.lJ () [0,1,2,3,5,6,7]))) (.sZ [.at 0,.cut 0 0,.cut 0 5,.cut 0 27] (.lJ () [0,1,2,3,5,6,7])))) (.sZ [.br false,.br false,.br true,.call [0,1,2,3] (.tup []) z26] (.lJ () [0,1,2,3,5,6,7]))))) (.sZ [.call [] z32 []] (.br (.sZ [.call [0,1,2,3] (.tup []) z21,.at 0,.cut 0 0,.cut 0 5] (.lJ () [0,1,2,3,6,7,5])) (.br (.br (.sZ [.call [] z41 []] (.br (.sZ [.call [0,1,2,3] (.tup []) z17,.at 0,.cut 0 0,.cut 0 5] (.lJ () [0,1,2,3,6,7,5])) (.br (.br (.sZ [.call [0,1,2,3] (.tup []) z17,.at 0,.cut 0 0,.cut 0 5] (.lJ () [0,1,2,3,6,7,5])) (.sZ [.at 0,.cut 0 0,.cut 0 5,.cut 0 27] (.lJ () [0,1,2,3,5,6,7]))) (.sZ [.at 0,.cut 0 0,.cut 0 5,.cut 0 27] (.lJ () [0,1,2,3,5,6,7]))))) (.br (.br (.sZ [.call [0,1,2,3] (.tup []) z17,.at 0,.cut 0 0,.cut 0 5] (.lJ () [0,1,2,3,6,7,5])) (.sZ [.at 0,.cut 0 0,.cut 0 5,.cut 0 27] (.lJ () [0,1,2,3,5,6,7]))) (.sZ [.at 0,.cut 0 0,.cut 0 5,.cut 0 27] (.lJ () [0,1,2,3,5,6,7])))) (.sZ [.br false,.br false,.br false,.call [0,1,2,3] (.tup []) z33,.call [0,1,2,5] (.tup []) z20] (.lJ () [0,1,2,3,6,7,8])))))))) (.sZ [.call [] z32 []] (.br (.sZ [.call [0,1,2,3] (.tup []) z21,.at 0,.cut 0 0,.cut 0 5] (.lJ () [0,1,2,3,6,7,5])) (.br (.br (.sZ [.call [] z41 []] (.br (.sZ [.call [0,1,2,3] (.tup []) z17,.at 0,.cut 0 0,.cut 0 5] (.lJ () [0,1,2,3,6,7,5])) (.br (.br (.sZ [.call [0,1,2,3] (.tup []) z17,.at 0,.cut 0 0,.cut 0 5] (.lJ () [0,1,2,3,6,7,5])) (.sZ [.at 0,.cut 0 0,.cut 0 5,.cut 0 27] (.lJ () [0,1,2,3,5,6,7]))) (.sZ [.at 0,.cut 0 0,.cut 0 5,.cut 0 27] (.lJ () [0,1,2,3,5,6,7]))))) (.br (.br (.sZ [.call [0,1,2,3] (.tup []) z17,.at 0,.cut 0 0,.cut 0 5] (.lJ () [0,1,2,3,6,7,5])) (.sZ [.at 0,.cut 0 0,.cut 0 5,.cut 0 27] (.lJ () [0,1,2,3,5,6,7]))) (.sZ [.at 0,.cut 0 0,.cut 0 5,.cut 0 27] (.lJ () [0,1,2,3,5,6,7])))) (.br (.sZ [.call [0,1,2,3] (.tup []) z25] (.lJ () [0,1,2,3,5,6,7])) (.br (.sZ [.call [0,1,2,3] (.tup []) z29] (.lJ () [0,1,2,3,5,6,7])) (.br (.sZ [.call [0,1,2,3] (.tup []) z27] (.lJ () [0,1,2,3,5,6,7])) (.sZ [.call [0,1,2,3] (.tup []) z33,.call [0,1,2,5] (.tup []) z20] (.lJ () [0,1,2,3,6,7,8]))))))))),(wI z35)∧Bc (decide (m.d.sK.hJ=0)) (Bc z60 ((Fp 184 [.agg z59,vI b] [] z32 [])∧Bc z55 ((Fp 52 z57 z23 (.tup []) z31)∧Lf (.tup []) (.tup []) z36 z7) (Bc z56 (Bc z61 ((Fp 108 [.agg (.seq .shp m.d.pJ.sQ::zi m.d.pJ.rJ::zi m.d.pJ.dJ::zi m.d.pJ.most::zi m.d.mJ:: .seq .lev m.d.sJ:: .int .u64 z10.1.bits::zi z10.1.hJ::zi z35::z3)] [] z41 [])∧Bc z51 ((Fp 52 z34 z13 (.tup []) z15)∧Lf (.tup []) (.tup []) z19 z7) (Bc z38 (Bc z39 ((Fp 52 z34 z13 (.tup []) z15)∧Lf (.tup []) (.tup []) z19 z7) z11) z11)) (Bc z38 (Bc z39 ((Fp 52 z34 z13 (.tup []) z15)∧Lf (.tup []) (.tup []) z19 z7) z11) z11)) ((z60=true)∧(Fp 185 z37 z30 (.tup []) z24)∧Lf (.tup []) (.tup []) z24 z7))) (Bc z52 ((Fp 184 [.agg z59,vI b] [] z32 [])∧Bc z55 ((Fp 52 z57 z23 (.tup []) z31)∧Lf (.tup []) (.tup []) z36 z7) (Bc z56 (Bc z61 ((Fp 108 [.agg (.seq .shp m.d.pJ.sQ::zi m.d.pJ.rJ::zi m.d.pJ.dJ::zi m.d.pJ.most::zi m.d.mJ:: .seq .lev m.d.sJ:: .int .u64 z10.1.bits::zi z10.1.hJ::zi z35::z3)] [] z41 [])∧Bc z51 ((Fp 52 z34 z13 (.tup []) z15)∧Lf (.tup []) (.tup []) z19 z7) (Bc z38 (Bc z39 ((Fp 52 z34 z13 (.tup []) z15)∧Lf (.tup []) (.tup []) z19 z7) z11) z11)) (Bc z38 (Bc z39 ((Fp 52 z34 z13 (.tup []) z15)∧Lf (.tup []) (.tup []) z19 z7) z11) z11)) ((z60=false)∧(z52=true)∧(Fp 186 z37 z30 (.tup []) z28)∧Lf (.tup []) (.tup []) z28 z7))) (Bc z58 ((Fp 184 [.agg z59,vI b] [] z32 [])∧Bc z55 ((Fp 52 z57 z23 (.tup []) z31)∧Lf (.tup []) (.tup []) z36 z7) (Bc z56 (Bc z61 ((Fp 108 [.agg (.seq .shp m.d.pJ.sQ::zi m.d.pJ.rJ::zi m.d.pJ.dJ::zi m.d.pJ.most::zi m.d.mJ:: .seq .lev m.d.sJ:: .int .u64 z10.1.bits::zi z10.1.hJ::zi z35::z3)] [] z41 [])∧Bc z51 ((Fp 52 z34 z13 (.tup []) z15)∧Lf (.tup []) (.tup []) z19 z7) (Bc z38 (Bc z39 ((Fp 52 z34 z13 (.tup []) z15)∧Lf (.tup []) (.tup []) z19 z7) z11) z11)) (Bc z38 (Bc z39 ((Fp 52 z34 z13 (.tup []) z15)∧Lf (.tup []) (.tup []) z19 z7) z11) z11)) ((z60=false)∧(z52=false)∧(z58=true)∧(Fp 187 z37 z30 (.tup []) z26)∧Lf (.tup []) (.tup []) z26 z7))) ((Fp 184 [.agg z59,vI b] [] z32 [])∧Bc z55 ((Fp 52 z57 z53 (.tup []) z21)∧Lf (.tup []) (.tup []) z40 z7) (Bc z56 (Bc z61 ((Fp 108 [.agg (.seq .shp m.d.pJ.sQ::zi m.d.pJ.rJ::zi m.d.pJ.dJ::zi m.d.pJ.most::zi m.d.mJ:: .seq .lev m.d.sJ:: .int .u64 z10.1.bits::zi z10.1.hJ::zi m.d.sX::z3)] [] z41 [])∧Bc z51 ((Fp 52 z34 z16 (.tup []) z17)∧Lf (.tup []) (.tup []) z22 z7) (Bc z38 (Bc z39 ((Fp 52 z34 z16 (.tup []) z17)∧Lf (.tup []) (.tup []) z22 z7) z12) z12)) (Bc z38 (Bc z39 ((Fp 52 z34 z16 (.tup []) z17)∧Lf (.tup []) (.tup []) z22 z7) z12) z12)) ((z60=false)∧(z52=false)∧(z58=false)∧(Fp 183 z37 z18 (.tup []) z33)∧(Fp 117 [vP 0] z49 (.tup []) z20)∧Lf (.tup []) (.tup []) z20 z7)))))) ((Fp 184 [.agg z59,vI b] [] z32 [])∧Bc z55 ((Fp 52 z57 z53 (.tup []) z21)∧Lf (.tup []) (.tup []) z40 z7) (Bc z56 (Bc z61 ((Fp 108 [.agg (.seq .shp m.d.pJ.sQ::zi m.d.pJ.rJ::zi m.d.pJ.dJ::zi m.d.pJ.most::zi m.d.mJ:: .seq .lev m.d.sJ:: .int .u64 z10.1.bits::zi z10.1.hJ::zi m.d.sX::z3)] [] z41 [])∧Bc z51 ((Fp 52 z34 z16 (.tup []) z17)∧Lf (.tup []) (.tup []) z22 z7) (Bc z38 (Bc z39 ((Fp 52 z34 z16 (.tup []) z17)∧Lf (.tup []) (.tup []) z22 z7) z12) z12)) (Bc z38 (Bc z39 ((Fp 52 z34 z16 (.tup []) z17)∧Lf (.tup []) (.tup []) z22 z7) z12) z12)) (Bc z60 ((Fp 185 z37 z18 (.tup []) z25)∧Lf (.tup []) (.tup []) z25 z7) (Bc z52 ((Fp 186 z37 z18 (.tup []) z29)∧Lf (.tup []) (.tup []) z29 z7) (Bc z58 ((Fp 187 z37 z18 (.tup []) z27)∧Lf (.tup []) (.tup []) z27 z7) ((Fp 183 z37 z18 (.tup []) z33)∧(Fp 117 [vP 0] z49 (.tup []) z20)∧Lf (.tup []) (.tup []) z20 z7)))))))) Q4 ?_
 refine⟨(Ad Q2 Q2),dsp (fun h1 p1=>?_) fun h1 p1=>?_⟩
 refine dsp (fun h2 p2=>?_) fun h2 p2=>?_
 refine⟨(Nk m.d.sK _ Q2),dsp (fun h3 p3=>?_) fun h3 p3=>?_⟩
 exact zE (B3 m b ((m).d.aJ-1)) (A3 (⟨(⟨m.d.pJ,m.d.mJ,m.d.sJ,m.d.sK,m.d.aJ-1,m.d.aJ,m.d.field,m.d.wJ,m.d.wK,m.d.uJ,m.d.eJ⟩:Dcd),m.oJ⟩:Mac) 1 (m.d.aJ-1)) (fun hm1=>⟨(Co (⟨(⟨m.d.pJ,m.d.mJ,m.d.sJ,m.d.sK,m.d.aJ-1,m.d.aJ,m.d.field,m.d.wJ,m.d.wK,m.d.uJ,m.d.eJ⟩:Dcd),m.oJ⟩:Mac) _ _ Q7),rfl,Q5⟩) W43
 refine dsp (fun h4 p4=>?_) fun h4 p4=>?_
 refine⟨fun h5=>have q5:=Ao h5;have p5:=of_decide_eq_false q5;?_,fun h5=>have q5:=An h5;have p5:=of_decide_eq_true q5;?_⟩
 refine⟨(Ep (⟨m.d.pJ,m.d.mJ,m.d.sJ,(Aj m.d.sK b).1,m.d.aJ-1,m.d.aJ,m.d.field,m.d.wJ,m.d.wK,m.d.uJ,m.d.eJ⟩:Dcd) Q7),dsp (fun h6 p6=>?_) fun h6 p6=>?_⟩
 exact zE (B3 m b ((m).d.aJ-1)) (A3 (⟨(⟨m.d.pJ,m.d.mJ,m.d.sJ,(Aj m.d.sK b).1,m.d.aJ-1,m.d.aJ,m.d.field,m.d.wJ,m.d.wK,m.d.uJ,m.d.eJ⟩:Dcd),m.oJ⟩:Mac) 9 m.d.aJ) (fun hm1=>⟨(Co (⟨(⟨m.d.pJ,m.d.mJ,m.d.sJ,(Aj m.d.sK b).1,m.d.aJ-1,m.d.aJ,m.d.field,m.d.wJ,m.d.wK,m.d.uJ,m.d.eJ⟩:Dcd),m.oJ⟩:Mac) _ _ Q7),rfl,Q5⟩) W43
 refine dsp (fun h7 p7=>?_) fun h7 p7=>?_
 refine dsp (fun h8 p8=>?_) fun h8 p8=>?_
 exact zE (B3 m b ((m).d.aJ-1)) (A3 (⟨(⟨m.d.pJ,m.d.mJ,m.d.sJ,(Aj m.d.sK b).1,m.d.aJ-1,m.d.aJ,m.d.field,m.d.wJ,m.d.wK,m.d.uJ,m.d.eJ⟩:Dcd),m.oJ⟩:Mac) 9 m.d.aJ) (fun hm1=>⟨(Co (⟨(⟨m.d.pJ,m.d.mJ,m.d.sJ,(Aj m.d.sK b).1,m.d.aJ-1,m.d.aJ,m.d.field,m.d.wJ,m.d.wK,m.d.uJ,m.d.eJ⟩:Dcd),m.oJ⟩:Mac) _ _ Q7),rfl,Q5⟩) W43
 exact zE (B3 m b ((m).d.aJ-1)) (⟨(⟨m.d.pJ,m.d.mJ,m.d.sJ,(Aj m.d.sK b).1,m.d.aJ-1,m.d.aJ,m.d.field,m.d.wJ,m.d.wK,m.d.uJ,m.d.eJ⟩:Dcd),m.oJ⟩:Mac) (fun hm1=>⟨rfl,Q5⟩) W43
 exact zE (B3 m b ((m).d.aJ-1)) (⟨(⟨m.d.pJ,m.d.mJ,m.d.sJ,(Aj m.d.sK b).1,m.d.aJ-1,m.d.aJ,m.d.field,m.d.wJ,m.d.wK,m.d.uJ,m.d.eJ⟩:Dcd),m.oJ⟩:Mac) (fun hm1=>⟨rfl,Q5⟩) W43
 refine dsp (fun h6 p6=>?_) fun h6 p6=>?_
 refine dsp (fun h7 p7=>?_) fun h7 p7=>?_
 exact zE (B3 m b ((m).d.aJ-1)) (A3 (⟨(⟨m.d.pJ,m.d.mJ,m.d.sJ,(Aj m.d.sK b).1,m.d.aJ-1,m.d.aJ,m.d.field,m.d.wJ,m.d.wK,m.d.uJ,m.d.eJ⟩:Dcd),m.oJ⟩:Mac) 9 m.d.aJ) (fun hm1=>⟨(Co (⟨(⟨m.d.pJ,m.d.mJ,m.d.sJ,(Aj m.d.sK b).1,m.d.aJ-1,m.d.aJ,m.d.field,m.d.wJ,m.d.wK,m.d.uJ,m.d.eJ⟩:Dcd),m.oJ⟩:Mac) _ _ Q7),rfl,Q5⟩) W43
 exact zE (B3 m b ((m).d.aJ-1)) (⟨(⟨m.d.pJ,m.d.mJ,m.d.sJ,(Aj m.d.sK b).1,m.d.aJ-1,m.d.aJ,m.d.field,m.d.wJ,m.d.wK,m.d.uJ,m.d.eJ⟩:Dcd),m.oJ⟩:Mac) (fun hm1=>⟨rfl,Q5⟩) W43
 exact zE (B3 m b ((m).d.aJ-1)) (⟨(⟨m.d.pJ,m.d.mJ,m.d.sJ,(Aj m.d.sK b).1,m.d.aJ-1,m.d.aJ,m.d.field,m.d.wJ,m.d.wK,m.d.uJ,m.d.eJ⟩:Dcd),m.oJ⟩:Mac) (fun hm1=>⟨rfl,Q5⟩) W43
 exact zE (B3 m b ((m).d.aJ-1)) (C0 (⟨(⟨m.d.pJ,m.d.mJ,m.d.sJ,(⟨0,0⟩:Scn),m.d.aJ-1,m.d.aJ,m.d.field,m.d.wJ,m.d.wK,m.d.uJ,m.d.eJ⟩:Dcd),m.oJ⟩:Mac) (Aj m.d.sK b).1.bits) (fun hm1=>⟨h2,(Akc (⟨(⟨m.d.pJ,m.d.mJ,m.d.sJ,(⟨0,0⟩:Scn),m.d.aJ-1,m.d.aJ,m.d.field,m.d.wJ,m.d.wK,m.d.uJ,m.d.eJ⟩:Dcd),m.oJ⟩:Mac) _ (Q19) Q7 Q2),rfl,Q5⟩) W43
 refine dsp (fun h3 p3=>?_) fun h3 p3=>?_
 refine⟨(Nk m.d.sK _ Q2),dsp (fun h4 p4=>?_) fun h4 p4=>?_⟩
 exact zE (B3 m b ((m).d.aJ-1)) (A3 (⟨(⟨m.d.pJ,m.d.mJ,m.d.sJ,m.d.sK,m.d.aJ-1,m.d.aJ,m.d.field,m.d.wJ,m.d.wK,m.d.uJ,m.d.eJ⟩:Dcd),m.oJ⟩:Mac) 1 (m.d.aJ-1)) (fun hm1=>⟨(Co (⟨(⟨m.d.pJ,m.d.mJ,m.d.sJ,m.d.sK,m.d.aJ-1,m.d.aJ,m.d.field,m.d.wJ,m.d.wK,m.d.uJ,m.d.eJ⟩:Dcd),m.oJ⟩:Mac) _ _ Q7),rfl,Q5⟩) W43
 refine dsp (fun h5 p5=>?_) fun h5 p5=>?_
 refine⟨fun h6=>have q6:=Ao h6;have p6:=of_decide_eq_false q6;?_,fun h6=>have q6:=An h6;have p6:=of_decide_eq_true q6;?_⟩
 refine⟨(Ep (⟨m.d.pJ,m.d.mJ,m.d.sJ,(Aj m.d.sK b).1,m.d.aJ-1,m.d.aJ,m.d.field,m.d.wJ,m.d.wK,m.d.uJ,m.d.eJ⟩:Dcd) Q7),dsp (fun h7 p7=>?_) fun h7 p7=>?_⟩
 exact zE (B3 m b ((m).d.aJ-1)) (A3 (⟨(⟨m.d.pJ,m.d.mJ,m.d.sJ,(Aj m.d.sK b).1,m.d.aJ-1,m.d.aJ,m.d.field,m.d.wJ,m.d.wK,m.d.uJ,m.d.eJ⟩:Dcd),m.oJ⟩:Mac) 9 m.d.aJ) (fun hm1=>⟨(Co (⟨(⟨m.d.pJ,m.d.mJ,m.d.sJ,(Aj m.d.sK b).1,m.d.aJ-1,m.d.aJ,m.d.field,m.d.wJ,m.d.wK,m.d.uJ,m.d.eJ⟩:Dcd),m.oJ⟩:Mac) _ _ Q7),rfl,Q5⟩) W43
 refine dsp (fun h8 p8=>?_) fun h8 p8=>?_
 refine dsp (fun h9 p9=>?_) fun h9 p9=>?_
 exact zE (B3 m b ((m).d.aJ-1)) (A3 (⟨(⟨m.d.pJ,m.d.mJ,m.d.sJ,(Aj m.d.sK b).1,m.d.aJ-1,m.d.aJ,m.d.field,m.d.wJ,m.d.wK,m.d.uJ,m.d.eJ⟩:Dcd),m.oJ⟩:Mac) 9 m.d.aJ) (fun hm1=>⟨(Co (⟨(⟨m.d.pJ,m.d.mJ,m.d.sJ,(Aj m.d.sK b).1,m.d.aJ-1,m.d.aJ,m.d.field,m.d.wJ,m.d.wK,m.d.uJ,m.d.eJ⟩:Dcd),m.oJ⟩:Mac) _ _ Q7),rfl,Q5⟩) W43
 exact zE (B3 m b ((m).d.aJ-1)) (⟨(⟨m.d.pJ,m.d.mJ,m.d.sJ,(Aj m.d.sK b).1,m.d.aJ-1,m.d.aJ,m.d.field,m.d.wJ,m.d.wK,m.d.uJ,m.d.eJ⟩:Dcd),m.oJ⟩:Mac) (fun hm1=>⟨rfl,Q5⟩) W43
 exact zE (B3 m b ((m).d.aJ-1)) (⟨(⟨m.d.pJ,m.d.mJ,m.d.sJ,(Aj m.d.sK b).1,m.d.aJ-1,m.d.aJ,m.d.field,m.d.wJ,m.d.wK,m.d.uJ,m.d.eJ⟩:Dcd),m.oJ⟩:Mac) (fun hm1=>⟨rfl,Q5⟩) W43
 refine dsp (fun h7 p7=>?_) fun h7 p7=>?_
 refine dsp (fun h8 p8=>?_) fun h8 p8=>?_
 exact zE (B3 m b ((m).d.aJ-1)) (A3 (⟨(⟨m.d.pJ,m.d.mJ,m.d.sJ,(Aj m.d.sK b).1,m.d.aJ-1,m.d.aJ,m.d.field,m.d.wJ,m.d.wK,m.d.uJ,m.d.eJ⟩:Dcd),m.oJ⟩:Mac) 9 m.d.aJ) (fun hm1=>⟨(Co (⟨(⟨m.d.pJ,m.d.mJ,m.d.sJ,(Aj m.d.sK b).1,m.d.aJ-1,m.d.aJ,m.d.field,m.d.wJ,m.d.wK,m.d.uJ,m.d.eJ⟩:Dcd),m.oJ⟩:Mac) _ _ Q7),rfl,Q5⟩) W43
 exact zE (B3 m b ((m).d.aJ-1)) (⟨(⟨m.d.pJ,m.d.mJ,m.d.sJ,(Aj m.d.sK b).1,m.d.aJ-1,m.d.aJ,m.d.field,m.d.wJ,m.d.wK,m.d.uJ,m.d.eJ⟩:Dcd),m.oJ⟩:Mac) (fun hm1=>⟨rfl,Q5⟩) W43
 exact zE (B3 m b ((m).d.aJ-1)) (⟨(⟨m.d.pJ,m.d.mJ,m.d.sJ,(Aj m.d.sK b).1,m.d.aJ-1,m.d.aJ,m.d.field,m.d.wJ,m.d.wK,m.d.uJ,m.d.eJ⟩:Dcd),m.oJ⟩:Mac) (fun hm1=>⟨rfl,Q5⟩) W43
 exact zE (B3 m b ((m).d.aJ-1)) (Ew (⟨(⟨m.d.pJ,m.d.mJ,m.d.sJ,(⟨0,0⟩:Scn),m.d.aJ-1,m.d.aJ,m.d.field,m.d.wJ,m.d.wK,m.d.uJ,m.d.eJ⟩:Dcd),m.oJ⟩:Mac) (Aj m.d.sK b).1.bits) (fun hm1=>⟨h2,h3,(Ash (⟨(⟨m.d.pJ,m.d.mJ,m.d.sJ,(⟨0,0⟩:Scn),m.d.aJ-1,m.d.aJ,m.d.field,m.d.wJ,m.d.wK,m.d.uJ,m.d.eJ⟩:Dcd),m.oJ⟩:Mac) _ (Q19) Q7 Q2),rfl,Q5⟩) W43
 refine dsp (fun h4 p4=>?_) fun h4 p4=>?_
 refine⟨(Nk m.d.sK _ Q2),dsp (fun h5 p5=>?_) fun h5 p5=>?_⟩
 exact zE (B3 m b ((m).d.aJ-1)) (A3 (⟨(⟨m.d.pJ,m.d.mJ,m.d.sJ,m.d.sK,m.d.aJ-1,m.d.aJ,m.d.field,m.d.wJ,m.d.wK,m.d.uJ,m.d.eJ⟩:Dcd),m.oJ⟩:Mac) 1 (m.d.aJ-1)) (fun hm1=>⟨(Co (⟨(⟨m.d.pJ,m.d.mJ,m.d.sJ,m.d.sK,m.d.aJ-1,m.d.aJ,m.d.field,m.d.wJ,m.d.wK,m.d.uJ,m.d.eJ⟩:Dcd),m.oJ⟩:Mac) _ _ Q7),rfl,Q5⟩) W43
 refine dsp (fun h6 p6=>?_) fun h6 p6=>?_
 refine⟨fun h7=>have q7:=Ao h7;have p7:=of_decide_eq_false q7;?_,fun h7=>have q7:=An h7;have p7:=of_decide_eq_true q7;?_⟩
 refine⟨(Ep (⟨m.d.pJ,m.d.mJ,m.d.sJ,(Aj m.d.sK b).1,m.d.aJ-1,m.d.aJ,m.d.field,m.d.wJ,m.d.wK,m.d.uJ,m.d.eJ⟩:Dcd) Q7),dsp (fun h8 p8=>?_) fun h8 p8=>?_⟩
 exact zE (B3 m b ((m).d.aJ-1)) (A3 (⟨(⟨m.d.pJ,m.d.mJ,m.d.sJ,(Aj m.d.sK b).1,m.d.aJ-1,m.d.aJ,m.d.field,m.d.wJ,m.d.wK,m.d.uJ,m.d.eJ⟩:Dcd),m.oJ⟩:Mac) 9 m.d.aJ) (fun hm1=>⟨(Co (⟨(⟨m.d.pJ,m.d.mJ,m.d.sJ,(Aj m.d.sK b).1,m.d.aJ-1,m.d.aJ,m.d.field,m.d.wJ,m.d.wK,m.d.uJ,m.d.eJ⟩:Dcd),m.oJ⟩:Mac) _ _ Q7),rfl,Q5⟩) W43
 refine dsp (fun h9 p9=>?_) fun h9 p9=>?_
 refine dsp (fun h10 p10=>?_) fun h10 p10=>?_
 exact zE (B3 m b ((m).d.aJ-1)) (A3 (⟨(⟨m.d.pJ,m.d.mJ,m.d.sJ,(Aj m.d.sK b).1,m.d.aJ-1,m.d.aJ,m.d.field,m.d.wJ,m.d.wK,m.d.uJ,m.d.eJ⟩:Dcd),m.oJ⟩:Mac) 9 m.d.aJ) (fun hm1=>⟨(Co (⟨(⟨m.d.pJ,m.d.mJ,m.d.sJ,(Aj m.d.sK b).1,m.d.aJ-1,m.d.aJ,m.d.field,m.d.wJ,m.d.wK,m.d.uJ,m.d.eJ⟩:Dcd),m.oJ⟩:Mac) _ _ Q7),rfl,Q5⟩) W43
 exact zE (B3 m b ((m).d.aJ-1)) (⟨(⟨m.d.pJ,m.d.mJ,m.d.sJ,(Aj m.d.sK b).1,m.d.aJ-1,m.d.aJ,m.d.field,m.d.wJ,m.d.wK,m.d.uJ,m.d.eJ⟩:Dcd),m.oJ⟩:Mac) (fun hm1=>⟨rfl,Q5⟩) W43
 exact zE (B3 m b ((m).d.aJ-1)) (⟨(⟨m.d.pJ,m.d.mJ,m.d.sJ,(Aj m.d.sK b).1,m.d.aJ-1,m.d.aJ,m.d.field,m.d.wJ,m.d.wK,m.d.uJ,m.d.eJ⟩:Dcd),m.oJ⟩:Mac) (fun hm1=>⟨rfl,Q5⟩) W43
 refine dsp (fun h8 p8=>?_) fun h8 p8=>?_
 refine dsp (fun h9 p9=>?_) fun h9 p9=>?_
 exact zE (B3 m b ((m).d.aJ-1)) (A3 (⟨(⟨m.d.pJ,m.d.mJ,m.d.sJ,(Aj m.d.sK b).1,m.d.aJ-1,m.d.aJ,m.d.field,m.d.wJ,m.d.wK,m.d.uJ,m.d.eJ⟩:Dcd),m.oJ⟩:Mac) 9 m.d.aJ) (fun hm1=>⟨(Co (⟨(⟨m.d.pJ,m.d.mJ,m.d.sJ,(Aj m.d.sK b).1,m.d.aJ-1,m.d.aJ,m.d.field,m.d.wJ,m.d.wK,m.d.uJ,m.d.eJ⟩:Dcd),m.oJ⟩:Mac) _ _ Q7),rfl,Q5⟩) W43
 exact zE (B3 m b ((m).d.aJ-1)) (⟨(⟨m.d.pJ,m.d.mJ,m.d.sJ,(Aj m.d.sK b).1,m.d.aJ-1,m.d.aJ,m.d.field,m.d.wJ,m.d.wK,m.d.uJ,m.d.eJ⟩:Dcd),m.oJ⟩:Mac) (fun hm1=>⟨rfl,Q5⟩) W43
 exact zE (B3 m b ((m).d.aJ-1)) (⟨(⟨m.d.pJ,m.d.mJ,m.d.sJ,(Aj m.d.sK b).1,m.d.aJ-1,m.d.aJ,m.d.field,m.d.wJ,m.d.wK,m.d.uJ,m.d.eJ⟩:Dcd),m.oJ⟩:Mac) (fun hm1=>⟨rfl,Q5⟩) W43
 exact zE (B3 m b ((m).d.aJ-1)) (Cu (⟨(⟨m.d.pJ,m.d.mJ,m.d.sJ,(⟨0,0⟩:Scn),m.d.aJ-1,m.d.aJ,m.d.field,m.d.wJ,m.d.wK,m.d.uJ,m.d.eJ⟩:Dcd),m.oJ⟩:Mac) (Aj m.d.sK b).1.bits) (fun hm1=>⟨h2,h3,h4,(Ap1 (⟨(⟨m.d.pJ,m.d.mJ,m.d.sJ,(⟨0,0⟩:Scn),m.d.aJ-1,m.d.aJ,m.d.field,m.d.wJ,m.d.wK,m.d.uJ,m.d.eJ⟩:Dcd),m.oJ⟩:Mac) _ (Q19) Q7 Q2 (hp1.kn)),rfl,Q5⟩) W43
 refine⟨(Nk m.d.sK _ Q2),dsp (fun h5 p5=>?_) fun h5 p5=>?_⟩
 exact zE (B3 m b ((m).d.aJ-1)) (A3 m 1 (m.d.aJ-1)) (fun hm1=>⟨(Co m _ _ Q2),rfl,Q5⟩) W43
 refine dsp (fun h6 p6=>?_) fun h6 p6=>?_
 refine⟨fun h7=>have q7:=Ao h7;have p7:=of_decide_eq_false q7;?_,fun h7=>have q7:=An h7;have p7:=of_decide_eq_true q7;?_⟩
 refine⟨(Ep (⟨m.d.pJ,m.d.mJ,m.d.sJ,(Aj m.d.sK b).1,m.d.sX,m.d.aJ,m.d.field,m.d.wJ,m.d.wK,m.d.uJ,m.d.eJ⟩:Dcd) Q7),dsp (fun h8 p8=>?_) fun h8 p8=>?_⟩
 exact zE (B3 m b ((m).d.aJ-1)) (A3 (⟨(⟨m.d.pJ,m.d.mJ,m.d.sJ,(Aj m.d.sK b).1,m.d.sX,m.d.aJ,m.d.field,m.d.wJ,m.d.wK,m.d.uJ,m.d.eJ⟩:Dcd),m.oJ⟩:Mac) 9 m.d.aJ) (fun hm1=>⟨(Co (⟨(⟨m.d.pJ,m.d.mJ,m.d.sJ,(Aj m.d.sK b).1,m.d.sX,m.d.aJ,m.d.field,m.d.wJ,m.d.wK,m.d.uJ,m.d.eJ⟩:Dcd),m.oJ⟩:Mac) _ _ Q7),rfl,Q5⟩) W43
 refine dsp (fun h9 p9=>?_) fun h9 p9=>?_
 refine dsp (fun h10 p10=>?_) fun h10 p10=>?_
 exact zE (B3 m b ((m).d.aJ-1)) (A3 (⟨(⟨m.d.pJ,m.d.mJ,m.d.sJ,(Aj m.d.sK b).1,m.d.sX,m.d.aJ,m.d.field,m.d.wJ,m.d.wK,m.d.uJ,m.d.eJ⟩:Dcd),m.oJ⟩:Mac) 9 m.d.aJ) (fun hm1=>⟨(Co (⟨(⟨m.d.pJ,m.d.mJ,m.d.sJ,(Aj m.d.sK b).1,m.d.sX,m.d.aJ,m.d.field,m.d.wJ,m.d.wK,m.d.uJ,m.d.eJ⟩:Dcd),m.oJ⟩:Mac) _ _ Q7),rfl,Q5⟩) W43
 exact zE (B3 m b ((m).d.aJ-1)) (⟨(⟨m.d.pJ,m.d.mJ,m.d.sJ,(Aj m.d.sK b).1,m.d.sX,m.d.aJ,m.d.field,m.d.wJ,m.d.wK,m.d.uJ,m.d.eJ⟩:Dcd),m.oJ⟩:Mac) (fun hm1=>⟨rfl,Q5⟩) W43
 exact zE (B3 m b ((m).d.aJ-1)) (⟨(⟨m.d.pJ,m.d.mJ,m.d.sJ,(Aj m.d.sK b).1,m.d.sX,m.d.aJ,m.d.field,m.d.wJ,m.d.wK,m.d.uJ,m.d.eJ⟩:Dcd),m.oJ⟩:Mac) (fun hm1=>⟨rfl,Q5⟩) W43
 refine dsp (fun h8 p8=>?_) fun h8 p8=>?_
 refine dsp (fun h9 p9=>?_) fun h9 p9=>?_
 exact zE (B3 m b ((m).d.aJ-1)) (A3 (⟨(⟨m.d.pJ,m.d.mJ,m.d.sJ,(Aj m.d.sK b).1,m.d.sX,m.d.aJ,m.d.field,m.d.wJ,m.d.wK,m.d.uJ,m.d.eJ⟩:Dcd),m.oJ⟩:Mac) 9 m.d.aJ) (fun hm1=>⟨(Co (⟨(⟨m.d.pJ,m.d.mJ,m.d.sJ,(Aj m.d.sK b).1,m.d.sX,m.d.aJ,m.d.field,m.d.wJ,m.d.wK,m.d.uJ,m.d.eJ⟩:Dcd),m.oJ⟩:Mac) _ _ Q7),rfl,Q5⟩) W43
 exact zE (B3 m b ((m).d.aJ-1)) (⟨(⟨m.d.pJ,m.d.mJ,m.d.sJ,(Aj m.d.sK b).1,m.d.sX,m.d.aJ,m.d.field,m.d.wJ,m.d.wK,m.d.uJ,m.d.eJ⟩:Dcd),m.oJ⟩:Mac) (fun hm1=>⟨rfl,Q5⟩) W43
 exact zE (B3 m b ((m).d.aJ-1)) (⟨(⟨m.d.pJ,m.d.mJ,m.d.sJ,(Aj m.d.sK b).1,m.d.sX,m.d.aJ,m.d.field,m.d.wJ,m.d.wK,m.d.uJ,m.d.eJ⟩:Dcd),m.oJ⟩:Mac) (fun hm1=>⟨rfl,Q5⟩) W43
 exact zE (B3 m b ((m).d.aJ-1)) (Ae (Bv (⟨(⟨m.d.pJ,m.d.mJ,m.d.sJ,(⟨0,0⟩:Scn),m.d.sX,m.d.aJ,m.d.field,m.d.wJ,m.d.wK,m.d.uJ,m.d.eJ⟩:Dcd),m.oJ⟩:Mac) (Aj m.d.sK b).1.bits)) (fun hm1=>⟨h2,h3,h4,(Aew (⟨(⟨m.d.pJ,m.d.mJ,m.d.sJ,(⟨0,0⟩:Scn),m.d.sX,m.d.aJ,m.d.field,m.d.wJ,m.d.wK,m.d.uJ,m.d.eJ⟩:Dcd),m.oJ⟩:Mac) _ Q7 Q2),(E3 (Bv (⟨(⟨m.d.pJ,m.d.mJ,m.d.sJ,(⟨0,0⟩:Scn),m.d.sX,m.d.aJ,m.d.field,m.d.wJ,m.d.wK,m.d.uJ,m.d.eJ⟩:Dcd),m.oJ⟩:Mac) (Aj m.d.sK b).1.bits) (Q19) (Nat.le_trans (Gt _ _) Q69)),rfl,Q5⟩) W43
 refine⟨(Nk m.d.sK _ Q2),dsp (fun h2 p2=>?_) fun h2 p2=>?_⟩
 exact zE (B3 m b ((m).d.aJ-1)) (A3 m 1 (m.d.aJ-1)) (fun hm1=>⟨(Co m _ _ Q2),rfl,Q5⟩) W43
 refine dsp (fun h3 p3=>?_) fun h3 p3=>?_
 refine⟨fun h4=>have q4:=Ao h4;have p4:=of_decide_eq_false q4;?_,fun h4=>have q4:=An h4;have p4:=of_decide_eq_true q4;?_⟩
 refine⟨(Ep (⟨m.d.pJ,m.d.mJ,m.d.sJ,(Aj m.d.sK b).1,m.d.sX,m.d.aJ,m.d.field,m.d.wJ,m.d.wK,m.d.uJ,m.d.eJ⟩:Dcd) Q7),dsp (fun h5 p5=>?_) fun h5 p5=>?_⟩
 exact zE (B3 m b ((m).d.aJ-1)) (A3 (⟨(⟨m.d.pJ,m.d.mJ,m.d.sJ,(Aj m.d.sK b).1,m.d.sX,m.d.aJ,m.d.field,m.d.wJ,m.d.wK,m.d.uJ,m.d.eJ⟩:Dcd),m.oJ⟩:Mac) 9 m.d.aJ) (fun hm1=>⟨(Co (⟨(⟨m.d.pJ,m.d.mJ,m.d.sJ,(Aj m.d.sK b).1,m.d.sX,m.d.aJ,m.d.field,m.d.wJ,m.d.wK,m.d.uJ,m.d.eJ⟩:Dcd),m.oJ⟩:Mac) _ _ Q7),rfl,Q5⟩) W43
 refine dsp (fun h6 p6=>?_) fun h6 p6=>?_
 refine dsp (fun h7 p7=>?_) fun h7 p7=>?_
 exact zE (B3 m b ((m).d.aJ-1)) (A3 (⟨(⟨m.d.pJ,m.d.mJ,m.d.sJ,(Aj m.d.sK b).1,m.d.sX,m.d.aJ,m.d.field,m.d.wJ,m.d.wK,m.d.uJ,m.d.eJ⟩:Dcd),m.oJ⟩:Mac) 9 m.d.aJ) (fun hm1=>⟨(Co (⟨(⟨m.d.pJ,m.d.mJ,m.d.sJ,(Aj m.d.sK b).1,m.d.sX,m.d.aJ,m.d.field,m.d.wJ,m.d.wK,m.d.uJ,m.d.eJ⟩:Dcd),m.oJ⟩:Mac) _ _ Q7),rfl,Q5⟩) W43
 exact zE (B3 m b ((m).d.aJ-1)) (⟨(⟨m.d.pJ,m.d.mJ,m.d.sJ,(Aj m.d.sK b).1,m.d.sX,m.d.aJ,m.d.field,m.d.wJ,m.d.wK,m.d.uJ,m.d.eJ⟩:Dcd),m.oJ⟩:Mac) (fun hm1=>⟨rfl,Q5⟩) W43
 exact zE (B3 m b ((m).d.aJ-1)) (⟨(⟨m.d.pJ,m.d.mJ,m.d.sJ,(Aj m.d.sK b).1,m.d.sX,m.d.aJ,m.d.field,m.d.wJ,m.d.wK,m.d.uJ,m.d.eJ⟩:Dcd),m.oJ⟩:Mac) (fun hm1=>⟨rfl,Q5⟩) W43
 refine dsp (fun h5 p5=>?_) fun h5 p5=>?_
 refine dsp (fun h6 p6=>?_) fun h6 p6=>?_
 exact zE (B3 m b ((m).d.aJ-1)) (A3 (⟨(⟨m.d.pJ,m.d.mJ,m.d.sJ,(Aj m.d.sK b).1,m.d.sX,m.d.aJ,m.d.field,m.d.wJ,m.d.wK,m.d.uJ,m.d.eJ⟩:Dcd),m.oJ⟩:Mac) 9 m.d.aJ) (fun hm1=>⟨(Co (⟨(⟨m.d.pJ,m.d.mJ,m.d.sJ,(Aj m.d.sK b).1,m.d.sX,m.d.aJ,m.d.field,m.d.wJ,m.d.wK,m.d.uJ,m.d.eJ⟩:Dcd),m.oJ⟩:Mac) _ _ Q7),rfl,Q5⟩) W43
 exact zE (B3 m b ((m).d.aJ-1)) (⟨(⟨m.d.pJ,m.d.mJ,m.d.sJ,(Aj m.d.sK b).1,m.d.sX,m.d.aJ,m.d.field,m.d.wJ,m.d.wK,m.d.uJ,m.d.eJ⟩:Dcd),m.oJ⟩:Mac) (fun hm1=>⟨rfl,Q5⟩) W43
 exact zE (B3 m b ((m).d.aJ-1)) (⟨(⟨m.d.pJ,m.d.mJ,m.d.sJ,(Aj m.d.sK b).1,m.d.sX,m.d.aJ,m.d.field,m.d.wJ,m.d.wK,m.d.uJ,m.d.eJ⟩:Dcd),m.oJ⟩:Mac) (fun hm1=>⟨rfl,Q5⟩) W43
 refine dsp (fun h4 p4=>?_) fun h4 p4=>?_
 exact zE (B3 m b ((m).d.aJ-1)) (C0 (⟨(⟨m.d.pJ,m.d.mJ,m.d.sJ,(⟨0,0⟩:Scn),m.d.sX,m.d.aJ,m.d.field,m.d.wJ,m.d.wK,m.d.uJ,m.d.eJ⟩:Dcd),m.oJ⟩:Mac) (Aj m.d.sK b).1.bits) (fun hm1=>⟨(Akc (⟨(⟨m.d.pJ,m.d.mJ,m.d.sJ,(⟨0,0⟩:Scn),m.d.sX,m.d.aJ,m.d.field,m.d.wJ,m.d.wK,m.d.uJ,m.d.eJ⟩:Dcd),m.oJ⟩:Mac) _ (Q19) Q7 Q2),rfl,Q5⟩) W43
 refine dsp (fun h5 p5=>?_) fun h5 p5=>?_
 exact zE (B3 m b ((m).d.aJ-1)) (Ew (⟨(⟨m.d.pJ,m.d.mJ,m.d.sJ,(⟨0,0⟩:Scn),m.d.sX,m.d.aJ,m.d.field,m.d.wJ,m.d.wK,m.d.uJ,m.d.eJ⟩:Dcd),m.oJ⟩:Mac) (Aj m.d.sK b).1.bits) (fun hm1=>⟨(Ash (⟨(⟨m.d.pJ,m.d.mJ,m.d.sJ,(⟨0,0⟩:Scn),m.d.sX,m.d.aJ,m.d.field,m.d.wJ,m.d.wK,m.d.uJ,m.d.eJ⟩:Dcd),m.oJ⟩:Mac) _ (Q19) Q7 Q2),rfl,Q5⟩) W43
 refine dsp (fun h6 p6=>?_) fun h6 p6=>?_
 exact zE (B3 m b ((m).d.aJ-1)) (Cu (⟨(⟨m.d.pJ,m.d.mJ,m.d.sJ,(⟨0,0⟩:Scn),m.d.sX,m.d.aJ,m.d.field,m.d.wJ,m.d.wK,m.d.uJ,m.d.eJ⟩:Dcd),m.oJ⟩:Mac) (Aj m.d.sK b).1.bits) (fun hm1=>⟨(Ap1 (⟨(⟨m.d.pJ,m.d.mJ,m.d.sJ,(⟨0,0⟩:Scn),m.d.sX,m.d.aJ,m.d.field,m.d.wJ,m.d.wK,m.d.uJ,m.d.eJ⟩:Dcd),m.oJ⟩:Mac) _ (Q19) Q7 Q2 (hp1.kn)),rfl,Q5⟩) W43
 exact zE (B3 m b ((m).d.aJ-1)) (Ae (Bv (⟨(⟨m.d.pJ,m.d.mJ,m.d.sJ,(⟨0,0⟩:Scn),m.d.sX,m.d.aJ,m.d.field,m.d.wJ,m.d.wK,m.d.uJ,m.d.eJ⟩:Dcd),m.oJ⟩:Mac) (Aj m.d.sK b).1.bits)) (fun hm1=>⟨(Aew (⟨(⟨m.d.pJ,m.d.mJ,m.d.sJ,(⟨0,0⟩:Scn),m.d.sX,m.d.aJ,m.d.field,m.d.wJ,m.d.wK,m.d.uJ,m.d.eJ⟩:Dcd),m.oJ⟩:Mac) _ Q7 Q2),(E3 (Bv (⟨(⟨m.d.pJ,m.d.mJ,m.d.sJ,(⟨0,0⟩:Scn),m.d.sX,m.d.aJ,m.d.field,m.d.wJ,m.d.wK,m.d.uJ,m.d.eJ⟩:Dcd),m.oJ⟩:Mac) (Aj m.d.sK b).1.bits) (Q19) (Nat.le_trans (Gt _ _) Q69)),rfl,Q5⟩) W43
theorem Ur (m:Mac) (b:Int) (hp1:MW (m).d) (hp2:List.length (m).oJ≤50000000) (hp3:(0:Int)≤b∧b≤255):Fun Tryz.prog 119 [vP 0,vI b] [.cells (Ac 1 2 3 m),.tree m.d.pJ.sQ,.lst .lev m.d.sJ,.lst .ev m.oJ] (.tup []) [.cells (Ac 4 5 6 (D8 m b)),.dK,.dK,.dK,.tree (D8 m b).d.pJ.sQ,.lst .lev (D8 m b).d.sJ,.lst .ev (D8 m b).oJ]:=by
 have hN:Bh=274877906944:=rfl
 have hlv:=Cm hp1.lv
 have hpt:=By hlv.1
 have htb:=Jn hp1.lv
 have hwm:=Aik m
 have hbb:=hp1.b0
 have hat:=hp1.aJ
 have hwt:=hp1.wK
 have hwd:=Kz m.d
 have hfb:=Adc (b:=b) hbb
 refine Ar Tryz.func119 Q4 Q4 (w:=let zi:Int→C:= .int .i64;let z3:List Blk:=[.cells (Ac 4 5 6 (D8 m b)),.dK,.dK,.dK,.tree (D8 m b).d.pJ.sQ,.lst .lev (D8 m b).d.sJ,.lst .ev (D8 m b).oJ];let z6:=B4 m.d.sK b;let z1:=Bv (⟨(⟨m.d.pJ,m.d.mJ,m.d.sJ,(⟨0,0⟩:Scn),m.d.sX,m.d.aJ,m.d.field,m.d.wJ,m.d.wK,m.d.uJ,m.d.eJ⟩:Dcd),m.oJ⟩:Mac) z6.bits;let z2:List Blk:=[.cells (Ac 4 5 6 (Ae z1)),.dK,.dK,.dK,.tree (Ae z1).d.pJ.sQ,.lst .lev (Ae z1).d.sJ,.lst .ev (Ae z1).oJ];let z4:List Blk:=[.cells (Ac 1 2 3 z1),.tree z1.d.pJ.sQ,.lst .lev z1.d.sJ,.lst .ev z1.oJ];let z5:=A3 z1 9 z1.d.aJ;let z7:List Blk:=[.cells (Ac 1 2 4 z1),.tree z1.d.pJ.sQ,.lst .lev z1.d.sJ,.dK,.lst .ev z1.oJ];let z8:List Blk:=[.cells (Ac 1 2 4 z5),.tree z5.d.pJ.sQ,.lst .lev z5.d.sJ,.dK,.lst .ev z5.oJ];(.sZ [.ord [(0,true),(1,true),(2,true),(3,true),(5,true),(6,true),(7,true),(8,true),(9,true),(10,true),(4,false),(11,true),(12,true)] [],.call [] (.v (vI (Bw m.d))) [],.call [] (.v (.agg (Qx z6))) []] (.br (.sZ [.at 0,.cut 0 0,.cut 0 5,.cut 0 27] (.lJ () [0,1,2,3,4,5,6])) (.sZ [.call [0,1,2,3] (.tup []) z7] (.br (.br (.br (.sZ [.call [0,1,2,4] (.tup []) z8,.at 0,.cut 0 0,.cut 0 5] (.lJ () [0,1,2,3,6,7,5])) (.sZ [.call [0,1,2,4] (.tup []) z2] (.lJ () [0,1,2,3,5,6,7]))) (.sZ [.call [0,1,2,4] (.tup []) z2] (.lJ () [0,1,2,3,5,6,7]))) (.sZ [.call [0,1,2,4] (.tup []) z2] (.lJ () [0,1,2,3,5,6,7]))))),(Fp 118 [.agg (B9 m.d)] [] (.v (vI (Bw m.d))) [])∧(Fp 182 [.agg (Qx m.d.sK),vI b] [] (.v (.agg (Qx z6))) [])∧Bc (decide (z6.hJ<Bw m.d)) (Lf (.tup []) (.tup []) [.cells [.own 4,zi m.d.pJ.rJ,zi m.d.pJ.dJ,zi m.d.pJ.most,zi m.d.mJ,.own 5,.int .u64 z6.bits,zi z6.hJ,zi m.d.sX,zi m.d.aJ,zi m.d.field.nJ,zi m.d.field.kind,.bool m.d.field.rep,.bool m.d.field.packed,zi m.d.field.mK,zi m.d.wJ,zi m.d.wK,zi m.d.uJ.wK,zi m.d.uJ.low,zi m.d.uJ.high,zi m.d.eJ.kind,zi m.d.eJ.field,.int .u64 m.d.eJ.bits,zi m.d.eJ.len,.str m.d.eJ.text,zi m.d.eJ.code,zi m.d.eJ.aJ,.own 6],.dK,.dK,.dK,.tree m.d.pJ.sQ,.lst .lev m.d.sJ,.lst .ev m.oJ] z3) ((Fp 183 [vP 0,.c (.int .u64 z6.bits)] [.cells [.own 1,zi m.d.pJ.rJ,zi m.d.pJ.dJ,zi m.d.pJ.most,zi m.d.mJ,.own 2,.int .u64 0,zi 0,zi m.d.sX,zi m.d.aJ,zi m.d.field.nJ,zi m.d.field.kind,.bool m.d.field.rep,.bool m.d.field.packed,zi m.d.field.mK,zi m.d.wJ,zi m.d.wK,zi m.d.uJ.wK,zi m.d.uJ.low,zi m.d.uJ.high,zi m.d.eJ.kind,zi m.d.eJ.field,.int .u64 m.d.eJ.bits,zi m.d.eJ.len,.str m.d.eJ.text,zi m.d.eJ.code,zi m.d.eJ.aJ,.own 3],.tree m.d.pJ.sQ,.lst .lev m.d.sJ,.lst .ev m.oJ] (.tup []) z7)∧Bc (decide (m.d.mJ=8)) (Bc (decide (0<z1.d.wK)) (Bc (decide (z1.d.wK<Bw m.d)) ((Fp 52 [vP 0,vI 9,vI z1.d.aJ] z4 (.tup []) z8)∧Lf (.tup []) (.tup []) [.cells (Ac 4 5 6 z5),.dK,.dK,.dK,.tree z5.d.pJ.sQ,.lst .lev z5.d.sJ,.lst .ev z5.oJ] z3) ((Fp 117 [vP 0] z4 (.tup []) z2)∧Lf (.tup []) (.tup []) z2 z3)) ((Fp 117 [vP 0] z4 (.tup []) z2)∧Lf (.tup []) (.tup []) z2 z3)) ((Fp 117 [vP 0] z4 (.tup []) z2)∧Lf (.tup []) (.tup []) z2 z3)))) Q4 ?_
 refine⟨(Sf m.d),(Akd m.d.sK _),dsp (fun h1 p1=>?_) fun h1 p1=>?_⟩
 exact zE (D8 m b) (⟨(⟨m.d.pJ,m.d.mJ,m.d.sJ,(B4 m.d.sK b),m.d.sX,m.d.aJ,m.d.field,m.d.wJ,m.d.wK,m.d.uJ,m.d.eJ⟩:Dcd),m.oJ⟩:Mac) (fun hm1=>⟨rfl,Q5⟩) W44
 refine⟨(Aew (⟨(⟨m.d.pJ,m.d.mJ,m.d.sJ,(⟨0,0⟩:Scn),m.d.sX,m.d.aJ,m.d.field,m.d.wJ,m.d.wK,m.d.uJ,m.d.eJ⟩:Dcd),m.oJ⟩:Mac) _ Q7 Q2),dsp (fun h2 p2=>?_) fun h2 p2=>?_⟩
 refine dsp (fun h3 p3=>?_) fun h3 p3=>?_
 refine dsp (fun h4 p4=>?_) fun h4 p4=>?_
 exact zE (D8 m b) (A3 (Bv (⟨(⟨m.d.pJ,m.d.mJ,m.d.sJ,(⟨0,0⟩:Scn),m.d.sX,m.d.aJ,m.d.field,m.d.wJ,m.d.wK,m.d.uJ,m.d.eJ⟩:Dcd),m.oJ⟩:Mac) (B4 m.d.sK b).bits) 9 (Bv (⟨(⟨m.d.pJ,m.d.mJ,m.d.sJ,(⟨0,0⟩:Scn),m.d.sX,m.d.aJ,m.d.field,m.d.wJ,m.d.wK,m.d.uJ,m.d.eJ⟩:Dcd),m.oJ⟩:Mac) (B4 m.d.sK b).bits).d.aJ) (fun hm1=>⟨(Co (Bv (⟨(⟨m.d.pJ,m.d.mJ,m.d.sJ,(⟨0,0⟩:Scn),m.d.sX,m.d.aJ,m.d.field,m.d.wJ,m.d.wK,m.d.uJ,m.d.eJ⟩:Dcd),m.oJ⟩:Mac) (B4 m.d.sK b).bits) _ _ (Nat.le_trans (Gt _ _) Q69)),rfl,Q5⟩) W44
 exact zE (D8 m b) (Ae (Bv (⟨(⟨m.d.pJ,m.d.mJ,m.d.sJ,(⟨0,0⟩:Scn),m.d.sX,m.d.aJ,m.d.field,m.d.wJ,m.d.wK,m.d.uJ,m.d.eJ⟩:Dcd),m.oJ⟩:Mac) (B4 m.d.sK b).bits)) (fun hm1=>⟨(E3 (Bv (⟨(⟨m.d.pJ,m.d.mJ,m.d.sJ,(⟨0,0⟩:Scn),m.d.sX,m.d.aJ,m.d.field,m.d.wJ,m.d.wK,m.d.uJ,m.d.eJ⟩:Dcd),m.oJ⟩:Mac) (B4 m.d.sK b).bits) (Q19) (Nat.le_trans (Gt _ _) Q69)),rfl,Q5⟩) W44
 exact zE (D8 m b) (Ae (Bv (⟨(⟨m.d.pJ,m.d.mJ,m.d.sJ,(⟨0,0⟩:Scn),m.d.sX,m.d.aJ,m.d.field,m.d.wJ,m.d.wK,m.d.uJ,m.d.eJ⟩:Dcd),m.oJ⟩:Mac) (B4 m.d.sK b).bits)) (fun hm1=>⟨(E3 (Bv (⟨(⟨m.d.pJ,m.d.mJ,m.d.sJ,(⟨0,0⟩:Scn),m.d.sX,m.d.aJ,m.d.field,m.d.wJ,m.d.wK,m.d.uJ,m.d.eJ⟩:Dcd),m.oJ⟩:Mac) (B4 m.d.sK b).bits) (Q19) (Nat.le_trans (Gt _ _) Q69)),rfl,Q5⟩) W44
 exact zE (D8 m b) (Ae (Bv (⟨(⟨m.d.pJ,m.d.mJ,m.d.sJ,(⟨0,0⟩:Scn),m.d.sX,m.d.aJ,m.d.field,m.d.wJ,m.d.wK,m.d.uJ,m.d.eJ⟩:Dcd),m.oJ⟩:Mac) (B4 m.d.sK b).bits)) (fun hm1=>⟨(E3 (Bv (⟨(⟨m.d.pJ,m.d.mJ,m.d.sJ,(⟨0,0⟩:Scn),m.d.sX,m.d.aJ,m.d.field,m.d.wJ,m.d.wK,m.d.uJ,m.d.eJ⟩:Dcd),m.oJ⟩:Mac) (B4 m.d.sK b).bits) (Q19) (Nat.le_trans (Gt _ _) Q69)),rfl,Q5⟩) W44
theorem Aar (m:Mac) (b:Int) (hp1:MW (m).d) (hp2:List.length (m).oJ≤50000000) (hp3:(0:Int)≤b∧b≤255):Fun Tryz.prog 116 [vP 0,vI b] [.cells (Ac 1 2 3 m),.tree m.d.pJ.sQ,.lst .lev m.d.sJ,.lst .ev m.oJ] (.tup []) [.cells (Ac 4 5 6 (Es m b)),.dK,.dK,.dK,.tree (Es m b).d.pJ.sQ,.lst .lev (Es m b).d.sJ,.lst .ev (Es m b).oJ]:=by
 have hN:Bh=274877906944:=rfl
 have hlv:=Cm hp1.lv
 have hpt:=By hlv.1
 have htb:=Jn hp1.lv
 have hwm:=Aik m
 have hbb:=hp1.b0
 have hat:=hp1.aJ
 have hwt:=hp1.wK
 have hwd:=Kz m.d
 refine Ar Tryz.func116 Q4 Q4 (w:=let zi:Int→C:= .int .i64;let z3:List C:=[zi 4,zi 0,.int .u64 0,zi 0,.str (List.map Bj [b]),zi 0,zi 0];let z6:=(⟨4,0,0,0,List.map Bj [b],0,0⟩:Ev);let z5:=Ae (⟨(m).d,(m).oJ++[z6]⟩:Mac);let z7:List Blk:=[.cells (Ac 4 5 6 (Es m b)),.dK,.dK,.dK,.tree (Es m b).d.pJ.sQ,.lst .lev (Es m b).d.sJ,.lst .ev (Es m b).oJ];let z11:List Blk:=[.cells (Ac 4 5 6 z5),.dK,.dK,.dK,.tree z5.d.pJ.sQ,.lst .lev z5.d.sJ,.lst .ev z5.oJ];let z12:List Blk:=[.cells (Ac 1 2 4 m),.tree (m).d.pJ.sQ,.lst .lev (m).d.sJ,.dK,.lst .ev ((m).oJ++[z6])];let z14:List Blk:=[.cells (Ac 1 2 3 m),.tree m.d.pJ.sQ,.lst .lev m.d.sJ,.lst .ev m.oJ];let z16:=(.v (.c (.int .u8 (IntKind.u8.wrap (b)))):S)= .v (.c (.int .u8 b));let z18:=B8 m.d.uJ b;let z8:=z18.getD m.d.uJ;let z1:List C:=[.own 1,zi m.d.pJ.rJ,zi m.d.pJ.dJ,zi m.d.pJ.most,zi m.d.mJ,.own 2,.int .u64 m.d.sK.bits,zi m.d.sK.hJ,zi m.d.sX,zi m.d.aJ,zi m.d.field.nJ,zi m.d.field.kind,.bool m.d.field.rep,.bool m.d.field.packed,zi m.d.field.mK,zi m.d.wJ,zi m.d.wK,zi z8.wK,zi z8.low,zi z8.high,zi m.d.eJ.kind,zi m.d.eJ.field,.int .u64 m.d.eJ.bits,zi m.d.eJ.len,.str m.d.eJ.text,zi m.d.eJ.code,zi m.d.eJ.aJ,.own 4];let z2:List C:=[.own 1,zi m.d.pJ.rJ,zi m.d.pJ.dJ,zi m.d.pJ.most,zi m.d.mJ,.own 2,.int .u64 m.d.sK.bits,zi m.d.sK.hJ,zi m.d.sX,zi m.d.aJ,zi m.d.field.nJ,zi m.d.field.kind,.bool m.d.field.rep,.bool m.d.field.packed,zi m.d.field.mK,zi m.d.wJ,zi m.d.wK,zi z8.wK,zi z8.low,zi z8.high,zi m.d.eJ.kind,zi m.d.eJ.field,.int .u64 m.d.eJ.bits,zi m.d.eJ.len,.str m.d.eJ.text,zi m.d.eJ.code,zi m.d.eJ.aJ,.own 3];let z4:=Ae (⟨(⟨m.d.pJ,m.d.mJ,m.d.sJ,m.d.sK,m.d.sX,m.d.aJ,m.d.field,m.d.wJ,m.d.wK,z8,m.d.eJ⟩:Dcd),m.oJ++[z6]⟩:Mac);let z10:List Blk:=[.cells (Ac 4 5 6 z4),.dK,.dK,.dK,.tree z4.d.pJ.sQ,.lst .lev z4.d.sJ,.lst .ev z4.oJ];let z15:List Blk:=[.cells z1,.tree m.d.pJ.sQ,.lst .lev m.d.sJ,.dK,.lst .ev (m.oJ++[z6])];let z17:S:= .tup [.agg (Pk z8),vB z18.isSome];let z19:=m.d.aJ-1;let z9:=A3 m 5 z19;let z13:List Blk:=[.cells (Ac 1 2 4 z9),.tree z9.d.pJ.sQ,.lst .lev z9.d.sJ,.dK,.lst .ev z9.oJ];(.br (.sZ [.call [] z17 []] (.br (.sZ [.as 31 (.v (vI z19)),.call [0,1,2,3] (.tup []) z13,.at 0,.cut 0 0,.cut 0 5] (.lJ () [0,1,2,3,6,7,5])) (.sZ [.as 40 (.v (.c (.int .u8 b))),.ty .u8,.call [0,1,2,3] (.tup []) z15,.call [0,1,2,6] (.tup []) z10] (.lJ () [0,1,2,3,7,8,9])))) (.sZ [.as 40 (.v (.c (.int .u8 b))),.ty .u8,.call [0,1,2,3] (.tup []) z12,.call [0,1,2,5] (.tup []) z11] (.lJ () [0,1,2,3,6,7,8])),Bc (decide (m.d.field.kind=6)) ((Fp 179 [.agg (Pk m.d.uJ),vI b] [] z17 [])∧Bc (!z18.isSome) ((wI z19)∧(Fp 52 [vP 0,vI 5,vI z19] z14 (.tup []) z13)∧Lf (.tup []) (.tup []) [.cells (Ac 4 5 6 z9),.dK,.dK,.dK,.tree z9.d.pJ.sQ,.lst .lev z9.d.sJ,.lst .ev z9.oJ] z7) (z16∧(Fp 88 [vP 0,.agg z3] [.cells z2,.tree m.d.pJ.sQ,.lst .lev m.d.sJ,.lst .ev m.oJ] (.tup []) z15)∧(Fp 117 [vP 0] [.cells z2,.tree m.d.pJ.sQ,.lst .lev m.d.sJ,.lst .ev (m.oJ++[z6])] (.tup []) z10)∧Lf (.tup []) (.tup []) z10 z7)) (z16∧(Fp 88 [vP 0,.agg z3] z14 (.tup []) z12)∧(Fp 117 [vP 0] [.cells (Ac 1 2 3 m),.tree (m).d.pJ.sQ,.lst .lev (m).d.sJ,.lst .ev ((m).oJ++[z6])] (.tup []) z11)∧Lf (.tup []) (.tup []) z11 z7))) Q4 ?_
 refine dsp (fun h1 p1=>?_) fun h1 p1=>?_
 refine⟨(Aj5 m.d.uJ _),fun h2=>have q2:=Ao h2;?_,fun h2=>have q2:=An h2;?_⟩
 exact zE (Es m b) (A3 m 5 (m.d.aJ-1)) (fun hm1=>⟨(Ad Q2 Q2),(Co m _ _ Q2),rfl,Q5⟩) W45
 exact zE (Es m b) (Ae (⟨(⟨m.d.pJ,m.d.mJ,m.d.sJ,m.d.sK,m.d.sX,m.d.aJ,m.d.field,m.d.wJ,m.d.wK,((B8 m.d.uJ b).getD m.d.uJ),m.d.eJ⟩:Dcd),m.oJ++[(⟨4,0,0,0,List.map Bj [b],0,0⟩:Ev)]⟩:Mac)) (fun hm1=>⟨(Nd Q2 Q2),(Ge (⟨(⟨m.d.pJ,m.d.mJ,m.d.sJ,m.d.sK,m.d.sX,m.d.aJ,m.d.field,m.d.wJ,m.d.wK,((B8 m.d.uJ b).getD m.d.uJ),m.d.eJ⟩:Dcd),m.oJ⟩:Mac) (⟨4,0,0,0,List.map Bj [b],0,0⟩:Ev) Q7),(E3 (⟨(⟨m.d.pJ,m.d.mJ,m.d.sJ,m.d.sK,m.d.sX,m.d.aJ,m.d.field,m.d.wJ,m.d.wK,((B8 m.d.uJ b).getD m.d.uJ),m.d.eJ⟩:Dcd),m.oJ++[(⟨4,0,0,0,List.map Bj [b],0,0⟩:Ev)]⟩:Mac) (Q19) Q16),rfl,Q5⟩) W45
 exact zE (Es m b) (Ae (⟨(m).d,(m).oJ++[(⟨4,0,0,0,List.map Bj [b],0,0⟩:Ev)]⟩:Mac)) (fun hm1=>⟨(Nd Q2 Q2),(Ge m (⟨4,0,0,0,List.map Bj [b],0,0⟩:Ev) Q2),(E3 (⟨(m).d,(m).oJ++[(⟨4,0,0,0,List.map Bj [b],0,0⟩:Ev)]⟩:Mac) (Q19) Q16),rfl,Q5⟩) W45
theorem Asi (m:Mac) (b:Int) (hp1:MW (m).d) (hp2:List.length (m).oJ≤50000000) (hp3:(0:Int)≤b∧b≤255) (hp4:((m).d.sJ.length=0∨1≤D2 (m).d)) (hp5:(m).d.aJ≤1000000000) (hp6:((m).d.mJ=6∨(m).d.mJ=7∨(m).d.mJ=8)→0≤(m).d.wK):Fun Tryz.prog 58 [vP 0,vI b] [.cells (Ac 1 2 3 m),.tree m.d.pJ.sQ,.lst .lev m.d.sJ,.lst .ev m.oJ] (.tup []) [.cells (Ac 4 5 6 (Dw m b)),.dK,.dK,.dK,.tree (Dw m b).d.pJ.sQ,.lst .lev (Dw m b).d.sJ,.lst .ev (Dw m b).oJ]:=by
 have hN:Bh=274877906944:=rfl
 have hlv:=Cm hp1.lv
 have hpt:=By hlv.1
 have htb:=Jn hp1.lv
 have hwm:=Aik m
 have hbb:=hp1.b0
 have hat:=hp1.aJ
 have hwt:=hp1.wK
 have hwd:=Kz m.d
 have hms:=hp1.step hp4 hp5 hp6
 refine Ar Tryz.func58 Q4 Q4 (w:=let zi:Int→C:= .int .i64;let z12:List C:=[zi m.d.uJ.wK,zi m.d.uJ.low,zi m.d.uJ.high,zi m.d.eJ.kind,zi m.d.eJ.field,.int .u64 m.d.eJ.bits,zi m.d.eJ.len,.str m.d.eJ.text,zi m.d.eJ.code,zi m.d.eJ.aJ];let z13:List C:=[zi m.d.uJ.wK,zi m.d.uJ.low,zi m.d.uJ.high,zi m.d.eJ.kind,zi m.d.eJ.field,.int .u64 m.d.eJ.bits,zi m.d.eJ.len,.str m.d.eJ.text,zi m.d.eJ.code,zi m.d.eJ.aJ,.own 3];let z14:=(⟨m.d.pJ,m.d.mJ,m.d.sJ,m.d.sK,m.d.sX,m.d.aJ+1,m.d.field,m.d.wJ,m.d.wK-1,m.d.uJ,m.d.eJ⟩:Dcd);let z15:=(⟨m.d.pJ,m.d.mJ,m.d.sJ,m.d.sK,m.d.sX,m.d.aJ+1,m.d.field,m.d.wJ,m.d.wK,m.d.uJ,m.d.eJ⟩:Dcd);let z16:List Blk:=[.cells (Ac 4 5 6 (Dw m b)),.dK,.dK,.dK,.tree (Dw m b).d.pJ.sQ,.lst .lev (Dw m b).d.sJ,.lst .ev (Dw m b).oJ];let z17:=((m.d.sJ.length:Nat):Int);let z26:=decide (m.d.mJ=6);let z27:=m.d.wK-1;let z28:=decide (m.d.mJ=7);let z29:S:= .v (vI (Bw m.d));let z32:=Es (⟨z14,m.oJ⟩:Mac) b;let z21:List Blk:=[.cells (Ac 4 5 6 z32),.dK,.dK,.dK,.tree z32.d.pJ.sQ,.lst .lev z32.d.sJ,.lst .ev z32.oJ];let z33:=Ae (⟨z14,m.oJ⟩:Mac);let z22:List Blk:=[.cells (Ac 4 5 6 z33),.dK,.dK,.dK,.tree z33.d.pJ.sQ,.lst .lev z33.d.sJ,.lst .ev z33.oJ];let z34:=m.d.aJ+1;let z10:List C:= .own 1::zi m.d.pJ.rJ::zi m.d.pJ.dJ::zi m.d.pJ.most::zi m.d.mJ:: .own 2:: .int .u64 m.d.sK.bits::zi m.d.sK.hJ::zi m.d.sX::zi z34::zi m.d.field.nJ::zi m.d.field.kind:: .bool m.d.field.rep:: .bool m.d.field.packed::zi m.d.field.mK::zi m.d.wJ::zi z27::z13;let z11:List C:= .own 1::zi m.d.pJ.rJ::zi m.d.pJ.dJ::zi m.d.pJ.most::zi m.d.mJ:: .own 2:: .int .u64 m.d.sK.bits::zi m.d.sK.hJ::zi m.d.sX::zi z34::zi m.d.field.nJ::zi m.d.field.kind:: .bool m.d.field.rep:: .bool m.d.field.packed::zi m.d.field.mK::zi m.d.wJ::zi m.d.wK::z13;let z18:=z34-1;let z25:List Blk:=[.cells z10,.tree m.d.pJ.sQ,.lst .lev m.d.sJ,.lst .ev m.oJ];let z30:=B3 (⟨z14,m.oJ⟩:Mac) b z18;let z19:List Blk:=[.cells (Ac 4 5 6 z30),.dK,.dK,.dK,.tree z30.d.pJ.sQ,.lst .lev z30.d.sJ,.lst .ev z30.oJ];let z31:=B3 (⟨z15,m.oJ⟩:Mac) b z18;let z20:List Blk:=[.cells (Ac 4 5 6 z31),.dK,.dK,.dK,.tree z31.d.pJ.sQ,.lst .lev z31.d.sJ,.lst .ev z31.oJ];let z35:=D8 (⟨z14,m.oJ⟩:Mac) b;let z23:List Blk:=[.cells (Ac 4 5 6 z35),.dK,.dK,.dK,.tree z35.d.pJ.sQ,.lst .lev z35.d.sJ,.lst .ev z35.oJ];let z36:=D8 (⟨z15,m.oJ⟩:Mac) b;let z24:List Blk:=[.cells (Ac 4 5 6 z36),.dK,.dK,.dK,.tree z36.d.pJ.sQ,.lst .lev z36.d.sJ,.lst .ev z36.oJ];let z37:List V:=[vP 0,vI b];let z38:=Int.toNat (z17-1);let z39:=decide (0<Bw m.d);let z40:List Blk:=[.cells z11,.tree m.d.pJ.sQ,.lst .lev m.d.sJ,.lst .ev m.oJ];let z41:=(0:Int)≤z17-1;let z42:=z26=false;let z43:S:= .v (vI z27);let z44:=z17-1<z17;let z45:=m.d.sJ[Int.toNat (z17-1)]?;let z46:=z28=false;(.sZ [.as 9 (.v (vI z34))] (.br (.intro (Sx z45) fun x1=>let z1:=(⟨m.d.pJ,m.d.mJ,List.set m.d.sJ z38 (⟨x1.mK,x1.left-1⟩:Lev),m.d.sK,m.d.sX,m.d.aJ+1,m.d.field,m.d.wJ,m.d.wK-1,m.d.uJ,m.d.eJ⟩:Dcd);let z2:=(⟨m.d.pJ,m.d.mJ,List.set m.d.sJ z38 (⟨x1.mK,x1.left-1⟩:Lev),m.d.sK,m.d.sX,m.d.aJ+1,m.d.field,m.d.wJ,m.d.wK,m.d.uJ,m.d.eJ⟩:Dcd);.sZ [.ord (os 19 [18]) [],.as 31 (.v (vI (z17-1))),.el .lev x1,.as 35 (.v (vI (x1.left-1))),.el .lev x1] (.br (.sZ [.as 65 z43,.br true,.call [0,1,2,3] (.tup []) [.cells (Ac 4 5 6 (Es (⟨z1,m.oJ⟩:Mac) b)),.dK,.dK,.dK,.tree (Es (⟨z1,m.oJ⟩:Mac) b).d.pJ.sQ,.lst .lev (Es (⟨z1,m.oJ⟩:Mac) b).d.sJ,.lst .ev (Es (⟨z1,m.oJ⟩:Mac) b).oJ]] (.lJ () [0,1,2,3,4,5,6])) (.br (.sZ [.as 65 z43,.br false,.br true,.call [0,1,2,3] (.tup []) [.cells (Ac 4 5 6 (Ae (⟨z1,m.oJ⟩:Mac))),.dK,.dK,.dK,.tree (Ae (⟨z1,m.oJ⟩:Mac)).d.pJ.sQ,.lst .lev (Ae (⟨z1,m.oJ⟩:Mac)).d.sJ,.lst .ev (Ae (⟨z1,m.oJ⟩:Mac)).oJ]] (.lJ () [0,1,2,3,4,5,6])) (.br (.sZ [.as 65 z43,.br false,.br false,.call [] z29 []] (.br (.sZ [.call [0,1,2,3] (.tup []) [.cells (Ac 4 5 6 (D8 (⟨z1,m.oJ⟩:Mac) b)),.dK,.dK,.dK,.tree (D8 (⟨z1,m.oJ⟩:Mac) b).d.pJ.sQ,.lst .lev (D8 (⟨z1,m.oJ⟩:Mac) b).d.sJ,.lst .ev (D8 (⟨z1,m.oJ⟩:Mac) b).oJ]] (.lJ () [0,1,2,3,4,5,6])) (.sZ [.call [0,1,2,3] (.tup []) [.cells (Ac 4 5 6 (B3 (⟨z1,m.oJ⟩:Mac) b z18)),.dK,.dK,.dK,.tree (B3 (⟨z1,m.oJ⟩:Mac) b z18).d.pJ.sQ,.lst .lev (B3 (⟨z1,m.oJ⟩:Mac) b z18).d.sJ,.lst .ev (B3 (⟨z1,m.oJ⟩:Mac) b z18).oJ]] (.lJ () [0,1,2,3,4,5,6])))) (.sZ [.br false,.br false,.call [] z29 []] (.br (.sZ [.call [0,1,2,3] (.tup []) [.cells (Ac 4 5 6 (D8 (⟨z2,m.oJ⟩:Mac) b)),.dK,.dK,.dK,.tree (D8 (⟨z2,m.oJ⟩:Mac) b).d.pJ.sQ,.lst .lev (D8 (⟨z2,m.oJ⟩:Mac) b).d.sJ,.lst .ev (D8 (⟨z2,m.oJ⟩:Mac) b).oJ]] (.lJ () [0,1,2,3,4,5,6])) (.sZ [.call [0,1,2,3] (.tup []) [.cells (Ac 4 5 6 (B3 (⟨z2,m.oJ⟩:Mac) b z18)),.dK,.dK,.dK,.tree (B3 (⟨z2,m.oJ⟩:Mac) b z18).d.pJ.sQ,.lst .lev (B3 (⟨z2,m.oJ⟩:Mac) b z18).d.sJ,.lst .ev (B3 (⟨z2,m.oJ⟩:Mac) b z18).oJ]] (.lJ () [0,1,2,3,4,5,6])))))))) (.br (.sZ [.as 65 z43,.br true,.call [0,1,2,3] (.tup []) z21] (.lJ () [0,1,2,3,4,5,6])) (.br (.sZ [.as 65 z43,.br false,.br true,.call [0,1,2,3] (.tup []) z22] (.lJ () [0,1,2,3,4,5,6])) (.br (.sZ [.as 65 z43,.br false,.br false,.call [] z29 []] (.br (.sZ [.call [0,1,2,3] (.tup []) z23] (.lJ () [0,1,2,3,4,5,6])) (.sZ [.call [0,1,2,3] (.tup []) z19] (.lJ () [0,1,2,3,4,5,6])))) (.sZ [.br false,.br false,.call [] z29 []] (.br (.sZ [.call [0,1,2,3] (.tup []) z24] (.lJ () [0,1,2,3,4,5,6])) (.sZ [.call [0,1,2,3] (.tup []) z20] (.lJ () [0,1,2,3,4,5,6])))))))),(wI z34)∧Bc (decide (0<z17)) (El z45 fun x1=>(let z8:=m.d.sJ[Int.toNat (z17-1)]? =some x1;let z9:=(⟨x1.mK,x1.left-1⟩:Lev);let z3:=(⟨m.d.pJ,m.d.mJ,List.set m.d.sJ z38 z9,m.d.sK,m.d.sX,m.d.aJ+1,m.d.field,m.d.wJ,m.d.wK-1,m.d.uJ,m.d.eJ⟩:Dcd);let z4:=(⟨m.d.pJ,m.d.mJ,List.set m.d.sJ z38 z9,m.d.sK,m.d.sX,m.d.aJ+1,m.d.field,m.d.wJ,m.d.wK,m.d.uJ,m.d.eJ⟩:Dcd);let z7:=List.set m.d.sJ z38 z9;let z5:List Blk:=[.cells z10,.tree m.d.pJ.sQ,.lst .lev z7,.lst .ev m.oJ];let z6:List Blk:=[.cells z11,.tree m.d.pJ.sQ,.lst .lev z7,.lst .ev m.oJ];(wI (z17-1))∧(wI (z17-1))∧z44∧z41∧z44∧z41∧z8∧z8∧(wI (x1.left-1))∧(wI (x1.left-1))∧z44∧z41∧z44∧z41∧z8∧Bc z26 ((wI z27)∧(z26=true)∧(Fp 116 z37 z5 (.tup []) [.cells (Ac 4 5 6 (Es (⟨z3,m.oJ⟩:Mac) b)),.dK,.dK,.dK,.tree (Es (⟨z3,m.oJ⟩:Mac) b).d.pJ.sQ,.lst .lev (Es (⟨z3,m.oJ⟩:Mac) b).d.sJ,.lst .ev (Es (⟨z3,m.oJ⟩:Mac) b).oJ])∧Lf (.tup []) (.tup []) [.cells (Ac 4 5 6 (Es (⟨z3,m.oJ⟩:Mac) b)),.dK,.dK,.dK,.tree (Es (⟨z3,m.oJ⟩:Mac) b).d.pJ.sQ,.lst .lev (Es (⟨z3,m.oJ⟩:Mac) b).d.sJ,.lst .ev (Es (⟨z3,m.oJ⟩:Mac) b).oJ] z16) (Bc z28 ((wI z27)∧z42∧(z28=true)∧(Fp 117 [vP 0] z5 (.tup []) [.cells (Ac 4 5 6 (Ae (⟨z3,m.oJ⟩:Mac))),.dK,.dK,.dK,.tree (Ae (⟨z3,m.oJ⟩:Mac)).d.pJ.sQ,.lst .lev (Ae (⟨z3,m.oJ⟩:Mac)).d.sJ,.lst .ev (Ae (⟨z3,m.oJ⟩:Mac)).oJ])∧Lf (.tup []) (.tup []) [.cells (Ac 4 5 6 (Ae (⟨z3,m.oJ⟩:Mac))),.dK,.dK,.dK,.tree (Ae (⟨z3,m.oJ⟩:Mac)).d.pJ.sQ,.lst .lev (Ae (⟨z3,m.oJ⟩:Mac)).d.sJ,.lst .ev (Ae (⟨z3,m.oJ⟩:Mac)).oJ] z16) (Bc (decide (m.d.mJ=8)) ((wI z27)∧z42∧z46∧(Fp 118 [.agg (.seq .shp m.d.pJ.sQ::zi m.d.pJ.rJ::zi m.d.pJ.dJ::zi m.d.pJ.most::zi m.d.mJ:: .seq .lev z7:: .int .u64 m.d.sK.bits::zi m.d.sK.hJ::zi m.d.sX::zi z34::zi m.d.field.nJ::zi m.d.field.kind:: .bool m.d.field.rep:: .bool m.d.field.packed::zi m.d.field.mK::zi m.d.wJ::zi z27::z12)] [] z29 [])∧Bc z39 ((Fp 119 z37 z5 (.tup []) [.cells (Ac 4 5 6 (D8 (⟨z3,m.oJ⟩:Mac) b)),.dK,.dK,.dK,.tree (D8 (⟨z3,m.oJ⟩:Mac) b).d.pJ.sQ,.lst .lev (D8 (⟨z3,m.oJ⟩:Mac) b).d.sJ,.lst .ev (D8 (⟨z3,m.oJ⟩:Mac) b).oJ])∧Lf (.tup []) (.tup []) [.cells (Ac 4 5 6 (D8 (⟨z3,m.oJ⟩:Mac) b)),.dK,.dK,.dK,.tree (D8 (⟨z3,m.oJ⟩:Mac) b).d.pJ.sQ,.lst .lev (D8 (⟨z3,m.oJ⟩:Mac) b).d.sJ,.lst .ev (D8 (⟨z3,m.oJ⟩:Mac) b).oJ] z16) ((Fp 120 z37 z5 (.tup []) [.cells (Ac 4 5 6 (B3 (⟨z3,m.oJ⟩:Mac) b z18)),.dK,.dK,.dK,.tree (B3 (⟨z3,m.oJ⟩:Mac) b z18).d.pJ.sQ,.lst .lev (B3 (⟨z3,m.oJ⟩:Mac) b z18).d.sJ,.lst .ev (B3 (⟨z3,m.oJ⟩:Mac) b z18).oJ])∧Lf (.tup []) (.tup []) [.cells (Ac 4 5 6 (B3 (⟨z3,m.oJ⟩:Mac) b z18)),.dK,.dK,.dK,.tree (B3 (⟨z3,m.oJ⟩:Mac) b z18).d.pJ.sQ,.lst .lev (B3 (⟨z3,m.oJ⟩:Mac) b z18).d.sJ,.lst .ev (B3 (⟨z3,m.oJ⟩:Mac) b z18).oJ] z16)) (z42∧z46∧(Fp 118 [.agg (.seq .shp m.d.pJ.sQ::zi m.d.pJ.rJ::zi m.d.pJ.dJ::zi m.d.pJ.most::zi m.d.mJ:: .seq .lev z7:: .int .u64 m.d.sK.bits::zi m.d.sK.hJ::zi m.d.sX::zi z34::zi m.d.field.nJ::zi m.d.field.kind:: .bool m.d.field.rep:: .bool m.d.field.packed::zi m.d.field.mK::zi m.d.wJ::zi m.d.wK::z12)] [] z29 [])∧Bc z39 ((Fp 119 z37 z6 (.tup []) [.cells (Ac 4 5 6 (D8 (⟨z4,m.oJ⟩:Mac) b)),.dK,.dK,.dK,.tree (D8 (⟨z4,m.oJ⟩:Mac) b).d.pJ.sQ,.lst .lev (D8 (⟨z4,m.oJ⟩:Mac) b).d.sJ,.lst .ev (D8 (⟨z4,m.oJ⟩:Mac) b).oJ])∧Lf (.tup []) (.tup []) [.cells (Ac 4 5 6 (D8 (⟨z4,m.oJ⟩:Mac) b)),.dK,.dK,.dK,.tree (D8 (⟨z4,m.oJ⟩:Mac) b).d.pJ.sQ,.lst .lev (D8 (⟨z4,m.oJ⟩:Mac) b).d.sJ,.lst .ev (D8 (⟨z4,m.oJ⟩:Mac) b).oJ] z16) ((Fp 120 z37 z6 (.tup []) [.cells (Ac 4 5 6 (B3 (⟨z4,m.oJ⟩:Mac) b z18)),.dK,.dK,.dK,.tree (B3 (⟨z4,m.oJ⟩:Mac) b z18).d.pJ.sQ,.lst .lev (B3 (⟨z4,m.oJ⟩:Mac) b z18).d.sJ,.lst .ev (B3 (⟨z4,m.oJ⟩:Mac) b z18).oJ])∧Lf (.tup []) (.tup []) [.cells (Ac 4 5 6 (B3 (⟨z4,m.oJ⟩:Mac) b z18)),.dK,.dK,.dK,.tree (B3 (⟨z4,m.oJ⟩:Mac) b z18).d.pJ.sQ,.lst .lev (B3 (⟨z4,m.oJ⟩:Mac) b z18).d.sJ,.lst .ev (B3 (⟨z4,m.oJ⟩:Mac) b z18).oJ] z16)))))) (Bc z26 ((wI z27)∧(z26=true)∧(Fp 116 z37 z25 (.tup []) z21)∧Lf (.tup []) (.tup []) z21 z16) (Bc z28 ((wI z27)∧z42∧(z28=true)∧(Fp 117 [vP 0] z25 (.tup []) z22)∧Lf (.tup []) (.tup []) z22 z16) (Bc (decide (m.d.mJ=8)) ((wI z27)∧z42∧z46∧(Fp 118 [.agg (.seq .shp m.d.pJ.sQ::zi m.d.pJ.rJ::zi m.d.pJ.dJ::zi m.d.pJ.most::zi m.d.mJ:: .seq .lev m.d.sJ:: .int .u64 m.d.sK.bits::zi m.d.sK.hJ::zi m.d.sX::zi z34::zi m.d.field.nJ::zi m.d.field.kind:: .bool m.d.field.rep:: .bool m.d.field.packed::zi m.d.field.mK::zi m.d.wJ::zi z27::z12)] [] z29 [])∧Bc z39 ((Fp 119 z37 z25 (.tup []) z23)∧Lf (.tup []) (.tup []) z23 z16) ((Fp 120 z37 z25 (.tup []) z19)∧Lf (.tup []) (.tup []) z19 z16)) (z42∧z46∧(Fp 118 [.agg (.seq .shp m.d.pJ.sQ::zi m.d.pJ.rJ::zi m.d.pJ.dJ::zi m.d.pJ.most::zi m.d.mJ:: .seq .lev m.d.sJ:: .int .u64 m.d.sK.bits::zi m.d.sK.hJ::zi m.d.sX::zi z34::zi m.d.field.nJ::zi m.d.field.kind:: .bool m.d.field.rep:: .bool m.d.field.packed::zi m.d.field.mK::zi m.d.wJ::zi m.d.wK::z12)] [] z29 [])∧Bc z39 ((Fp 119 z37 z40 (.tup []) z24)∧Lf (.tup []) (.tup []) z24 z16) ((Fp 120 z37 z40 (.tup []) z20)∧Lf (.tup []) (.tup []) z20 z16))))))) Q4 ?_
 refine⟨(Ad Q2 Q2),dsp (fun h1 p1=>?_) fun h1 p1=>?_⟩
 have hne:m.d.sJ≠[]:=fun e=>by have:=congrArg List.length e;simp only[List.length_nil] at this;omega
 refine⟨(Bo (l:=m.d.sJ) (i:=Int.toNat (((m.d.sJ.length:Nat):Int)-1)) Q2),fun x1 hx1=>?_⟩
 have hll:=Kv (d:=m.d) (by rw[←hx1];congr 1;omega)
 have hix:Int.toNat ((m.d.sJ.length:Int)-1)=m.d.sJ.length-1:=by omega
 refine⟨(Ad Q2 Q2),(Ad Q2 Q2),Q2,Q2,Q2,Q2,hx1,hx1,(Ad Q2 Q2),(Ad Q2 Q2),Q2,Q2,Q2,Q2,hx1,dsp (fun h2 p2=>?_) fun h2 p2=>?_⟩
 exact zE (Dw m b) (Es (⟨(⟨m.d.pJ,m.d.mJ,List.set m.d.sJ (Int.toNat (((m.d.sJ.length:Nat):Int)-1)) (⟨x1.mK,x1.left-1⟩:Lev),m.d.sK,m.d.sX,m.d.aJ+1,m.d.field,m.d.wJ,m.d.wK-1,m.d.uJ,m.d.eJ⟩:Dcd),m.oJ⟩:Mac) b) (fun hm1=>⟨(Ad Q2 Q2),h2,(Aar (⟨(⟨m.d.pJ,m.d.mJ,List.set m.d.sJ (Int.toNat (((m.d.sJ.length:Nat):Int)-1)) (⟨x1.mK,x1.left-1⟩:Lev),m.d.sK,m.d.sX,m.d.aJ+1,m.d.field,m.d.wJ,m.d.wK-1,m.d.uJ,m.d.eJ⟩:Dcd),m.oJ⟩:Mac) _ (Q21) Q7 Q2),rfl,Q5⟩) W46
 refine dsp (fun h3 p3=>?_) fun h3 p3=>?_
 exact zE (Dw m b) (Ae (⟨(⟨m.d.pJ,m.d.mJ,List.set m.d.sJ (Int.toNat (((m.d.sJ.length:Nat):Int)-1)) (⟨x1.mK,x1.left-1⟩:Lev),m.d.sK,m.d.sX,m.d.aJ+1,m.d.field,m.d.wJ,m.d.wK-1,m.d.uJ,m.d.eJ⟩:Dcd),m.oJ⟩:Mac)) (fun hm1=>⟨(Ad Q2 Q2),h2,h3,(E3 (⟨(⟨m.d.pJ,m.d.mJ,List.set m.d.sJ (Int.toNat (((m.d.sJ.length:Nat):Int)-1)) (⟨x1.mK,x1.left-1⟩:Lev),m.d.sK,m.d.sX,m.d.aJ+1,m.d.field,m.d.wJ,m.d.wK-1,m.d.uJ,m.d.eJ⟩:Dcd),m.oJ⟩:Mac) ((by have e:Dz m.d=(⟨m.d.pJ,m.d.mJ,List.set m.d.sJ (Int.toNat (((m.d.sJ.length:Nat):Int)-1)) (⟨x1.mK,x1.left-1⟩:Lev),m.d.sK,m.d.sX,m.d.aJ+1,m.d.field,m.d.wJ,m.d.wK-1,m.d.uJ,m.d.eJ⟩:Dcd):=Q28;exact((e▸hms:MW (⟨m.d.pJ,m.d.mJ,List.set m.d.sJ (Int.toNat (((m.d.sJ.length:Nat):Int)-1)) (⟨x1.mK,x1.left-1⟩:Lev),m.d.sK,m.d.sX,m.d.aJ+1,m.d.field,m.d.wJ,m.d.wK-1,m.d.uJ,m.d.eJ⟩:Dcd))).lv)) Q7),rfl,Q5⟩) W46
 refine dsp (fun h4 p4=>?_) fun h4 p4=>?_
 refine⟨(Ad Q2 Q2),h2,h3,(Sf (⟨m.d.pJ,m.d.mJ,List.set m.d.sJ (Int.toNat (((m.d.sJ.length:Nat):Int)-1)) (⟨x1.mK,x1.left-1⟩:Lev),m.d.sK,m.d.sX,m.d.aJ+1,m.d.field,m.d.wJ,m.d.wK-1,m.d.uJ,m.d.eJ⟩:Dcd)),dsp (fun h5 p5=>?_) fun h5 p5=>?_⟩
 exact zE (Dw m b) (D8 (⟨(⟨m.d.pJ,m.d.mJ,List.set m.d.sJ (Int.toNat (((m.d.sJ.length:Nat):Int)-1)) (⟨x1.mK,x1.left-1⟩:Lev),m.d.sK,m.d.sX,m.d.aJ+1,m.d.field,m.d.wJ,m.d.wK-1,m.d.uJ,m.d.eJ⟩:Dcd),m.oJ⟩:Mac) b) (fun hm1=>⟨(Ur (⟨(⟨m.d.pJ,m.d.mJ,List.set m.d.sJ (Int.toNat (((m.d.sJ.length:Nat):Int)-1)) (⟨x1.mK,x1.left-1⟩:Lev),m.d.sK,m.d.sX,m.d.aJ+1,m.d.field,m.d.wJ,m.d.wK-1,m.d.uJ,m.d.eJ⟩:Dcd),m.oJ⟩:Mac) _ (Q21) Q7 Q2),rfl,Q5⟩) W46
 exact zE (Dw m b) (B3 (⟨(⟨m.d.pJ,m.d.mJ,List.set m.d.sJ (Int.toNat (((m.d.sJ.length:Nat):Int)-1)) (⟨x1.mK,x1.left-1⟩:Lev),m.d.sK,m.d.sX,m.d.aJ+1,m.d.field,m.d.wJ,m.d.wK-1,m.d.uJ,m.d.eJ⟩:Dcd),m.oJ⟩:Mac) b ((m.d.aJ+1)-1)) (fun hm1=>⟨(Uq (⟨(⟨m.d.pJ,m.d.mJ,List.set m.d.sJ (Int.toNat (((m.d.sJ.length:Nat):Int)-1)) (⟨x1.mK,x1.left-1⟩:Lev),m.d.sK,m.d.sX,m.d.aJ+1,m.d.field,m.d.wJ,m.d.wK-1,m.d.uJ,m.d.eJ⟩:Dcd),m.oJ⟩:Mac) _ (Q21) Q7 Q2),rfl,Q5⟩) W46
 refine⟨h2,h3,(Sf (⟨m.d.pJ,m.d.mJ,List.set m.d.sJ (Int.toNat (((m.d.sJ.length:Nat):Int)-1)) (⟨x1.mK,x1.left-1⟩:Lev),m.d.sK,m.d.sX,m.d.aJ+1,m.d.field,m.d.wJ,m.d.wK,m.d.uJ,m.d.eJ⟩:Dcd)),dsp (fun h5 p5=>?_) fun h5 p5=>?_⟩
 exact zE (Dw m b) (D8 (⟨(⟨m.d.pJ,m.d.mJ,List.set m.d.sJ (Int.toNat (((m.d.sJ.length:Nat):Int)-1)) (⟨x1.mK,x1.left-1⟩:Lev),m.d.sK,m.d.sX,m.d.aJ+1,m.d.field,m.d.wJ,m.d.wK,m.d.uJ,m.d.eJ⟩:Dcd),m.oJ⟩:Mac) b) (fun hm1=>⟨(Ur (⟨(⟨m.d.pJ,m.d.mJ,List.set m.d.sJ (Int.toNat (((m.d.sJ.length:Nat):Int)-1)) (⟨x1.mK,x1.left-1⟩:Lev),m.d.sK,m.d.sX,m.d.aJ+1,m.d.field,m.d.wJ,m.d.wK,m.d.uJ,m.d.eJ⟩:Dcd),m.oJ⟩:Mac) _ (Q42) Q7 Q2),rfl,Q5⟩) W46
 exact zE (Dw m b) (B3 (⟨(⟨m.d.pJ,m.d.mJ,List.set m.d.sJ (Int.toNat (((m.d.sJ.length:Nat):Int)-1)) (⟨x1.mK,x1.left-1⟩:Lev),m.d.sK,m.d.sX,m.d.aJ+1,m.d.field,m.d.wJ,m.d.wK,m.d.uJ,m.d.eJ⟩:Dcd),m.oJ⟩:Mac) b ((m.d.aJ+1)-1)) (fun hm1=>⟨(Uq (⟨(⟨m.d.pJ,m.d.mJ,List.set m.d.sJ (Int.toNat (((m.d.sJ.length:Nat):Int)-1)) (⟨x1.mK,x1.left-1⟩:Lev),m.d.sK,m.d.sX,m.d.aJ+1,m.d.field,m.d.wJ,m.d.wK,m.d.uJ,m.d.eJ⟩:Dcd),m.oJ⟩:Mac) _ (Q42) Q7 Q2),rfl,Q5⟩) W46
 have hne:m.d.sJ=[]:=List.eq_nil_of_length_eq_zero (by omega)
 refine dsp (fun h2 p2=>?_) fun h2 p2=>?_
 exact zE (Dw m b) (Es (⟨(⟨m.d.pJ,m.d.mJ,m.d.sJ,m.d.sK,m.d.sX,m.d.aJ+1,m.d.field,m.d.wJ,m.d.wK-1,m.d.uJ,m.d.eJ⟩:Dcd),m.oJ⟩:Mac) b) (fun hm1=>⟨(Ad Q2 Q2),h2,(Aar (⟨(⟨m.d.pJ,m.d.mJ,m.d.sJ,m.d.sK,m.d.sX,m.d.aJ+1,m.d.field,m.d.wJ,m.d.wK-1,m.d.uJ,m.d.eJ⟩:Dcd),m.oJ⟩:Mac) _ (Q35) Q7 Q2),rfl,Q5⟩) W46
 refine dsp (fun h3 p3=>?_) fun h3 p3=>?_
 exact zE (Dw m b) (Ae (⟨(⟨m.d.pJ,m.d.mJ,m.d.sJ,m.d.sK,m.d.sX,m.d.aJ+1,m.d.field,m.d.wJ,m.d.wK-1,m.d.uJ,m.d.eJ⟩:Dcd),m.oJ⟩:Mac)) (fun hm1=>⟨(Ad Q2 Q2),h2,h3,(E3 (⟨(⟨m.d.pJ,m.d.mJ,m.d.sJ,m.d.sK,m.d.sX,m.d.aJ+1,m.d.field,m.d.wJ,m.d.wK-1,m.d.uJ,m.d.eJ⟩:Dcd),m.oJ⟩:Mac) (Q19) Q7),rfl,Q5⟩) W46
 refine dsp (fun h4 p4=>?_) fun h4 p4=>?_
 refine⟨(Ad Q2 Q2),h2,h3,(Sf (⟨m.d.pJ,m.d.mJ,m.d.sJ,m.d.sK,m.d.sX,m.d.aJ+1,m.d.field,m.d.wJ,m.d.wK-1,m.d.uJ,m.d.eJ⟩:Dcd)),dsp (fun h5 p5=>?_) fun h5 p5=>?_⟩
 exact zE (Dw m b) (D8 (⟨(⟨m.d.pJ,m.d.mJ,m.d.sJ,m.d.sK,m.d.sX,m.d.aJ+1,m.d.field,m.d.wJ,m.d.wK-1,m.d.uJ,m.d.eJ⟩:Dcd),m.oJ⟩:Mac) b) (fun hm1=>⟨(Ur (⟨(⟨m.d.pJ,m.d.mJ,m.d.sJ,m.d.sK,m.d.sX,m.d.aJ+1,m.d.field,m.d.wJ,m.d.wK-1,m.d.uJ,m.d.eJ⟩:Dcd),m.oJ⟩:Mac) _ (Q35) Q7 Q2),rfl,Q5⟩) W46
 exact zE (Dw m b) (B3 (⟨(⟨m.d.pJ,m.d.mJ,m.d.sJ,m.d.sK,m.d.sX,m.d.aJ+1,m.d.field,m.d.wJ,m.d.wK-1,m.d.uJ,m.d.eJ⟩:Dcd),m.oJ⟩:Mac) b ((m.d.aJ+1)-1)) (fun hm1=>⟨(Uq (⟨(⟨m.d.pJ,m.d.mJ,m.d.sJ,m.d.sK,m.d.sX,m.d.aJ+1,m.d.field,m.d.wJ,m.d.wK-1,m.d.uJ,m.d.eJ⟩:Dcd),m.oJ⟩:Mac) _ (Q35) Q7 Q2),rfl,Q5⟩) W46
 refine⟨h2,h3,(Sf (⟨m.d.pJ,m.d.mJ,m.d.sJ,m.d.sK,m.d.sX,m.d.aJ+1,m.d.field,m.d.wJ,m.d.wK,m.d.uJ,m.d.eJ⟩:Dcd)),dsp (fun h5 p5=>?_) fun h5 p5=>?_⟩
 exact zE (Dw m b) (D8 (⟨(⟨m.d.pJ,m.d.mJ,m.d.sJ,m.d.sK,m.d.sX,m.d.aJ+1,m.d.field,m.d.wJ,m.d.wK,m.d.uJ,m.d.eJ⟩:Dcd),m.oJ⟩:Mac) b) (fun hm1=>⟨(Ur (⟨(⟨m.d.pJ,m.d.mJ,m.d.sJ,m.d.sK,m.d.sX,m.d.aJ+1,m.d.field,m.d.wJ,m.d.wK,m.d.uJ,m.d.eJ⟩:Dcd),m.oJ⟩:Mac) _ (Q54) Q7 Q2),rfl,Q5⟩) W46
 exact zE (Dw m b) (B3 (⟨(⟨m.d.pJ,m.d.mJ,m.d.sJ,m.d.sK,m.d.sX,m.d.aJ+1,m.d.field,m.d.wJ,m.d.wK,m.d.uJ,m.d.eJ⟩:Dcd),m.oJ⟩:Mac) b ((m.d.aJ+1)-1)) (fun hm1=>⟨(Uq (⟨(⟨m.d.pJ,m.d.mJ,m.d.sJ,m.d.sK,m.d.sX,m.d.aJ+1,m.d.field,m.d.wJ,m.d.wK,m.d.uJ,m.d.eJ⟩:Dcd),m.oJ⟩:Mac) _ (Q54) Q7 Q2),rfl,Q5⟩) W46
theorem Aqx (d:Dcd):Fun Tryz.prog 56 [.agg (B9 d)] [] (.v (vB (Fc d))) []:=by
 have hN:Bh=274877906944:=rfl
 refine Ar Tryz.func56 Q4 Q4 (w:=(.br (.lJ () []) (.lJ () []),Bc (!decide (d.mJ=9)) (Lf (.v (vB (decide (d.aJ<1000000000)))) (.v (vB (Fc d))) [] []) (Lf (.v (vB false)) (.v (vB (Fc d))) [] []))) Q4 ?_
 refine⟨fun h1=>have q1:=Ao h1;have p1:=of_decide_eq_false q1;?_,fun h1=>have q1:=An h1;have p1:=of_decide_eq_true q1;?_⟩
 exact⟨(sB W47),rfl⟩
 exact⟨(sB W47),rfl⟩
structure Com (d:Dcd):Prop where
 lv:Bn d=true
 aJ:0≤d.aJ∧d.aJ≤1000000000
 st:0≤d.sX∧d.sX≤d.aJ
 ut:Fe d.uJ=true
 wi:C4 d.wJ=true
 fl:d.field=fld0∨known d.pJ.sQ d.field=true
 en:d.eJ=ev0
theorem J2 {d:Dcd} (lv:Bn d=true) (hm:1≤d.mJ∧d.mJ≤9) (aJ:0≤d.aJ∧d.aJ≤1000000000) (st:0≤d.sX∧d.sX≤d.aJ) (ut:Fe d.uJ=true) (wi:C4 d.wJ=true) (fl:d.field=fld0∨known d.pJ.sQ d.field=true)
  (h8:Abq d=true) (h9:Ln d=true) (h10:J8 d=true) (h11:J9 d=true) (h12:Ku d=true):Ce d=true:=by
 simp only[Ce,Bool.and_eq_true,Bool.or_eq_true,decide_eq_true_eq]
 refine⟨⟨⟨⟨⟨⟨⟨⟨⟨⟨⟨lv,?_⟩,?_⟩,?_⟩,ut⟩,wi⟩,fl⟩,h8⟩,h9⟩,h10⟩,h11⟩,h12⟩<;>simp only[Ak,Bool.and_eq_true,decide_eq_true_eq]<;>assumption
theorem Ap2 {d:Dcd} {c a:Int} (lv:Bn d=true) (aJ:0≤d.aJ∧d.aJ≤1000000000) (st:0≤d.sX∧d.sX≤d.aJ) (ut:Fe d.uJ=true) (wi:C4 d.wJ=true) (fl:d.field=fld0∨known d.pJ.sQ d.field=true) (hc:1≤c) (ha:0≤a):Ce (Ba d c a)=true:=by
 have hs:(⟨0,0⟩:Scn)=scn0:=rfl
 refine J2 (Cn lv rfl rfl) (show (1:Int)≤9∧(9:Int)≤9 by decide) aJ st ut wi fl ?_ ?_ ?_ ?_ ?_
 ·simp[Abq,Ba,H5,Tj,Ak,Wm,Fb,As,Gs,Fd,hc,ha]
 ·simp[Ln,Ba]
 ·simp[J8,Ba]
 ·simp[J9,Ba]
 ·simp[Ku,Ba,Bw,hs]
theorem Com.fail {d:Dcd} (h:Com d) {c a:Int} (hc:1≤c) (ha:0≤a):Ce (Ba d c a)=true:=Ap2 h.lv h.aJ h.st h.ut h.wi h.fl hc ha
theorem Ab1 {m:Mac} (h:m.d.mJ=9∨m.d.mJ=1):A1 m=none:=by
 unfold A1
 rw[if_neg (by omega),if_neg (by omega),if_neg (by omega)]
structure Pre (d:Dcd):Prop extends Com d where
 sc:d.sK=scn0
 ne:0<d.sJ.length
 md:(d.mJ=2∧d.wK=0)∨(d.mJ=6∧Ff d.field.kind=true∧0≤d.wK∧d.wK≤D2 d)∨(d.mJ=7∧0≤d.wK∧d.wK≤D2 d)∨(d.mJ=8∧U3 d.field=true∧0≤d.wK∧d.wK≤D2 d∧(d.wK=0∨Aq (Be d.field.kind)≤d.wK))
theorem To:D4 scn0=true:=by simp[D4,scn0,Ak]
theorem Us {d e:Dcd} {k:Nat} (h:Bn d=true) (hp:e.pJ=d.pJ) (hs:e.sJ=d.sJ.take k):Bn e=true:=by
 have hb:=Cm h
 refine Ju (by rw[hp];exact hb.1) ?_ fun l hl=>?_
 ·rw[hs,hp];have:=hb.2.1;simp only[List.length_take];omega
 ·rw[hp];rw[hs] at hl;exact hb.2.2.2 l (List.mem_of_mem_take hl)
theorem Ys:Fe ⟨0,0,0⟩=true:=by decide
set_option maxHeartbeats 3200000 in
theorem Pre.close {d:Dcd} (h:Pre d) (o:List Ev):(A1 ⟨d,o⟩=none∧Ce d=true)∨∃q,A1 ⟨d,o⟩=some q∧(Pre q.d∨(Ce q.d=true∧A1 q=none)):=by
 have hb:=Jn h.lv
 have hsc:=h.sc
 have hne:=h.ne
 have h0:d.sK.hJ=0:=by rw[hsc];rfl
 have hb0:d.sK.bits=0:=by rw[hsc];rfl
 have hend:d.mJ≠9→Abq d=true:=fun h9=>by unfold Abq;rw[if_neg h9];exact decide_eq_true h.en
 have hst:d.mJ≠1→1≤D2 d→Ln d=true:=fun h1 ht=>by unfold Ln;rw[if_neg h1];split;rfl;exact decide_eq_true ht
 rcases h.md with ⟨hm,hw⟩|⟨hm,hk,hw0,hw1⟩|⟨hm,hw0,hw1⟩|⟨hm,hk,hw0,hw1,hw2⟩
 ·by_cases ht:D2 d=0
  ·right
   by_cases h1:d.sJ.length=1
   ·refine⟨_,Tk hm h0 hne ht h1,.inr ⟨?_,Ab1 (.inr rfl)⟩⟩
    have hn:d.sJ.take (d.sJ.length-1)=[]:=by rw[h1];rfl
    refine J2 (Us h.lv rfl rfl) (show (1:Int)≤1∧(1:Int)≤9 by decide) h.aJ h.st h.ut h.wi h.fl ?_ ?_ ?_ ?_ ?_
    ·simp[Abq,h.en]
    ·simp[Ln,hn]
    ·simp[J8,hw]
    ·simp[J9]
    ·simp[Ku,Bw,hsc,To]
   ·refine⟨_,Tm hm h0 hne ht h1,.inl ⟨⟨Us h.lv rfl rfl,h.aJ,h.st,h.ut,h.wi,h.fl,h.en⟩,hsc,?_,.inl ⟨hm,hw⟩⟩⟩
    simp only[List.length_take];omega
  ·left
   refine⟨?_,?_⟩
   ·unfold A1;simp only;rw[if_neg (by omega),if_neg (by omega),if_neg (by omega)]
   ·refine J2 h.lv (by omega) h.aJ h.st h.ut h.wi h.fl (hend (by omega)) (hst (by omega) (by omega)) ?_ ?_ ?_
    ·simp[J8,hm,hw]
    ·simp[J9,hm]
    ·simp[Ku,Bw,hm,hsc,To]
 ·by_cases hw:d.wK<1
  ·right
   by_cases hu:0<d.uJ.wK
   ·refine⟨A3 ⟨d,o⟩ 5 d.aJ,by unfold A1;simp only;rw[if_pos ⟨hm,hw⟩,if_pos hu],.inr ⟨h.toCom.fail (by decide) h.aJ.1,Ab1 (.inl rfl)⟩⟩
   ·refine⟨_,by unfold A1;simp only;rw[if_pos ⟨hm,hw⟩,if_neg hu],.inl ⟨⟨Cn h.lv rfl rfl,h.aJ,h.st,Ys,h.wi,h.fl,h.en⟩,hsc,hne,.inl ⟨rfl,rfl⟩⟩⟩
  ·left
   refine⟨?_,?_⟩
   ·unfold A1;simp only;rw[if_neg (by omega),if_neg (by omega),if_neg (by omega)]
   ·refine J2 h.lv (by omega) h.aJ h.st h.ut h.wi h.fl (hend (by omega)) (hst (by omega) (by omega)) ?_ ?_ ?_
    ·simp[J8,hm,Ak];omega
    ·simp[J9,hm,hk]
    ·simp[Ku,Bw,hm,hsc]
 ·by_cases hw:d.wK<1
  ·right
   refine⟨_,by unfold A1;simp only;rw[if_neg (by omega),if_pos ⟨.inl hm,hw⟩],.inl ⟨⟨Cn h.lv rfl rfl,h.aJ,h.st,h.ut,h.wi,h.fl,h.en⟩,hsc,hne,.inl ⟨rfl,rfl⟩⟩⟩
  ·left
   refine⟨?_,?_⟩
   ·unfold A1;simp only;rw[if_neg (by omega),if_neg (by omega),if_neg (by omega)]
   ·refine J2 h.lv (by omega) h.aJ h.st h.ut h.wi h.fl (hend (by omega)) (hst (by omega) (by omega)) ?_ ?_ ?_
    ·simp[J8,hm,Ak];omega
    ·simp[J9,hm]
    ·simp[Ku,Bw,hm,hsc]
 ·by_cases hw:d.wK<1
  ·right
   refine⟨_,by unfold A1;simp only;rw[if_neg (by omega),if_pos ⟨.inr ⟨hm,h0⟩,hw⟩],.inl ⟨⟨Cn h.lv rfl rfl,h.aJ,h.st,h.ut,h.wi,h.fl,h.en⟩,hsc,hne,.inl ⟨rfl,rfl⟩⟩⟩
  ·left
   refine⟨?_,?_⟩
   ·unfold A1;simp only;rw[if_neg (by omega),if_neg (by omega),if_neg (by omega)]
   ·refine J2 h.lv (by omega) h.aJ h.st h.ut h.wi h.fl (hend (by omega)) (hst (by omega) (by omega)) ?_ ?_ ?_
    ·simp[J8,hm,Ak];omega
    ·simp[J9,hm,hk]
    ·have hwd:Bw d=Aq (Be d.field.kind):=by unfold Bw;rw[if_neg (by omega),if_pos hm]
     have hr:Rq d=d.wK:=by unfold Rq;rw[if_pos hm]
     unfold Ku
     split
     ·rw[h0,hb0,hr]
      simp[Ak]
      omega
     ·rw[if_neg (by omega),hsc];exact To
theorem Pre.settle: ∀(k:Nat) (m:Mac),wM m≤k→Pre m.d→Ce (Ae m).d=true:=by
 intro k
 induction k with
 |zero=>
  intro m hk h
  have:=h.ne
  have:m.d.sJ.length≤wM m:=by unfold wM;omega
  omega
 |succ k ih=>
  intro m hk h
  rcases h.close m.oJ with ⟨h1,h2⟩|⟨q,h1,h2⟩
  ·rw[Bz h1];exact h2
  ·rw[Cd h1]
   rcases h2 with h2|⟨h2,h3⟩
   ·exact ih q (by have h3:wM q<wM m:=(Ck h1).1;omega) h2
   ·rw[Bz h3];exact h2
theorem G8 {m:Mac} (h:Pre m.d):Ce (Ae m).d=true:=Pre.settle _ m (Nat.le_refl _) h
theorem An1 {d:Dcd} {o:List Ev} {u:Int} (h:Com d) (hw:d.wK=0) (hu:0≤u):Ce (C0 ⟨d,o⟩ u).d=true:=by
 unfold C0
 simp only
 split
 ·exact h.fail (by decide) h.st.1
 ·exact G8 ⟨⟨S4 (u:=u) h.lv rfl rfl hu (by omega),h.aJ,h.st,h.ut,h.wi,h.fl,h.en⟩,rfl,Nat.zero_lt_one,.inl ⟨rfl,hw⟩⟩
theorem An2 {d:Dcd} {n:Int} (h:Com d) (hn:d.sJ.length≠0):(fieldAt d.pJ.sQ (Hi d).mK n).getD fld0=fld0∨known d.pJ.sQ ((fieldAt d.pJ.sQ (Hi d).mK n).getD fld0)=true:=by
 cases hf:fieldAt d.pJ.sQ (Hi d).mK n with
 |none=>exact .inl rfl
 |some f=>
  right
  have hb:=Cm h.lv
  have hl:=hb.2.2.2 _ (Uf hn)
  simp only[F9,Bool.and_eq_true] at hl
  have hl:=Av hl.1
  have hk:=(Vd (By hb.1).2.1 hf).2
  show known d.pJ.sQ f=true
  refine Abr (k:=(Hi d).mK.toNat) Q2 ?_
  rw[hk,show (((Hi d).mK.toNat:Nat):Int)=(Hi d).mK by omega];exact hf
theorem Asj {d:Dcd} {o:List Ev} {u:Int} (h:Com d) (hw:d.wK=0):Ce (Ew ⟨d,o⟩ u).d=true:=by
 unfold Ew
 simp only
 split
 ·exact h.fail (by decide) h.st.1
 ·rename_i h1
  simp only[not_or] at h1
  have hk:=An2 (n:=A8 u) h h1.2
  split
  ·exact h.fail (by decide) h.st.1
  ·rename_i h2
   have h2:C4 (Ag u)=true:=by simpa using h2
   split
   ·exact h.fail (by decide) h.st.1
   ·rename_i h3
    split
    ·exact Ap2 (d:=⟨d.pJ,d.mJ,d.sJ,⟨0,0⟩,d.sX,d.aJ,(fieldAt d.pJ.sQ (Hi d).mK (A8 u)).getD fld0,Ag u,d.wK,d.uJ,d.eJ⟩) (Cn h.lv rfl rfl) h.aJ h.st h.ut h2 hk (by decide) h.aJ.1
    ·rename_i h4
     have hfit:(fieldAt d.pJ.sQ (Hi d).mK (A8 u)).getD fld0=fld0∨Dk ((fieldAt d.pJ.sQ (Hi d).mK (A8 u)).getD fld0) (Ag u)=true:=by
      cases hf:fieldAt d.pJ.sQ (Hi d).mK (A8 u) with
      |none=>exact .inl rfl
      |some f=>right;rw[hf] at h3;simpa using h3
     have hwi:Ag u=0∨Ag u=1∨Ag u=2∨Ag u=5:=by
      simp only[C4,Bool.or_eq_true,decide_eq_true_eq] at h2;omega
     have hwb:=Dv (Ag u)
     have htop: ∀e:Dcd,e.sJ=d.sJ→D2 e=D2 d:=fun e he=>by unfold D2;rw[he]
     generalize (fieldAt d.pJ.sQ (Hi d).mK (A8 u)).getD fld0=f at *
     generalize Ag u=w at *
     refine J2 (Cn h.lv rfl rfl) ?_ h.aJ h.st h.ut h2 hk ?_ ?_ ?_ ?_ ?_
     ·show 1≤(if w=0 then (3:Int) else if w=2 then 4 else 5)∧(if w=0 then (3:Int) else if w=2 then 4 else 5)≤9
      split<;>(try split)<;>omega
     ·rcases hwi with rfl|rfl|rfl|rfl<;>simp[Abq,h.en]
     ·have:=htop ⟨d.pJ,if w=0 then 3 else if w=2 then 4 else 5,d.sJ,⟨0,0⟩,d.sX,d.aJ,f,w,d.wK,d.uJ,d.eJ⟩ rfl
      rcases hwi with rfl|rfl|rfl|rfl<;>simp[Ln] at this ⊢ <;>rw[this]<;>omega
     ·rcases hwi with rfl|rfl|rfl|rfl<;>simp[J8,hw]
     ·rcases hwi with rfl|rfl|rfl|rfl<;>simp[J9,Apz,Aq]<;>exact hfit
     ·have:=htop ⟨d.pJ,if w=0 then 3 else if w=2 then 4 else 5,d.sJ,⟨0,0⟩,d.sX,d.aJ,f,w,d.wK,d.uJ,d.eJ⟩ rfl
      rcases hwi with rfl|rfl|rfl|rfl<;>simp[Ku,Bw,Aq,Rq,Ak,D4] at this h4 ⊢ <;>rw[this]<;>omega
theorem Aqy {f:Fld} (h:f=fld0∨Dk f 2=true) (h0:f≠fld0) (h8:f.kind≠8) (hb:Ff f.kind=false):U3 f=true:=by
 rcases h with h|h
 ·exact absurd h h0
 ·simp only[Dk,Bool.or_eq_true,Bool.and_eq_true,decide_eq_true_eq] at h
  rcases h with h|h
  ·exfalso
   simp only[Ff,Bool.or_eq_false_iff,decide_eq_false_iff_not] at hb
   unfold Be En at h
   split at h
   ·rename_i hk
    have hk:=Av hk
    repeat' split at h
    all_goals omega
   ·omega
  ·exact h.2
theorem Aqz {d:Dcd} {o:List Ev} {u:Int} (h:Com d) (hw:d.wK=0) (hu:0≤u) (hf:d.field=fld0∨Dk d.field 2=true):Ce (Cu ⟨d,o⟩ u).d=true:=by
 unfold Cu
 simp only
 split
 ·exact h.fail (by decide) h.st.1
 ·rename_i h1
  simp only[not_or] at h1
  have hn:0<d.sJ.length:=by omega
  split
  ·exact G8 ⟨⟨Cn h.lv rfl rfl,h.aJ,h.st,h.ut,h.wi,h.fl,h.en⟩,rfl,hn,.inr (.inr (.inl ⟨rfl,hu,by show u≤D2 d;omega⟩))⟩
  ·rename_i h0
   split
   ·rename_i h8
    split
    ·exact h.fail (by decide) h.st.1
    ·rename_i hd
     have hk:=h.fl.resolve_left h0
     exact G8 ⟨⟨Ug (u:=u) h.lv hk h8 h1.1 Q2 hu Q2 rfl rfl,h.aJ,h.st,h.ut,h.wi,h.fl,h.en⟩,rfl,by simp,.inl ⟨rfl,rfl⟩⟩
   ·rename_i h8
    split
    ·rename_i hb
     exact G8 ⟨⟨Cn h.lv rfl rfl,h.aJ,h.st,Ys,h.wi,h.fl,h.en⟩,rfl,hn,.inr (.inl ⟨rfl,hb,hu,by show u≤D2 d;omega⟩)⟩
    ·rename_i hb
     split
     ·exact h.fail (by decide) h.aJ.1
     ·rename_i hx
      exact G8 ⟨⟨Cn h.lv rfl rfl,h.aJ,h.st,h.ut,h.wi,h.fl,h.en⟩,rfl,hn,.inr (.inr (.inr ⟨rfl,Aqy hf h0 h8 (by simpa using hb),hu,by show u≤D2 d;omega,by show u=0∨Aq (Be d.field.kind)≤u;omega⟩))⟩
theorem Com.sX {d:Dcd} (h:Com d) {a:Int} (ha:0≤a∧a≤d.aJ):Com (G5 d a):=by
 refine⟨Cn h.lv rfl rfl,h.aJ,?_,h.ut,h.wi,h.fl,h.en⟩
 show 0≤(if d.sK.hJ=0∧(d.mJ=1∨d.mJ=2∨d.mJ=4) then a else d.sX)∧(if d.sK.hJ=0∧(d.mJ=1∨d.mJ=2∨d.mJ=4) then a else d.sX)≤d.aJ
 split
 ·exact ha
 ·exact h.st
theorem Com.sK {d:Dcd} (h:Com d) (s:Scn):Com (G1 d s):=⟨Cn h.lv rfl rfl,h.aJ,h.st,h.ut,h.wi,h.fl,h.en⟩
theorem Akf {s:Scn} {b:Int} (h0:0≤s.bits) (h:(Aj s b).2=0):D4 (Aj s b).1=true:=by
 unfold Aj at h ⊢
 split at h
 ·simp at h
 ·rename_i hc
  rw[if_neg hc]
  simp only[not_or] at hc
  have hs:D4 s=true:=by simpa using hc.1
  have hb:=Av (show Ak b 0 255=true by simpa using hc.2.1)
  have hk:=Xf hs h0
  have hb2: ¬b<128:=fun hx=>by rw[if_pos hx] at h;simp at h
  have h9:s.hJ≠9:=fun e=>hc.2.2 ⟨e,by omega⟩
  obtain ⟨u,hv⟩:=s
  simp only at h0 hk h9 ⊢
  obtain ⟨k,rfl⟩:=Int.eq_ofNat_of_zero_le hk.1
  have hk9:k<9:=by omega
  have hu:=hk.2.2
  rw[Int.toNat_natCast] at hu ⊢
  have hp:(0:Int)<2 ^ (7*(k+1)):=Int.pow_pos (by decide)
  have hp2:(2:Int) ^ (7*(k+1))=2 ^ (7*k)*128:=by rw[show 7*(k+1)=7*k+7 by omega,Int.pow_add];rfl
  have hp0:(0:Int)<2 ^ (7*k):=Int.pow_pos (by decide)
  have hm:b % 128*2 ^ (7*k)≤127*2 ^ (7*k):=Int.mul_le_mul_of_nonneg_right (by omega) (by omega)
  have hm0:0≤b % 128*2 ^ (7*k):=Int.mul_nonneg (by omega) (by omega)
  simp only[D4,Ak,Bool.and_eq_true,decide_eq_true_eq]
  refine⟨⟨by omega,by omega⟩,?_⟩
  rw[show min (Int.toNat (7*((k:Int)+1))) 64=7*(k+1) by omega,Int.fdiv_eq_ediv_of_nonneg _ (Int.le_of_lt hp)]
  exact Int.ediv_eq_zero_of_lt Q2 Q2
theorem Ask {d:Dcd} {o:List Ev} {b a:Int} (h:Com d) (hb:0≤d.sK.bits∧d.sK.bits≤18446744073709551615) (ha:0≤a∧a≤d.aJ) (h1:d.mJ=1→d.sJ=[]) (hn:d.mJ≠1→0<d.sJ.length) (hk:J9 d=true)
  (hm:((d.mJ=1∨d.mJ=2∨d.mJ=3∨d.mJ=4)∧d.wK=0)∨(d.mJ=8∧Aq (Be d.field.kind)=0∧0≤d.wK∧d.wK≤D2 d)):Ce (B3 ⟨d,o⟩ b a).d=true:=by
 have hcs:=h.sX ha
 have hbt:=Jn h.lv
 have hbb:=Vh (b:=b) hb.1 hb.2
 unfold B3
 simp only
 split
 ·exact hcs.fail (by decide) ha.1
 ·split
  ·rename_i hc
   have hsn:=Akf hb.1 hc
   unfold Wy
   simp only
   split
   ·exact(hcs.sK _).fail (by decide) h.aJ.1
   ·rename_i hx
    simp only[not_or,not_and] at hx
    have hcc:=hcs.sK (Aj d.sK b).1
    refine J2 hcc.lv (show 1≤d.mJ∧d.mJ≤9 by omega) hcc.aJ hcc.st hcc.ut hcc.wi hcc.fl ?_ ?_ ?_ hk ?_
    ·show (if d.mJ=9 then _ else _)=true
     rw[if_neg (by omega)];exact decide_eq_true h.en
    ·show (if d.mJ=1 then decide (d.sJ=[]) else if d.mJ=9 then true else decide (1≤D2 d))=true
     split
     ·rename_i hm1;exact decide_eq_true (h1 hm1)
     ·rename_i hm1
      rw[if_neg (by omega)];exact decide_eq_true (by have:=hx.1 hm1;omega)
    ·show (if d.mJ=6∨d.mJ=7∨d.mJ=8 then Ak d.wK 1 (D2 d) else decide (d.wK=0))=true
     split
     ·have:=hx.2 (by omega)
      simp only[Ak,Bool.and_eq_true,decide_eq_true_eq];omega
     ·exact decide_eq_true (by omega)
    ·have hw:Bw (G1 (G5 d a) (Aj d.sK b).1)=0:=by
      show (if d.mJ=5 then Aq d.wJ else if d.mJ=8 then Aq (Be d.field.kind) else 0)=0
      rw[if_neg (by omega)]
      split<;>omega
     unfold Ku
     rw[hw,if_neg (by decide)]
     show (if d.mJ=6∨d.mJ=7∨d.mJ=9 then decide ((Aj d.sK b).1=scn0) else D4 (Aj d.sK b).1)=true
     rw[if_neg (by omega)]
     exact hsn
  ·split
   ·rename_i hm1
    exact An1 (hcs.sK _) (show d.wK=0 by omega) hbb.1
   ·split
    ·rename_i hm1
     exact Asj (hcs.sK _) (show d.wK=0 by omega)
    ·split
     ·rename_i hm1
      refine Aqz (hcs.sK _) (show d.wK=0 by omega) hbb.1 ?_
      unfold J9 at hk
      rw[if_neg (by omega),if_neg (by omega),if_neg (by omega),if_pos hm1] at hk
      simp only[Bool.and_eq_true,decide_eq_true_eq,Apz,Bool.or_eq_true] at hk
      rw[hk.1] at hk
      exact hk.2
     ·rename_i hc1 hc2 hc3 hc4 hc5
      have hcc:=hcs.sK scn0
      refine G8 ⟨⟨Cn hcc.lv rfl rfl,hcc.aJ,hcc.st,hcc.ut,hcc.wi,hcc.fl,hcc.en⟩,rfl,hn hc3,?_⟩
      rcases hm with hm|hm
      ·exact .inl ⟨by show (if d.mJ=8 then (8:Int) else 2)=2;rw[if_neg (by omega)],hm.2⟩
      ·refine .inr (.inr (.inr ⟨by show (if d.mJ=8 then (8:Int) else 2)=8;rw[if_pos hm.1],?_,hm.2.2.1,hm.2.2.2,?_⟩))
       ·unfold J9 at hk
        rw[if_neg (by omega),if_pos hm.1] at hk
        exact hk
       ·right;show Aq (Be d.field.kind)≤d.wK;omega
theorem An3 {s:Scn} {b w:Int} (h:0≤s.hJ∧s.hJ+1<w) (hw:w≤8) (hf:Int.fdiv s.bits (2 ^ min (Int.toNat (8*s.hJ)) 64)=0) (hb:0≤b∧b≤255):(B4 s b).hJ=s.hJ+1∧Int.fdiv (B4 s b).bits (2 ^ min (Int.toNat (8*(s.hJ+1))) 64)=0:=by
 obtain ⟨u,hv⟩:=s
 simp only at h hf
 unfold B4
 rw[if_pos ⟨by simp only[Ak,Bool.and_eq_true,decide_eq_true_eq];omega,by simp only[Ak,Bool.and_eq_true,decide_eq_true_eq];omega⟩]
 refine⟨rfl,?_⟩
 simp only
 obtain ⟨k,rfl⟩:=Int.eq_ofNat_of_zero_le h.1
 have hk:k<7:=by omega
 rw[show min (Int.toNat (8*(k:Int))) 64=8*k by omega] at hf ⊢
 rw[show min (Int.toNat (8*((k:Int)+1))) 64=8*(k+1) by omega]
 have hp0:(0:Int)<2 ^ (8*k):=Int.pow_pos (by decide)
 have hp:(0:Int)<2 ^ (8*(k+1)):=Int.pow_pos (by decide)
 have hp2:(2:Int) ^ (8*(k+1))=2 ^ (8*k)*256:=by rw[show 8*(k+1)=8*k+8 by omega,Int.pow_add];rfl
 have hp3:(2:Int) ^ (8*(k+1))≤2 ^ 56:=by
  rcases (show k=0∨k=1∨k=2∨k=3∨k=4∨k=5∨k=6 by omega) with rfl|rfl|rfl|rfl|rfl|rfl|rfl<;>decide
 have hp56:(2:Int) ^ 56=72057594037927936:=rfl
 rw[Int.fdiv_eq_ediv_of_nonneg _ (Int.le_of_lt hp0)] at hf
 have hd:=Int.mul_ediv_add_emod u (2 ^ (8*k))
 rw[hf,Int.mul_zero,Int.zero_add] at hd
 have hu0:=Int.emod_nonneg u (show (2:Int) ^ (8*k)≠0 by omega)
 have hu1:=Int.emod_lt_of_pos u hp0
 have hm:b*2 ^ (8*k)≤255*2 ^ (8*k):=Int.mul_le_mul_of_nonneg_right (by omega) (by omega)
 have hm0:0≤b*2 ^ (8*k):=Int.mul_nonneg (by omega) (by omega)
 rw[Int.fdiv_eq_ediv_of_nonneg _ (Int.le_of_lt hp),IntKind.wrap_u64,IntKind.wrap_u64]
 have e1:b*2 ^ (8*k) % 18446744073709551616=b*2 ^ (8*k):=Int.emod_eq_of_lt hm0 (by omega)
 rw[e1,Int.emod_eq_of_lt (by omega) (by omega)]
 exact Int.ediv_eq_zero_of_lt Q2 Q2
theorem Asm {d:Dcd} {o:List Ev} {b:Int} (h:Com d) (hn:0<d.sJ.length) (hk:J9 d=true) (hb:0≤b∧b≤255) (h0:0≤d.sK.hJ∧d.sK.hJ≤Bw d-1) (hf:Int.fdiv d.sK.bits (2 ^ min (Int.toNat (8*d.sK.hJ)) 64)=0) (hr:Bw d-d.sK.hJ-1≤Rq d)
  (hm:(d.mJ=5∧d.wK=0)∨(d.mJ=8∧0≤d.wK∧d.wK≤D2 d)):Ce (D8 ⟨d,o⟩ b).d=true:=by
 have hbt:=Jn h.lv
 have hwb:0≤Bw d∧Bw d≤8:=by
  have h1:=Dv d.wJ
  have h2:=Dv (Be d.field.kind)
  unfold Bw
  split
  ·omega
  ·split<;>omega
 have hro:Rq d=if d.mJ=8 then d.wK else D2 d:=rfl
 unfold D8
 simp only
 split
 ·rename_i hx
  have h1:d.sK.hJ+1<Bw d:=by
   unfold B4 at hx
   rw[if_pos ⟨by simp only[Ak,Bool.and_eq_true,decide_eq_true_eq];omega,by simp only[Ak,Bool.and_eq_true,decide_eq_true_eq];omega⟩] at hx
   exact hx
  have hfn:=An3 ⟨h0.1,h1⟩ hwb.2 hf hb
  have hcc:=h.sK (B4 d.sK b)
  refine J2 hcc.lv (show 1≤d.mJ∧d.mJ≤9 by omega) hcc.aJ hcc.st hcc.ut hcc.wi hcc.fl ?_ ?_ ?_ hk ?_
  ·show (if d.mJ=9 then _ else _)=true
   rw[if_neg (by omega)];exact decide_eq_true h.en
  ·show (if d.mJ=1 then decide (d.sJ=[]) else if d.mJ=9 then true else decide (1≤D2 d))=true
   rw[if_neg (by omega),if_neg (by omega)]
   refine decide_eq_true ?_
   split at hro<;>omega
  ·show (if d.mJ=6∨d.mJ=7∨d.mJ=8 then Ak d.wK 1 (D2 d) else decide (d.wK=0))=true
   split
   ·rw[if_pos (by omega)] at hro
    simp only[Ak,Bool.and_eq_true,decide_eq_true_eq];omega
   ·exact decide_eq_true (by omega)
  ·have hw:Bw (G1 d (B4 d.sK b))=Bw d:=rfl
   have hrr:Rq (G1 d (B4 d.sK b))=Rq d:=rfl
   have hss:(G1 d (B4 d.sK b)).sK=B4 d.sK b:=rfl
   unfold Ku
   rw[hw,if_pos (by omega),hrr,hss,hfn.1]
   simp only[Ak,Bool.and_eq_true,decide_eq_true_eq]
   exact⟨⟨⟨by omega,by omega⟩,hfn.2⟩,by omega⟩
 ·have hcc:=h.sK scn0
  have hcv:Com (Bv ⟨G1 d scn0,o⟩ (B4 d.sK b).bits).d:=⟨Cn hcc.lv rfl rfl,hcc.aJ,hcc.st,hcc.ut,hcc.wi,hcc.fl,hcc.en⟩
  split
  ·exact hcv.fail (by decide) h.aJ.1
  ·rename_i hx
   refine G8 ⟨hcv,rfl,hn,?_⟩
   rcases hm with hm|hm
   ·exact .inl ⟨by show (if d.mJ=8 then (8:Int) else 2)=2;rw[if_neg (by omega)],hm.2⟩
   ·have hw:Bw d=Aq (Be d.field.kind):=by unfold Bw;rw[if_neg (by omega),if_pos hm.1]
    refine .inr (.inr (.inr ⟨by show (if d.mJ=8 then (8:Int) else 2)=8;rw[if_pos hm.1],?_,hm.2.1,hm.2.2,?_⟩))
    ·unfold J9 at hk
     rw[if_neg (by omega),if_pos hm.1] at hk
     exact hk
    ·show d.wK=0∨Aq (Be d.field.kind)≤d.wK
     omega
theorem Aq0 {d:Dcd} {o:List Ev} {b:Int} (h:Com d) (h1:1≤d.aJ) (hm:d.mJ=6) (hk:Ff d.field.kind=true) (hw:0≤d.wK∧d.wK≤D2 d) (hn:0<d.sJ.length) (hs:d.sK=scn0):Ce (Es ⟨d,o⟩ b).d=true:=by
 unfold Es
 simp only
 split
 ·split
  ·exact h.fail (by decide) (by omega)
  ·rename_i u hu
   exact G8 ⟨⟨Cn h.lv rfl rfl,h.aJ,h.st,Aak hu,h.wi,h.fl,h.en⟩,hs,hn,.inr (.inl ⟨hm,hk,hw.1,hw.2⟩)⟩
 ·exact G8 ⟨h,hs,hn,.inr (.inl ⟨hm,hk,hw.1,hw.2⟩)⟩
theorem Ap3 {u:Int} {k:Nat} (hk:k≤64) (h:Int.fdiv u (2 ^ k)=0):0≤u∧u≤18446744073709551615:=by
 have hp0:(0:Int)<2 ^ k:=Int.pow_pos (by decide)
 rw[Int.fdiv_eq_ediv_of_nonneg _ (Int.le_of_lt hp0)] at h
 have hd:=Int.mul_ediv_add_emod u (2 ^ k)
 rw[h,Int.mul_zero,Int.zero_add] at hd
 have hu0:=Int.emod_nonneg u (show (2:Int) ^ k≠0 by omega)
 have hu1:=Int.emod_lt_of_pos u hp0
 have hp:(2:Nat) ^ k≤2 ^ 64:=Nat.pow_le_pow_right (by decide) hk
 have hc:((2 ^ k:Nat):Int)=(2:Int) ^ k:=by simp
 have h64:(2:Nat) ^ 64=18446744073709551616:=rfl
 omega
theorem Vk {d:Dcd} (h:Ce d=true):0≤d.sK.bits∧d.sK.bits≤18446744073709551615:=by
 have hs:=(Tn h).2.2.2.2.2.2.2.2.2.2.2
 unfold Ku at hs
 split at hs
 ·simp only[Bool.and_eq_true,decide_eq_true_eq] at hs
  exact Ap3 (Nat.min_le_right _ _) hs.1.2
 ·split at hs
  ·have e:d.sK=scn0:=of_decide_eq_true hs
   rw[e];decide
  ·simp only[D4,Bool.and_eq_true,decide_eq_true_eq] at hs
   exact Ap3 (Nat.min_le_right _ _) hs.2
theorem Akg {d:Dcd} (h:d.sJ.length≠0):D2 (Dz d)=D2 d-1:=by
 show (List.getD (Dz d).sJ ((Dz d).sJ.length-1) Atp).left=_
 rw[Lo]
 unfold Dz
 simp only
 rw[if_neg h,List.getD_eq_getElem?_getD,List.getElem?_set_self (by omega)]
 rfl
theorem Aq1 {d:Dcd} {o:List Ev} {b:Int} (hok:Ce d=true) (h9:d.mJ≠9) (hat:d.aJ<1000000000) (hb:0≤b∧b≤255):Ce (Dw ⟨d,o⟩ b).d=true:=by
 obtain ⟨lv,hm,hat0,hst,hut,hwi,hfl,hen,hsk,hwd,hkd,hsc⟩:=Tn hok
 have hbits:=Vk hok
 have hs:=Abv hok h9
 have hms:=(Abu hok hbits).step hs.1 hs.2.1 hs.2.2.1
 have hw:=Aet hwd
 have hc:Com (Dz d):=⟨hms.lv,(show 0≤d.aJ+1∧d.aJ+1≤1000000000 by omega),(show 0≤d.sX∧d.sX≤d.aJ+1 by omega),hut,hwi,hfl,hs.2.2.2.2⟩
 have hk:J9 (Dz d)=true:=hkd
 have htp:d.mJ≠1→1≤D2 d:=fun h1=>by unfold Ln at hsk;rw[if_neg h1,if_neg h9] at hsk;exact of_decide_eq_true hsk
 have hn:d.mJ≠1→0<d.sJ.length:=fun h1=>by
  have:=htp h1
  by_cases h0:d.sJ.length=0
  ·rw[Abt (List.eq_nil_of_length_eq_zero h0)] at this;omega
  ·omega
 have hns:d.mJ≠1→0<(Dz d).sJ.length:=fun h1=>by rw[Lo];exact hn h1
 have ht:d.mJ≠1→D2 (Dz d)=D2 d-1:=fun h1=>Akg (by have:=hn h1;omega)
 have hwa:(Dz d).wK=if d.mJ=6∨d.mJ=7∨d.mJ=8 then d.wK-1 else d.wK:=rfl
 have hwb:=Dv (Be d.field.kind)
 unfold Dw
 simp only
 split
 ·rename_i h6
  have hw1:=hw.1 (by omega)
  rw[if_pos (by omega)] at hwa
  have ht:=ht (by omega)
  refine Aq0 hc (show 1≤d.aJ+1 by omega) h6 ?_ Q2 (hns Q2) ?_
  ·unfold J9 at hkd;rw[if_pos h6] at hkd;exact hkd
  ·unfold Ku Bw at hsc
   rw[if_neg (show¬d.mJ=5 by omega),if_neg (show¬d.mJ=8 by omega),if_neg (by decide),if_pos (by omega)] at hsc
   exact of_decide_eq_true hsc
 ·split
  ·rename_i h6 h7
   have hw1:=hw.1 (by omega)
   rw[if_pos (by omega)] at hwa
   have ht:=ht (by omega)
   refine G8 ⟨hc,?_,hns Q2,.inr (.inr (.inl ⟨h7,by show 0≤(Dz d).wK;omega,by show (Dz d).wK≤D2 (Dz d);omega⟩))⟩
   unfold Ku Bw at hsc
   rw[if_neg (show¬d.mJ=5 by omega),if_neg (show¬d.mJ=8 by omega),if_neg (by decide),if_pos (by omega)] at hsc
   exact of_decide_eq_true hsc
  ·rename_i h6 h7
   split
   ·rename_i h0
    unfold Ku at hsc
    rw[if_pos h0] at hsc
    simp only[Bool.and_eq_true,decide_eq_true_eq] at hsc
    have hh:=Av hsc.1.1
    have hwe:Bw (Dz d)=Bw d:=rfl
    have hmm:d.mJ=5∨d.mJ=8:=by unfold Bw at h0;split at h0<;>(try split at h0)<;>omega
    have ht:=ht (by omega)
    have hr1:Rq d=if d.mJ=8 then d.wK else D2 d:=rfl
    have hr2:Rq (Dz d)=if d.mJ=8 then (Dz d).wK else D2 (Dz d):=rfl
    refine Asm hc (hns Q2) hk hb (by rw[hwe];exact hh) hsc.1.2 ?_ ?_
    ·rw[hwe]
     show Bw d-d.sK.hJ-1≤Rq (Dz d)
     rcases hmm with h5|h8
     ·rw[if_neg (by omega)] at hr1 hr2;omega
     ·rw[if_pos h8] at hr1 hr2;rw[if_pos (by omega)] at hwa;omega
    ·rcases hmm with h5|h8
     ·rw[if_neg (by omega)] at hwa
      exact .inl ⟨h5,by rw[hwa];exact hw.2 Q2⟩
     ·rw[if_pos (by omega)] at hwa
      have hw1:=hw.1 (by omega)
      exact .inr ⟨h8,by omega,by omega⟩
   ·rename_i h0
    have h5:d.mJ≠5:=fun h5=>by
     unfold J9 at hkd
     rw[if_neg (by omega),if_neg (by omega),if_neg (by omega),if_neg (by omega),if_pos h5] at hkd
     simp only[Bool.and_eq_true,decide_eq_true_eq] at hkd
     unfold Bw at h0
     rw[if_pos h5] at h0
     omega
    refine Ask hc hbits (show 0≤d.aJ∧d.aJ≤d.aJ+1 by omega) (fun h1=>?_) hns hk ?_
    ·unfold Ln at hsk
     rw[if_pos (show d.mJ=1 from h1)] at hsk
     have e:d.sJ=[]:=of_decide_eq_true hsk
     exact List.eq_nil_of_length_eq_zero (by rw[Lo,e];rfl)
    ·by_cases h8:d.mJ=8
     ·rw[if_pos (by omega)] at hwa
      have hw1:=hw.1 (by omega)
      have ht:=ht (by omega)
      refine .inr ⟨h8,?_,by omega,by omega⟩
      unfold Bw at h0
      rw[if_neg (by omega),if_pos h8] at h0
      show Aq (Be d.field.kind)=0
      omega
     ·rw[if_neg (by omega)] at hwa
      exact .inl ⟨(show d.mJ=1∨d.mJ=2∨d.mJ=3∨d.mJ=4 by omega),by rw[hwa];exact hw.2 Q2⟩
def Lt (o:List Ev) (m:Mac):Mac:=⟨m.d,o++m.oJ⟩
theorem Gf (o:List Ev) (m:Mac) (c a:Int):A3 (Lt o m) c a=Lt o (A3 m c a):=by simp[A3,Lt,List.append_assoc]
theorem Aas (o:List Ev) (m:Mac):A1 (Lt o m)=(A1 m).map (Lt o):=by
 have hd:(Lt o m).d=m.d:=rfl
 unfold A1
 rw[hd]
 split
 ·split<;>simp[A3,Lt,List.append_assoc]
 ·split
  ·simp[Lt]
  ·split
   ·split<;>simp[Lt,List.append_assoc]
   ·rfl
theorem Mt (o:List Ev): ∀(m:Mac),Ae (Lt o m)=Lt o (Ae m):=by
 suffices ∀(k:Nat) (m:Mac),wM m≤k→Ae (Lt o m)=Lt o (Ae m) from fun m=>this _ m (Nat.le_refl _)
 intro k
 induction k with
 |zero=>
  intro m hk
  have hp:=Aas o m
  cases h:A1 m with
  |none=>rw[Bz h];rw[h] at hp;exact Bz hp
  |some q=>have:=(Ck h).1;omega
 |succ k ih=>
  intro m hk
  have hp:=Aas o m
  cases h:A1 m with
  |none=>rw[Bz h];rw[h] at hp;exact Bz hp
  |some q=>
   rw[h] at hp
   rw[Cd h,Cd hp]
   exact ih q (by have:=(Ck h).1;omega)
theorem Fv {o:List Ev} {d:Dcd} {p r:List Ev} (h:r=o++p):Ae ⟨d,r⟩=Lt o (Ae ⟨d,p⟩):=by subst h;exact Mt o ⟨d,p⟩
theorem Ahk (o:List Ev) (m:Mac) (u:Int):C0 (Lt o m) u=Lt o (C0 m u):=by
 have hd:(Lt o m).d=m.d:=rfl
 unfold C0
 rw[hd]
 split
 ·exact Gf _ _ _ _
 ·exact Fv (List.append_assoc _ _ _)
theorem An4 (o:List Ev) (m:Mac) (u:Int):Ew (Lt o m) u=Lt o (Ew m u):=by
 have hd:(Lt o m).d=m.d:=rfl
 unfold Ew
 rw[hd]
 split
 ·exact Gf _ _ _ _
 ·split
  ·exact Gf _ _ _ _
  ·split
   ·exact Gf _ _ _ _
   ·split
    ·simp[A3,Lt,List.append_assoc]
    ·rfl
theorem Akh (o:List Ev) (m:Mac) (u:Int):Cu (Lt o m) u=Lt o (Cu m u):=by
 have hd:(Lt o m).d=m.d:=rfl
 unfold Cu
 rw[hd]
 split
 ·exact Gf _ _ _ _
 ·split
  ·exact Fv rfl
  ·split
   ·split
    ·exact Gf _ _ _ _
    ·exact Fv (List.append_assoc _ _ _)
   ·split
    ·exact Fv (List.append_assoc _ _ _)
    ·split
     ·exact Gf _ _ _ _
     ·exact Fv rfl
theorem Vm (o:List Ev) (m:Mac) (u:Int):Bv (Lt o m) u=Lt o (Bv m u):=by
 unfold Bv Lt
 simp only
 by_cases h:m.d.field=fld0<;>simp[h,List.append_assoc]
theorem An5 (o:List Ev) (m:Mac) (b a:Int):B3 (Lt o m) b a=Lt o (B3 m b a):=by
 have hd:(Lt o m).d=m.d:=rfl
 have hq: ∀d:Dcd,(⟨d,(Lt o m).oJ⟩:Mac)=Lt o ⟨d,m.oJ⟩:=fun _=>rfl
 unfold B3
 simp only[hd,hq]
 split
 ·exact Gf _ _ _ _
 ·split
  ·unfold Wy
   rw[hd]
   split
   ·exact Gf _ _ _ _
   ·rfl
  ·split
   ·exact Ahk _ _ _
   ·split
    ·exact An4 _ _ _
    ·split
     ·exact Akh _ _ _
     ·rw[Vm,Mt]
theorem An6 (o:List Ev) (m:Mac) (b:Int):D8 (Lt o m) b=Lt o (D8 m b):=by
 have hd:(Lt o m).d=m.d:=rfl
 have hq: ∀d:Dcd,(⟨d,(Lt o m).oJ⟩:Mac)=Lt o ⟨d,m.oJ⟩:=fun _=>rfl
 unfold D8
 simp only[hd,hq]
 split
 ·rfl
 ·split
  ·rw[Vm,Gf]
  ·rw[Vm,Mt]
theorem Aki (o:List Ev) (m:Mac) (b:Int):Es (Lt o m) b=Lt o (Es m b):=by
 have hd:(Lt o m).d=m.d:=rfl
 unfold Es
 rw[hd]
 split
 ·split
  ·exact Gf _ _ _ _
  ·exact Fv (List.append_assoc _ _ _)
 ·exact Fv (List.append_assoc _ _ _)
theorem Akj (o:List Ev) (m:Mac) (b:Int):Dw (Lt o m) b=Lt o (Dw m b):=by
 have hd:(Lt o m).d=m.d:=rfl
 have hq: ∀d:Dcd,(⟨d,(Lt o m).oJ⟩:Mac)=Lt o ⟨d,m.oJ⟩:=fun _=>rfl
 unfold Dw
 simp only[hd,hq]
 split
 ·exact Aki _ _ _
 ·split
  ·exact Mt _ _
  ·split
   ·exact An6 _ _ _
   ·exact An5 _ _ _ _
def Qw (m:Mac) (b:Int):Mac:=⟨(Cs m.d b).d,m.oJ++(Cs m.d b).oJ⟩
def Cb (m:Mac) (s:List UInt8):Mac:=s.foldl (fun m b=>Qw m (b.toNat:Int)) m
theorem Ut (m:Mac):Cb m []=m:=rfl
theorem Fh (m:Mac) (b:UInt8) (r:List UInt8):Cb m (b::r)=Cb (Qw m (b.toNat:Int)) r:=List.foldl_cons ..
theorem Ahm {d:Dcd} {b:Int} (hok:Ce d=true) (ht:Fc d=true) (hb:0≤b∧b≤255):Cs d b=Dw ⟨d,[]⟩ b:=by
 unfold Cs
 rw[if_pos ⟨hok,ht,by simp only[Ak,Bool.and_eq_true,decide_eq_true_eq];exact hb⟩]
theorem Aat {m:Mac} {b:Int} (hok:Ce m.d=true) (ht:Fc m.d=true) (hb:0≤b∧b≤255):Qw m b=Dw m b:=by
 have h:=Akj m.oJ ⟨m.d,[]⟩ b
 have e:Lt m.oJ ⟨m.d,[]⟩=m:=by cases m;simp[Lt]
 rw[e] at h
 unfold Qw
 rw[Ahm hok ht hb,h];rfl
theorem Agc {d:Dcd} {b:Int} (h:Ce d=false∨Fc d=false):Cs d b=⟨d,[]⟩:=by
 unfold Cs
 rw[if_neg]
 rintro ⟨h1,h2,-⟩
 rcases h with h|h
 ·rw[h] at h1;cases h1
 ·rw[h] at h2;cases h2
theorem Agd {m:Mac} {b:Int} (h:Ce m.d=false∨Fc m.d=false):Qw m b=m:=by
 unfold Qw
 rw[Agc h]
 cases m;simp
theorem Age {d:Dcd} (h:Fc d=true):d.mJ≠9∧d.aJ<1000000000:=by
 simpa only[Fc,Bool.and_eq_true,Bool.not_eq_true',decide_eq_false_iff_not,decide_eq_true_eq] using h
theorem Xk {d:Dcd} {b:Int} (hok:Ce d=true):Ce (Cs d b).d=true:=by
 unfold Cs
 split
 ·rename_i h
  have ht:=Age h.2.1
  exact Aq1 hok ht.1 ht.2 (Av h.2.2)
 ·exact hok
theorem Adi {m:Mac} (h:Ce m.d=false): ∀s:List UInt8,Cb m s=m
 |[]=>rfl
 |b::r=>by rw[Fh,Agd (.inl h)];exact Adi h r
theorem Uu {m:Mac} (h:Fc m.d=false): ∀s:List UInt8,Cb m s=m
 |[]=>rfl
 |b::r=>by rw[Fh,Agd (.inr h)];exact Uu h r
theorem Ahn {m:Mac} (h:Fc m.d=false) (s r:List UInt8):Cb m s=Cb m r:=by rw[Uu h,Uu h]
theorem Yt {d:Dcd} {b:Int} :(Cs d b).d.pJ=d.pJ∧((Cs d b).d.sJ.length:Int)≤max (d.sJ.length:Int) 8∧(Cs d b).oJ.length≤14∧((0≤d.sK.bits∧d.sK.bits≤18446744073709551615)→0≤(Cs d b).d.sK.bits∧(Cs d b).d.sK.bits≤18446744073709551615):=by
 cases hok:Ce d with
 |false=>rw[Agc (.inl hok)];exact⟨rfl,by simp only;omega,by simp,fun h=>h⟩
 |true=>
  have h1:=Xk (b:=b) hok
  have h2:=Cm (Tn hok).1
  have h3:=Cm (Tn h1).1
  exact⟨Aha.1,by omega,by have:=Ajz (d:=d) (b:=b);omega,fun _=>Vk h1⟩
theorem Atq (b:UInt8):(0:Int)≤(b.toNat:Int)∧(b.toNat:Int)≤255:=by have:=b.toNat_lt;omega
theorem Yu: ∀(s:List UInt8) (m:Mac),(Cb m s).d.pJ=m.d.pJ∧((Cb m s).d.sJ.length:Int)≤max (m.d.sJ.length:Int) 8∧(Cb m s).oJ.length≤m.oJ.length+14*s.length∧((0≤m.d.sK.bits∧m.d.sK.bits≤18446744073709551615)→0≤(Cb m s).d.sK.bits∧(Cb m s).d.sK.bits≤18446744073709551615)
 |[],m=>⟨rfl,by show (m.d.sJ.length:Int)≤_;omega,Nat.le_refl _,fun h=>h⟩
 |b::r,m=>by
  have h1:=Yt (d:=m.d) (b:=(b.toNat:Int))
  have h2:=Yu r (Qw m (b.toNat:Int))
  rw[Fh]
  have e1:(Qw m (b.toNat:Int)).d=(Cs m.d (b.toNat:Int)).d:=rfl
  have e2:(Qw m (b.toNat:Int)).oJ.length=m.oJ.length+(Cs m.d (b.toNat:Int)).oJ.length:=by simp[Qw]
  rw[e1,e2] at h2
  refine⟨h2.1.trans h1.1,by omega,by simp only[List.length_cons];omega,fun h=>h2.2.2.2 (h1.2.2.2 h)⟩
theorem Aau  :Fun Tryz.prog 100 [] [] (.tup []) []:=by
 have hN:Bh=274877906944:=rfl
 refine Ar Tryz.func100 Q4 Q4 (w:=(.lJ () [],Lf (.tup []) (.tup []) [] [])) Q4 ?_
 exact⟨rfl,rfl⟩
structure Nn where
 m:Mac
 v:Nat
def No (m:Mac) (s:List UInt8):Fam:=⟨Nn,fun q1=>[(0,.v (vP 0)),(1,.v (vT s)),(2,.v (.c (.fn 100 []))),(8,.v (vI ((List.length s:Nat):Int))),(9,.v (vI ((q1.v:Nat):Int)))],fun q1=>[.cells (Ac 4 5 6 q1.m),.dK,.dK,.dK,.tree q1.m.d.pJ.sQ,.lst .lev q1.m.d.sJ,.lst .ev q1.m.oJ],fun q1=>q1.v≤List.length s∧Cb q1.m (List.drop q1.v s)=Cb m s∧Ce (q1.m).d=true∧List.length (q1.m).oJ≤List.length m.oJ+14*q1.v,fun q1=>List.length s-q1.v⟩
theorem Aq2 (m:Mac) (s:List UInt8) (hp1:Ce (m).d=true) (hp2:List.length (m).oJ≤1000000) (hp3:s.length≤1048576):Fun Tryz.prog 99 [vP 0,vT s,.c (.fn 100 [])] [.cells (Ac 1 2 3 m),.tree m.d.pJ.sQ,.lst .lev m.d.sJ,.lst .ev m.oJ] (.tup []) [.cells (Ac 4 5 6 (Cb m s)),.dK,.dK,.dK,.tree (Cb m s).d.pJ.sQ,.lst .lev (Cb m s).d.sJ,.lst .ev (Cb m s).oJ]:=by
 have hN:Bh=274877906944:=rfl
 refine Ar Tryz.func99 Q4 Q4 (w:=let z7:=((s.length:Nat):Int);let z8:=No m s;(.sZ [.at 0,.cut 0 0,.cut 0 5,.cut 0 27,.keep [0,1,2,8,9],.sel [0,1,2,3,4,5,6]] (.loop z8 fun q1=>let z4:S:= .v (vI (((q1.v:Nat):Int)+1));.br (.sZ [.call [] (.v (vB (Fc q1.m.d))) []] (.br (.intro (Sx (s[q1.v]?)) fun x1=>let z1:=Dw q1.m ((UInt8.toNat x1:Nat):Int);.sZ [.ch x1,.as 21 (.v (vI ((UInt8.toNat x1:Nat):Int))),.call [0,4,5,6] (.tup []) [.cells (Ac 4 5 6 z1),.dK,.dK,.dK,.tree z1.d.pJ.sQ,.lst .lev z1.d.sJ,.lst .ev z1.oJ],.call [] (.tup []) [],.as 25 z4,.at 0,.keep [0,1,2,8,9],.sel [0,1,2,3,7,8,9]] (.next)) (.sZ [.call [] (.tup []) [],.as 25 z4,.at 0,.keep [0,1,2,8,9],.sel [0,1,2,3,4,5,6]] (.next)))) (.lJ () [0,1,2,3,4,5,6])),z8.Has [(0,.v (vP 0)),(1,.v (vT s)),(2,.v (.c (.fn 100 []))),(8,.v (vI z7)),(9,.v (vI 0))] [.cells (Ac 4 5 6 m),.dK,.dK,.dK,.tree m.d.pJ.sQ,.lst .lev m.d.sJ,.lst .ev m.oJ]∧∀q1,z8.inv q1→(let z5:List Blk:=[.cells (Ac 4 5 6 q1.m),.dK,.dK,.dK,.tree q1.m.d.pJ.sQ,.lst .lev q1.m.d.sJ,.lst .ev q1.m.oJ];let z6:=((q1.v:Nat):Int);Bc (decide (z6<z7)) ((Fp 56 [.agg (B9 q1.m.d)] [] (.v (vB (Fc q1.m.d))) [])∧Bc (Fc q1.m.d) (El (s[q1.v]?) fun x1=>(let z3:=((UInt8.toNat x1:Nat):Int);let z2:=Dw q1.m z3;(s[q1.v]? =some x1)∧((0:Int)≤z6)∧(wI (z3))∧(Fp 58 [vP 0,vI z3] [.cells (Ac 1 2 3 q1.m),.tree q1.m.d.pJ.sQ,.lst .lev q1.m.d.sJ,.lst .ev q1.m.oJ] (.tup []) [.cells (Ac 4 5 6 z2),.dK,.dK,.dK,.tree z2.d.pJ.sQ,.lst .lev z2.d.sJ,.lst .ev z2.oJ])∧(Fp 100 [] [] (.tup []) [])∧(wI (z6+1))∧z8.Nxt q1 [(0,.v (vP 0)),(1,.v (vT s)),(2,.v (.c (.fn 100 []))),(8,.v (vI z7)),(9,.v (vI (z6+1)))] [.cells (Ac 4 5 6 z2),.dK,.dK,.dK,.tree z2.d.pJ.sQ,.lst .lev z2.d.sJ,.lst .ev z2.oJ])) ((Fp 100 [] [] (.tup []) [])∧(wI (z6+1))∧z8.Nxt q1 [(0,.v (vP 0)),(1,.v (vT s)),(2,.v (.c (.fn 100 []))),(8,.v (vI z7)),(9,.v (vI (z6+1)))] z5)) (Lf (.tup []) (.tup []) z5 [.cells (Ac 4 5 6 (Cb m s)),.dK,.dK,.dK,.tree (Cb m s).d.pJ.sQ,.lst .lev (Cb m s).d.sJ,.lst .ev (Cb m s).oJ])))) Q4 ?_
 refine⟨Bp (j:=(⟨m,0⟩:Nn)) Q8 rfl (by dsimp only[No];exact⟨by omega,rfl,hp1,by omega⟩),fun (q1:Nn) hq_q1=>?_⟩
 have hi_q1:q1.v≤s.length∧Cb q1.m (List.drop q1.v s)=Cb m s∧Ce (q1.m).d=true∧List.length (q1.m).oJ≤m.oJ.length+14*q1.v:=hq_q1
 obtain ⟨v1,v2,v3,v4⟩:=hi_q1
 have hbt:=Vk v3
 have hmw:=Abu v3 hbt
 have hlv:=Cm hmw.lv
 have hpt:=By hlv.1
 refine dsp (fun h1 p1=>?_) fun h1 p1=>?_
 refine⟨(Aqx q1.m.d),fun h2=>?_,fun h2=>?_⟩
 have hta:Fc q1.m.d=true:=h2
 have htk:=Age hta
 have hst:=Abv v3 htk.1
 refine⟨(Bo (l:=s) (i:=q1.v) Q2),fun x1 hx1=>?_⟩
 have hb_x1:=UInt8.toNat_lt x1
 rw[C3 hx1,Fh] at v2
 have hub:=Atq x1
 have hsm:=Aat (m:=q1.m) v3 hta hub
 exact⟨hx1,Q2,(Ad Q2 Q2),(Asi q1.m _ (hmw) Q2 Q2 Q2 Q2 (hst.2.2.1)),(Aau),(Ad Q2 Q2),A6 (j:=(⟨(Dw q1.m ((UInt8.toNat x1:Nat):Int)),q1.v+1⟩:Nn)) Q8 rfl Q53 (by dsimp only[No];omega)⟩
 have hnt:Fc q1.m.d=false:=h2
 exact⟨(Aau),(Ad Q2 Q2),A6 (j:=(⟨q1.m,q1.v+1⟩:Nn)) Q8 rfl Q53 (by dsimp only[No];omega)⟩
 rw[List.drop_eq_nil_of_le (by omega),Ut] at v2
 exact zE (Cb m s) q1.m (fun hm1=>⟨rfl,Q5⟩) W48
theorem Akk (d:Dcd) (s:List UInt8) (hp1:List.length (d).pJ.sQ≤1048576) (hp2: ∀e∈(d).pJ.sQ,e.fJ.length≤1048576) (hp3:List.length (d).sJ≤1048576) (hp4:(0:Int)≤(d).sK.bits∧(d).sK.bits≤18446744073709551615) (hp5:s.length≤1048576):Fun Tryz.prog 48 [.agg (B9 d),vT s] [] (.tup [.agg (Af 0 1 (Cb ⟨d,[]⟩ s).d),vO 2]) [.tree (Cb ⟨d,[]⟩ s).d.pJ.sQ,.lst .lev (Cb ⟨d,[]⟩ s).d.sJ,.lst .ev (Cb ⟨d,[]⟩ s).oJ]:=by
 have hN:Bh=274877906944:=rfl
 refine Ar Tryz.func48 Q4 Q4 (w:=let zi:Int→C:= .int .i64;let z1:=Cb (⟨d,([]:List Ev)⟩:Mac) s;let z2:List Blk:=[.cells (Ac 4 5 6 z1),.dK,.dK,.dK,.tree z1.d.pJ.sQ,.lst .lev z1.d.sJ,.lst .ev z1.oJ];let z3:=Cb ⟨d,[]⟩ s;let z4:S:= .tup [.agg (Af 0 1 z3.d),vO 2];(.sZ [.call [] (.v (.agg (Af 0 1 d))) (L2 d),.call [] (.v (vB (Ce d))) []] (.br (.sZ [.at 4,.mk 4 27 .ev,.call [4,2,3,5] (.tup []) z2,.ord (os 10 [8]) [1]] (.lJ () [6,7,8])) (.sZ [.ord (os 10 [8]) [1],.at 0,.mkS 5 .ev] (.lJ () [2,3,5]))),(Fp 50 [.agg (B9 d)] [] (.v (.agg (Af 0 1 d))) (L2 d))∧(Fp 51 [.agg (B9 d)] [] (.v (vB (Ce d))) [])∧Bc (Ce d) ((Fp 99 [vP 0,vT s,.c (.fn 100 [])] [.cells [.own 1,zi d.pJ.rJ,zi d.pJ.dJ,zi d.pJ.most,zi d.mJ,.own 2,.int .u64 d.sK.bits,zi d.sK.hJ,zi d.sX,zi d.aJ,zi d.field.nJ,zi d.field.kind,.bool d.field.rep,.bool d.field.packed,zi d.field.mK,zi d.wJ,zi d.wK,zi d.uJ.wK,zi d.uJ.low,zi d.uJ.high,zi d.eJ.kind,zi d.eJ.field,.int .u64 d.eJ.bits,zi d.eJ.len,.str d.eJ.text,zi d.eJ.code,zi d.eJ.aJ,.own 3],.tree d.pJ.sQ,.lst .lev d.sJ,.lst .ev ([]:List Ev)] (.tup []) z2)∧Lf (.tup [.agg (Af 0 1 z1.d),vO 2]) z4 (Ls z1.d z1.oJ) (Ls z3.d z3.oJ)) (Lf (.tup [.agg (Af 0 1 d),vO 2]) z4 (Ls d ([]:List Ev)) (Ls z3.d z3.oJ)))) Q4 ?_
 refine⟨(Yr d Q2 (hp2) Q2),(Aeu d Q2 Q2),fun h1=>?_,fun h1=>?_⟩
 exact zM Mac.d Mac.oJ (Cb ⟨d,[]⟩ s) (Cb (⟨d,([]:List Ev)⟩:Mac) s) (fun hm1 hm2=>⟨(Aq2 (⟨d,([]:List Ev)⟩:Mac) _ Q7 Q16 Q2),Q5,Q9⟩) W49 W49
 have hbad:Cb ⟨d,[]⟩ s=⟨d,[]⟩:=Adi (m:=⟨d,[]⟩) (by simpa using h1) s
 exact zD ((Cb ⟨d,[]⟩ s).d) d ((Cb ⟨d,[]⟩ s).oJ) ([]:List Ev) (fun hm1 hm2=>⟨Q5,Q9⟩) W49 W49
theorem Aex (a:List Ev): ∀(k:Nat) (d:Dcd) (o:List Ev),wM ⟨d,o⟩≤k→Ae ⟨d,a++o⟩=⟨(Ae ⟨d,o⟩).d,a++(Ae ⟨d,o⟩).oJ⟩:=by
 have hc: ∀(d:Dcd) (o:List Ev),A1 ⟨d,a++o⟩=(A1 ⟨d,o⟩).map fun q=>⟨q.d,a++q.oJ⟩:=by
  intro d o
  unfold A1 A3
  simp only
  split
  ·split<;>simp
  ·split
   ·rfl
   ·split
    ·split<;>simp
    ·rfl
 intro k
 induction k with
 |zero=>
  intro d o hk
  cases h:A1 ⟨d,o⟩ with
  |none=>rw[Bz h,Bz (by rw[hc,h];rfl)]
  |some q=>have:=(Ck h).1;omega
 |succ k ih=>
  intro d o hk
  cases h:A1 ⟨d,o⟩ with
  |none=>rw[Bz h,Bz (by rw[hc,h];rfl)]
  |some q=>
   have h2:A1 ⟨d,a++o⟩=some ⟨q.d,a++q.oJ⟩:=by rw[hc,h];rfl
   rw[Cd h,Cd h2]
   have h3:=(Ck h).1
   exact ih q.d q.oJ (by have:wM (⟨q.d,q.oJ⟩:Mac)=wM q:=rfl;omega)
theorem Cw (d:Dcd) (e:Ev):Ae ⟨d,[e]⟩=⟨(Ae ⟨d,[]⟩).d,e::(Ae ⟨d,[]⟩).oJ⟩:=Aex [e] _ d [] (Nat.le_refl _)
structure K0 where
 i:Nat
def K2 (d:Dcd):Fam:=⟨K0,fun q1=>[(1,.v (vP 0)),(3,.v (vI ((q1.i:Nat):Int)))],fun _=>[.cells (B9 d)],fun q1=>q1.i≤List.length d.sJ∧Z0 (List.length d.pJ.sQ:Int) (List.drop q1.i d.sJ)+q1.i=Z0 (List.length d.pJ.sQ:Int) d.sJ,fun q1=>List.length d.sJ-q1.i⟩
theorem Vn (d:Dcd) (hp1:List.length (d).sJ≤Bh) (hp2:List.length (d).pJ.sQ≤Bh):Fun Tryz.prog 190 [.agg (B9 d)] [] (.v (vB (Bn d))) []:=by
 have hN:Bh=274877906944:=rfl
 refine Ar Tryz.func190 Q4 Q4 (w:=let z7:=((d.pJ.sQ.length:Nat):Int)-1;let z9:=K2 d;let z10:S:= .v (vB (Bn d));let z8:=Lf (.v (vB false)) z10 [] [];let z11:=((d.sJ.length:Nat):Int);(.sZ [.call [] (.v (vB (B2 d.pJ))) []] (.br (.lJ () []) (.br (.lJ () []) (.sZ [.at 0,.keep [1,3],.sel [0]] (.loop z9 fun q1=> .br (.intro (Sx (d.sJ[q1.i]?)) fun x1=>let z1:=Ak x1.mK 0 z7;.case (!z1) (.sZ [.ord (os 24 [12,21]) [],.el .lev x1,.as 35 (.v (vI z7)),.call [] (.v (vB z1)) [],.br true] (.lJ () [])) (.sZ [.ord (os 24 [12,21]) [],.el .lev x1,.as 35 (.v (vI z7)),.call [] (.v (vB z1)) [],.br false,.el .lev x1,.call [] (.v (vB (Ak x1.left 0 2000))) []] (.br (.lJ () []) (.sZ [.as 23 (.v (vI (((q1.i:Nat):Int)+1))),.at 0,.keep [1,3],.sel [0]] (.next))))) (.lJ () []))))),(Fp 13 [.agg (G0 d.pJ)] [] (.v (vB (B2 d.pJ))) [])∧Bc (!(B2 d.pJ)) z8 (Bc (decide (d.pJ.dJ<z11)) z8 (z9.Has [(1,.v (vP 0)),(3,.v (vI 0))] [.cells (B9 d)]∧∀q1,z9.inv q1→(let z6:=((q1.i:Nat):Int);let z5:=(0:Int)≤z6;Bc (decide (z6<z11)) (El (d.sJ[q1.i]?) fun x1=>(let z2:=Ak x1.mK 0 z7;let z3:=d.sJ[q1.i]? =some x1;let z4:List V:=[vI x1.mK,vI 0,vI z7];Bc (!z2) (z3∧z5∧z3∧z5∧(wI z7)∧(wI z7)∧(Fp 44 z4 [] (.v (vB z2)) [])∧((!z2)=true)∧Lf (.v (vB false)) z10 [] []) (z3∧z5∧z3∧z5∧(wI z7)∧(wI z7)∧(Fp 44 z4 [] (.v (vB z2)) [])∧((!z2)=false)∧z3∧z5∧z3∧z5∧(Fp 44 [vI x1.left,vI 0,vI 2000] [] (.v (vB (Ak x1.left 0 2000))) [])∧Bc (!(Ak x1.left 0 2000)) z8 ((wI (z6+1))∧z9.Nxt q1 [(1,.v (vP 0)),(3,.v (vI (z6+1)))] [.cells (B9 d)])))) (Lf (.v (vB true)) z10 [] [])))))) Q4 ?_
 refine⟨(Mj d.pJ),fun h1=>have q1:=Ao h1;?_,fun h1=>have q1:=An h1;have p1:=By q1;?_⟩
 exact⟨(sB W50),rfl⟩
 refine dsp (fun h2 p2=>?_) fun h2 p2=>?_
 exact⟨(sB W50),rfl⟩
 refine⟨Bp (j:=(⟨0⟩:K0)) Q8 rfl (by dsimp only[K2];exact⟨by omega,rfl⟩),fun (q1:K0) hq_q1=>?_⟩
 have hi_q1:q1.i≤d.sJ.length∧Z0 (d.pJ.sQ.length:Int) (List.drop q1.i d.sJ)+q1.i=Z0 (d.pJ.sQ.length:Int) d.sJ:=hq_q1
 obtain ⟨v1,v2⟩:=hi_q1
 refine dsp (fun h3 p3=>?_) fun h3 p3=>?_
 refine⟨(Bo (l:=d.sJ) (i:=q1.i) Q2),fun x1 hx1=>?_⟩
 rw[C3 hx1,Uc] at v2
 have hll:=congrArg List.length (C3 hx1)
 rw[List.length_drop,List.length_cons,List.length_drop] at hll
 refine⟨fun h4=>have q4:=Ao h4;have p4:=A0 q4;?_,fun h4=>have q4:=An h4;have p4:=Av q4;?_⟩
 exact⟨hx1,Q2,hx1,Q2,(Ad Q2 Q2),(Ad Q2 Q2),(Bb _ _ _),h4,(sB W50),rfl⟩
 refine⟨hx1,Q2,hx1,Q2,(Ad Q2 Q2),(Ad Q2 Q2),(Bb _ _ _),h4,hx1,Q2,hx1,Q2,(Bb _ _ _),fun h5=>have q5:=Ao h5;have p5:=A0 q5;?_,fun h5=>have q5:=An h5;have p5:=Av q5;?_⟩
 exact⟨(sB W50),rfl⟩
 exact⟨(Ad Q2 Q2),A6 (j:=(⟨q1.i+1⟩:K0)) Q8 rfl (by dsimp only[K2];exact⟨by omega,by simp_all[F9];omega⟩) (by dsimp only[K2];omega)⟩
 have hal:List.all d.sJ (F9 (d.pJ.sQ.length:Int))=true:=by rw[Pm];rw[List.drop_eq_nil_of_le (by omega)] at v2;simp only[Z0] at v2;exact decide_eq_true (by omega)
 exact⟨(sB W50),rfl⟩
theorem De (d:Dcd) (c:Int) (a:Int):Fun Tryz.prog 64 [.agg (Af 0 1 d),vI c,vI a] [.tree d.pJ.sQ,.lst .lev d.sJ] (.tup [.agg (Af 2 3 (Ba d c a)),vO 4]) [.dK,.dK,.tree (Ba d c a).pJ.sQ,.lst .lev (Ba d c a).sJ,.lst .ev [As c a]]:=by
 have hN:Bh=274877906944:=rfl
 refine Ar Tryz.func64 Q4 Q4 (w:=let zi:Int→C:= .int .i64;let z2:=As c a;let z1:List C:=[.int .u64 0,zi 0,zi d.sX,zi d.aJ,zi d.field.nJ,zi d.field.kind,.bool d.field.rep,.bool d.field.packed,zi d.field.mK,zi d.wJ,zi 0,zi d.uJ.wK,zi d.uJ.low,zi d.uJ.high,zi z2.kind,zi z2.field,.int .u64 z2.bits,zi z2.len,.str z2.text,zi z2.code,zi z2.aJ];(.sZ [.call [] (.v (.agg (cEv z2))) [],.tree (fr (.two 3 (.one 4 (.first 5 (.done))) 4 (.one 3 (.first 5 (.done)))) 0 3) 6 [3],.ty .ev,.at 0,.keep [6,7],.sel [0,1,3,4],.ty .ev,.at 0,.keep [6,7],.sel [0,1,3,4],.at 0,.cut 2 0,.cut 2 5] (.lJ () [0,1,4,5,3]),(Fp 94 [vI c,vI a] [] (.v (.agg (cEv z2))) [])∧(([.tree d.pJ.sQ,.lst .lev d.sJ,.cells (.own 0::zi d.pJ.rJ::zi d.pJ.dJ::zi d.pJ.most::zi 9:: .own 1::z1),.lst .ev [z2]]:List Blk)=[.tree d.pJ.sQ,.lst .lev d.sJ,.cells (.own 0::zi d.pJ.rJ::zi d.pJ.dJ::zi d.pJ.most::zi 9:: .own 1::z1),.lst .ev [z2]])∧(([(6,.v (vP 2)),(7,.v (vO 3))]:List (Nat×S))=[(6,.v (vP 2)),(7,.v (vO 3))])∧Lf (.tup [.agg (.own 2::zi d.pJ.rJ::zi d.pJ.dJ::zi d.pJ.most::zi 9:: .own 3::z1),vO 4]) (.tup [.agg (Af 2 3 (Ba d c a)),vO 4]) (.dK:: .dK::Ls d [z2]) (.dK:: .dK::Ls (Ba d c a) [As c a]))) Q4 ?_
 exact zD (Ba d c a) (⟨d.pJ,9,d.sJ,(⟨0,0⟩:Scn),d.sX,d.aJ,d.field,d.wJ,0,d.uJ,(As c a)⟩:Dcd) [As c a] [(As c a)] (fun hm1 hm2=>⟨(Dn _ _),rfl,rfl,Q5,Q9⟩) W51 W51
structure D6 where
 d:Dcd
 oJ:List Ev
def E7 (d:Dcd):Fam:=⟨D6,fun q1=>[(1,.v (vP 2)),(2,.v (vP 5)),(4,.v (vO 6))],fun q1=>[.dK,.dK,.cells (Af 3 4 q1.d),.tree q1.d.pJ.sQ,.lst .lev q1.d.sJ,.cells [.nil,.int .i64 0,.int .i64 0,.int .i64 0,.int .i64 0,.nil,.int .u64 0,.int .i64 0,.int .i64 0,.int .i64 0,.int .i64 0,.int .i64 0,.bool false,.bool false,.int .i64 0,.int .i64 0,.int .i64 0,.int .i64 0,.int .i64 0,.int .i64 0,.int .i64 0,.int .i64 0,.int .u64 0,.int .i64 0,.str [],.int .i64 0,.int .i64 0],.lst .ev q1.oJ],fun q1=>Ae ⟨q1.d,q1.oJ⟩=Ae ⟨d,[]⟩∧List.length q1.oJ+wM ⟨q1.d,q1.oJ⟩≤wM ⟨d,[]⟩∧List.length (q1.d).sJ≤List.length d.sJ,fun q1=>wM ⟨q1.d,q1.oJ⟩⟩
theorem J3 (d:Dcd) (hp1:List.length (d).sJ≤1000):Fun Tryz.prog 62 [.agg (Af 0 1 d)] [.tree d.pJ.sQ,.lst .lev d.sJ] (.tup [.agg (Af 2 3 (Ae ⟨d,[]⟩).d),vO 4]) [.dK,.dK,.tree (Ae ⟨d,[]⟩).d.pJ.sQ,.lst .lev (Ae ⟨d,[]⟩).d.sJ,.lst .ev (Ae ⟨d,[]⟩).oJ]:=by
 have hN:Bh=274877906944:=rfl
 have hwd:=Aik ⟨d,[]⟩
 simp only at hwd
 refine Ar Tryz.func62 Q4 Q4 (w:=let zi:Int→C:= .int .i64;let z15:List C:=[.nil,zi 0,zi 0,zi 0,zi 0,.nil,.int .u64 0,zi 0,zi 0,zi 0,zi 0,zi 0,.bool false,.bool false,zi 0,zi 0,zi 0,zi 0,zi 0,zi 0,zi 0,zi 0,.int .u64 0,zi 0,.str [],zi 0,zi 0];let z16:List Blk:= .dK:: .dK::Ls (Ae ⟨d,[]⟩).d (Ae ⟨d,[]⟩).oJ;let z17:S:= .tup [.agg (Af 2 3 (Ae ⟨d,[]⟩).d),vO 4];let z18:=E7 d;(.sZ [.ty .ev,.at 0,.cut 2 0,.cut 2 5,.keep [1,2,4],.sel [0,1,2,5,6,3,4]] (.loop z18 fun q1=>let z1:=((q1.d.sJ.length:Nat):Int)-1;let z2:=Sx (q1.d.sJ[Int.toNat z1]?);let z3:=Ba q1.d 5 q1.d.aJ;.br (.br (.br (.sZ [.call [3,4] (.tup [.agg (Af 2 3 z3),vO 4]) (.dK:: .dK::Ls z3 [As 5 q1.d.aJ]),.tree (fr (.one 3 (.one 4 (.first 5 (.done)))) 0 3) 4 [6,9],.ty .ev] (.lJ () [0,1,7,8,11])) (.sZ [.ty .ev,.ty .ev,.at 0,.keep [1,2,4],.sel [0,1,2,3,4,5,8]] (.next))) (.sZ [.br false] (.br (.br (.br (.sZ [.as 86 (.v (vI z1))] (.intro z2 fun x1=> .sZ [.el .lev x1] (.br (.sZ [.ty .lev,.as 96 (.v (vI z1)),.ty .lev] (.br (.sZ [.ty .ev,.ty .ev,.at 0,.keep [1,2,4],.sel [0,1,2,3,8,5,10]] (.next)) (.sZ [.ty .ev,.ty .ev,.at 0,.keep [1,2,4],.sel [0,1,2,3,8,5,10]] (.next)))) (.lJ () [0,1,3,4,6])))) (.lJ () [0,1,3,4,6])) (.lJ () [0,1,3,4,6])) (.lJ () [0,1,3,4,6])))) (.br (.br (.sZ [.at 0,.keep [1,2,4],.sel [0,1,2,3,4,5,6]] (.next)) (.br (.br (.sZ [.at 0,.keep [1,2,4],.sel [0,1,2,3,4,5,6]] (.next)) (.br (.sZ [.br false] (.lJ () [0,1,3,4,6])) (.lJ () [0,1,3,4,6]))) (.br (.br (.br (.sZ [.as 86 (.v (vI z1))] (.intro z2 fun x1=> .sZ [.el .lev x1] (.br (.sZ [.ty .lev,.as 96 (.v (vI z1)),.ty .lev] (.br (.sZ [.ty .ev,.ty .ev,.at 0,.keep [1,2,4],.sel [0,1,2,3,8,5,10]] (.next)) (.sZ [.ty .ev,.ty .ev,.at 0,.keep [1,2,4],.sel [0,1,2,3,8,5,10]] (.next)))) (.lJ () [0,1,3,4,6])))) (.lJ () [0,1,3,4,6])) (.lJ () [0,1,3,4,6])) (.lJ () [0,1,3,4,6])))) (.br (.br (.br (.sZ [.as 86 (.v (vI z1))] (.intro z2 fun x1=> .sZ [.el .lev x1] (.br (.sZ [.ty .lev,.as 96 (.v (vI z1)),.ty .lev] (.br (.sZ [.ty .ev,.ty .ev,.at 0,.keep [1,2,4],.sel [0,1,2,3,8,5,10]] (.next)) (.sZ [.ty .ev,.ty .ev,.at 0,.keep [1,2,4],.sel [0,1,2,3,8,5,10]] (.next)))) (.lJ () [0,1,3,4,6])))) (.lJ () [0,1,3,4,6])) (.lJ () [0,1,3,4,6])) (.lJ () [0,1,3,4,6])))),z18.Has [(1,.v (vP 2)),(2,.v (vP 5)),(4,.v (vO 6))] [.dK,.dK,.cells (Af 3 4 d),.tree d.pJ.sQ,.lst .lev d.sJ,.cells z15,.lst .ev ([]:List Ev)]∧∀q1,z18.inv q1→(let z6:=z18.Nxt q1 [(1,.v (vP 2)),(2,.v (vP 5)),(4,.v (vO 6))] [.dK,.dK,.cells [.own 3,zi q1.d.pJ.rJ,zi q1.d.pJ.dJ,zi q1.d.pJ.most,zi 2,.own 4,.int .u64 q1.d.sK.bits,zi q1.d.sK.hJ,zi q1.d.sX,zi q1.d.aJ,zi q1.d.field.nJ,zi q1.d.field.kind,.bool q1.d.field.rep,.bool q1.d.field.packed,zi q1.d.field.mK,zi q1.d.wJ,zi 0,zi q1.d.uJ.wK,zi q1.d.uJ.low,zi q1.d.uJ.high,zi q1.d.eJ.kind,zi q1.d.eJ.field,.int .u64 q1.d.eJ.bits,zi q1.d.eJ.len,.str q1.d.eJ.text,zi q1.d.eJ.code,zi q1.d.eJ.aJ],.tree q1.d.pJ.sQ,.lst .lev q1.d.sJ,.cells z15,.lst .ev q1.oJ];let z7:=((q1.d.sJ.length:Nat):Int);let z8:=List.take ((Int.toNat (z7-1))-0) (List.drop 0 q1.d.sJ);let z9:=Ba q1.d 5 q1.d.aJ;let z10:List Blk:=(.dK:: .dK::Ls q1.d q1.oJ);let z11:=decide (q1.d.mJ=2);let z12:=decide (q1.d.sK.hJ=0);let z13:=decide (q1.d.wK<1);let z14:S:= .tup [.agg (Af 2 3 q1.d),vO 4];let z5:=Lf z14 z17 z10 z16;let z4:=Bc z12 (Bc (decide (0<z7)) ((wI (z7-1))∧El (q1.d.sJ[Int.toNat (z7-1)]?) fun x1=>((z7-1<z7)∧((0:Int)≤z7-1)∧(q1.d.sJ[Int.toNat (z7-1)]? =some x1)∧Bc (decide (x1.left=0)) ((wI (z7-1))∧(z7-1≤z7)∧((0:Int)≤z7-1)∧(List.length ([]:List Lev)+z8.length≤Bh)∧Bc (decide (z7=1)) ((q1.oJ.length+List.length [(⟨8,0,0,0,[],0,0⟩:Ev)]≤Bh)∧z18.Nxt q1 [(1,.v (vP 2)),(2,.v (vP 5)),(4,.v (vO 6))] [.dK,.dK,.cells [.own 3,zi q1.d.pJ.rJ,zi q1.d.pJ.dJ,zi q1.d.pJ.most,zi 1,.own 4,.int .u64 q1.d.sK.bits,zi q1.d.sK.hJ,zi q1.d.sX,zi q1.d.aJ,zi q1.d.field.nJ,zi q1.d.field.kind,.bool q1.d.field.rep,.bool q1.d.field.packed,zi q1.d.field.mK,zi q1.d.wJ,zi q1.d.wK,zi q1.d.uJ.wK,zi q1.d.uJ.low,zi q1.d.uJ.high,zi q1.d.eJ.kind,zi q1.d.eJ.field,.int .u64 q1.d.eJ.bits,zi q1.d.eJ.len,.str q1.d.eJ.text,zi q1.d.eJ.code,zi q1.d.eJ.aJ],.tree q1.d.pJ.sQ,.lst .lev (([]:List Lev)++z8),.cells z15,.lst .ev (q1.oJ++[(⟨8,0,0,0,[],0,0⟩:Ev)])]) ((q1.oJ.length+List.length [(⟨7,0,0,0,[],0,0⟩:Ev)]≤Bh)∧z18.Nxt q1 [(1,.v (vP 2)),(2,.v (vP 5)),(4,.v (vO 6))] [.dK,.dK,.cells (Af 3 4 q1.d),.tree q1.d.pJ.sQ,.lst .lev (([]:List Lev)++z8),.cells z15,.lst .ev (q1.oJ++[(⟨7,0,0,0,[],0,0⟩:Ev)])])) z5)) z5) z5;Bc (decide (q1.d.mJ=6)) (Bc z13 (Bc (decide (0<q1.d.uJ.wK)) ((Fp 64 [.agg (Af 0 1 q1.d),vI 5,vI q1.d.aJ] (L2 q1.d) (.tup [.agg (Af 2 3 z9),vO 4]) (.dK:: .dK::Ls z9 [As 5 q1.d.aJ]))∧(q1.oJ.length+List.length [As 5 q1.d.aJ]≤Bh)∧Lf (.tup [.agg (Af 2 3 z9),vO 4]) z17 (.dK:: .dK::Ls z9 (q1.oJ++[As 5 q1.d.aJ])) z16) ((q1.oJ.length+List.length [(⟨5,0,0,0,[],0,0⟩:Ev)]≤Bh)∧z18.Nxt q1 [(1,.v (vP 2)),(2,.v (vP 5)),(4,.v (vO 6))] [.dK,.dK,.cells [.own 3,zi q1.d.pJ.rJ,zi q1.d.pJ.dJ,zi q1.d.pJ.most,zi 2,.own 4,.int .u64 q1.d.sK.bits,zi q1.d.sK.hJ,zi q1.d.sX,zi q1.d.aJ,zi q1.d.field.nJ,zi q1.d.field.kind,.bool q1.d.field.rep,.bool q1.d.field.packed,zi q1.d.field.mK,zi q1.d.wJ,zi 0,zi 0,zi 0,zi 0,zi q1.d.eJ.kind,zi q1.d.eJ.field,.int .u64 q1.d.eJ.bits,zi q1.d.eJ.len,.str q1.d.eJ.text,zi q1.d.eJ.code,zi q1.d.eJ.aJ],.tree q1.d.pJ.sQ,.lst .lev q1.d.sJ,.cells z15,.lst .ev (q1.oJ++[(⟨5,0,0,0,[],0,0⟩:Ev)])])) ((z13=false)∧Bc z11 z4 z5)) (Bc z13 (Bc (decide (q1.d.mJ=7)) z6 (Bc (decide (q1.d.mJ=8)) (Bc z12 z6 (Bc z11 ((z12=false)∧Lf z14 z17 z10 z16) z5)) (Bc z11 z4 z5))) (Bc z11 z4 z5))))) Q4 ?_
 refine⟨Bp (j:=(⟨d,([]:List Ev)⟩:D6)) rfl rfl (by dsimp only[E7];exact⟨rfl,by simp,Nat.le_refl _⟩),fun (q1:D6) hq_q1=>?_⟩
 have hi_q1:Ae ⟨q1.d,q1.oJ⟩=Ae ⟨d,[]⟩∧q1.oJ.length+wM ⟨q1.d,q1.oJ⟩≤wM ⟨d,[]⟩∧List.length (q1.d).sJ≤d.sJ.length:=hq_q1
 obtain ⟨v1,v2,v3⟩:=hi_q1
 have hwq:=Aik ⟨q1.d,q1.oJ⟩
 refine dsp (fun h1 p1=>?_) fun h1 p1=>?_
 refine dsp (fun h2 p2=>?_) fun h2 p2=>?_
 refine dsp (fun h3 p3=>?_) fun h3 p3=>?_
 have hst:Ae ⟨d,[]⟩=A3 ⟨q1.d,q1.oJ⟩ 5 q1.d.aJ:=by rw[←v1];exact Wo (by assumption) (by assumption) (by assumption)
 exact zD ((Ae ⟨d,[]⟩).d) (Ba q1.d 5 q1.d.aJ) ((Ae ⟨d,[]⟩).oJ) (q1.oJ++[As 5 q1.d.aJ]) (fun hm1 hm2=>⟨(De q1.d _ _),Q6,Q5,Q9⟩) W52 W52
 exact⟨Q6,A6 (j:=(⟨(⟨q1.d.pJ,2,q1.d.sJ,q1.d.sK,q1.d.sX,q1.d.aJ,q1.d.field,q1.d.wJ,0,(⟨0,0,0⟩:Utf),q1.d.eJ⟩:Dcd),q1.oJ++[(⟨5,0,0,0,[],0,0⟩:Ev)]⟩:D6)) rfl Q8 (by dsimp only[E7];have hcl:A1 ⟨q1.d,q1.oJ⟩=some ⟨(⟨q1.d.pJ,2,q1.d.sJ,q1.d.sK,q1.d.sX,q1.d.aJ,q1.d.field,q1.d.wJ,0,(⟨0,0,0⟩:Utf),q1.d.eJ⟩:Dcd),q1.oJ++[(⟨5,0,0,0,[],0,0⟩:Ev)]⟩:=Q39;exact⟨by rw[←v1];exact(Cd hcl).symm,by have:=Ck hcl;simp only at this;omega,by have:=(K8 hcl).1;simp only at this;omega⟩) (by dsimp only[E7];have hcl:A1 ⟨q1.d,q1.oJ⟩=some ⟨(⟨q1.d.pJ,2,q1.d.sJ,q1.d.sK,q1.d.sX,q1.d.aJ,q1.d.field,q1.d.wJ,0,(⟨0,0,0⟩:Utf),q1.d.eJ⟩:Dcd),q1.oJ++[(⟨5,0,0,0,[],0,0⟩:Ev)]⟩:=Q39;exact(Ck hcl).1)⟩
 refine⟨h2,dsp (fun h3 p3=>?_) fun h3 p3=>?_⟩
 refine dsp (fun h4 p4=>?_) fun h4 p4=>?_
 refine dsp (fun h5 p5=>?_) fun h5 p5=>?_
 refine⟨(Ad Q2 Q2),(Bo (l:=q1.d.sJ) (i:=Int.toNat (((q1.d.sJ.length:Nat):Int)-1)) Q2),fun x1 hx1=>?_⟩
 refine⟨Q2,Q2,?_⟩
 have hll:=Kv (d:=q1.d) (by rw[←hx1];congr 1;omega)
 have hix:Int.toNat ((q1.d.sJ.length:Int)-1)=q1.d.sJ.length-1:=by omega
 refine⟨hx1,dsp (fun h6 p6=>?_) fun h6 p6=>?_⟩
 refine⟨(Ad Q2 Q2),Q2,Q2,Q71,dsp (fun h7 p7=>?_) fun h7 p7=>?_⟩
 exact⟨Q6,A6 (j:=(⟨(⟨q1.d.pJ,1,([]:List Lev)++(List.take ((Int.toNat (((q1.d.sJ.length:Nat):Int)-1))-0) (List.drop 0 q1.d.sJ)),q1.d.sK,q1.d.sX,q1.d.aJ,q1.d.field,q1.d.wJ,q1.d.wK,q1.d.uJ,q1.d.eJ⟩:Dcd),q1.oJ++[(⟨8,0,0,0,[],0,0⟩:Ev)]⟩:D6)) rfl Q8 Q23 Q31⟩
 exact⟨Q6,A6 (j:=(⟨(⟨q1.d.pJ,q1.d.mJ,([]:List Lev)++(List.take ((Int.toNat (((q1.d.sJ.length:Nat):Int)-1))-0) (List.drop 0 q1.d.sJ)),q1.d.sK,q1.d.sX,q1.d.aJ,q1.d.field,q1.d.wJ,q1.d.wK,q1.d.uJ,q1.d.eJ⟩:Dcd),q1.oJ++[(⟨7,0,0,0,[],0,0⟩:Ev)]⟩:D6)) rfl Q8 Q22 Q29⟩
 exact zD ((Ae ⟨d,[]⟩).d) q1.d ((Ae ⟨d,[]⟩).oJ) q1.oJ (fun hm1 hm2=>⟨Q5,Q9⟩) W52 W52
 exact zD ((Ae ⟨d,[]⟩).d) q1.d ((Ae ⟨d,[]⟩).oJ) q1.oJ (fun hm1 hm2=>⟨Q5,Q9⟩) W52 W52
 exact zD ((Ae ⟨d,[]⟩).d) q1.d ((Ae ⟨d,[]⟩).oJ) q1.oJ (fun hm1 hm2=>⟨Q5,Q9⟩) W52 W52
 exact zD ((Ae ⟨d,[]⟩).d) q1.d ((Ae ⟨d,[]⟩).oJ) q1.oJ (fun hm1 hm2=>⟨Q5,Q9⟩) W52 W52
 refine dsp (fun h2 p2=>?_) fun h2 p2=>?_
 refine dsp (fun h3 p3=>?_) fun h3 p3=>?_
 exact A6 (j:=(⟨(⟨q1.d.pJ,2,q1.d.sJ,q1.d.sK,q1.d.sX,q1.d.aJ,q1.d.field,q1.d.wJ,0,q1.d.uJ,q1.d.eJ⟩:Dcd),q1.oJ⟩:D6)) rfl Q8 Q49 Q66
 refine dsp (fun h4 p4=>?_) fun h4 p4=>?_
 refine dsp (fun h5 p5=>?_) fun h5 p5=>?_
 exact A6 (j:=(⟨(⟨q1.d.pJ,2,q1.d.sJ,q1.d.sK,q1.d.sX,q1.d.aJ,q1.d.field,q1.d.wJ,0,q1.d.uJ,q1.d.eJ⟩:Dcd),q1.oJ⟩:D6)) rfl Q8 Q49 Q66
 refine dsp (fun h6 p6=>?_) fun h6 p6=>?_
 exact zD ((Ae ⟨d,[]⟩).d) q1.d ((Ae ⟨d,[]⟩).oJ) q1.oJ (fun hm1 hm2=>⟨h5,Q5,Q9⟩) W52 W52
 exact zD ((Ae ⟨d,[]⟩).d) q1.d ((Ae ⟨d,[]⟩).oJ) q1.oJ (fun hm1 hm2=>⟨Q5,Q9⟩) W52 W52
 refine dsp (fun h5 p5=>?_) fun h5 p5=>?_
 refine dsp (fun h6 p6=>?_) fun h6 p6=>?_
 refine dsp (fun h7 p7=>?_) fun h7 p7=>?_
 refine⟨(Ad Q2 Q2),(Bo (l:=q1.d.sJ) (i:=Int.toNat (((q1.d.sJ.length:Nat):Int)-1)) Q2),fun x1 hx1=>?_⟩
 refine⟨Q2,Q2,?_⟩
 have hll:=Kv (d:=q1.d) (by rw[←hx1];congr 1;omega)
 have hix:Int.toNat ((q1.d.sJ.length:Int)-1)=q1.d.sJ.length-1:=by omega
 refine⟨hx1,dsp (fun h8 p8=>?_) fun h8 p8=>?_⟩
 refine⟨(Ad Q2 Q2),Q2,Q2,Q71,dsp (fun h9 p9=>?_) fun h9 p9=>?_⟩
 exact⟨Q6,A6 (j:=(⟨(⟨q1.d.pJ,1,([]:List Lev)++(List.take ((Int.toNat (((q1.d.sJ.length:Nat):Int)-1))-0) (List.drop 0 q1.d.sJ)),q1.d.sK,q1.d.sX,q1.d.aJ,q1.d.field,q1.d.wJ,q1.d.wK,q1.d.uJ,q1.d.eJ⟩:Dcd),q1.oJ++[(⟨8,0,0,0,[],0,0⟩:Ev)]⟩:D6)) rfl Q8 Q23 Q31⟩
 exact⟨Q6,A6 (j:=(⟨(⟨q1.d.pJ,q1.d.mJ,([]:List Lev)++(List.take ((Int.toNat (((q1.d.sJ.length:Nat):Int)-1))-0) (List.drop 0 q1.d.sJ)),q1.d.sK,q1.d.sX,q1.d.aJ,q1.d.field,q1.d.wJ,q1.d.wK,q1.d.uJ,q1.d.eJ⟩:Dcd),q1.oJ++[(⟨7,0,0,0,[],0,0⟩:Ev)]⟩:D6)) rfl Q8 Q22 Q29⟩
 exact zD ((Ae ⟨d,[]⟩).d) q1.d ((Ae ⟨d,[]⟩).oJ) q1.oJ (fun hm1 hm2=>⟨Q5,Q9⟩) W52 W52
 exact zD ((Ae ⟨d,[]⟩).d) q1.d ((Ae ⟨d,[]⟩).oJ) q1.oJ (fun hm1 hm2=>⟨Q5,Q9⟩) W52 W52
 exact zD ((Ae ⟨d,[]⟩).d) q1.d ((Ae ⟨d,[]⟩).oJ) q1.oJ (fun hm1 hm2=>⟨Q5,Q9⟩) W52 W52
 exact zD ((Ae ⟨d,[]⟩).d) q1.d ((Ae ⟨d,[]⟩).oJ) q1.oJ (fun hm1 hm2=>⟨Q5,Q9⟩) W52 W52
 refine dsp (fun h3 p3=>?_) fun h3 p3=>?_
 refine dsp (fun h4 p4=>?_) fun h4 p4=>?_
 refine dsp (fun h5 p5=>?_) fun h5 p5=>?_
 refine⟨(Ad Q2 Q2),(Bo (l:=q1.d.sJ) (i:=Int.toNat (((q1.d.sJ.length:Nat):Int)-1)) Q2),fun x1 hx1=>?_⟩
 refine⟨Q2,Q2,?_⟩
 have hll:=Kv (d:=q1.d) (by rw[←hx1];congr 1;omega)
 have hix:Int.toNat ((q1.d.sJ.length:Int)-1)=q1.d.sJ.length-1:=by omega
 refine⟨hx1,dsp (fun h6 p6=>?_) fun h6 p6=>?_⟩
 refine⟨(Ad Q2 Q2),Q2,Q2,Q71,dsp (fun h7 p7=>?_) fun h7 p7=>?_⟩
 exact⟨Q6,A6 (j:=(⟨(⟨q1.d.pJ,1,([]:List Lev)++(List.take ((Int.toNat (((q1.d.sJ.length:Nat):Int)-1))-0) (List.drop 0 q1.d.sJ)),q1.d.sK,q1.d.sX,q1.d.aJ,q1.d.field,q1.d.wJ,q1.d.wK,q1.d.uJ,q1.d.eJ⟩:Dcd),q1.oJ++[(⟨8,0,0,0,[],0,0⟩:Ev)]⟩:D6)) rfl Q8 Q23 Q31⟩
 exact⟨Q6,A6 (j:=(⟨(⟨q1.d.pJ,q1.d.mJ,([]:List Lev)++(List.take ((Int.toNat (((q1.d.sJ.length:Nat):Int)-1))-0) (List.drop 0 q1.d.sJ)),q1.d.sK,q1.d.sX,q1.d.aJ,q1.d.field,q1.d.wJ,q1.d.wK,q1.d.uJ,q1.d.eJ⟩:Dcd),q1.oJ++[(⟨7,0,0,0,[],0,0⟩:Ev)]⟩:D6)) rfl Q8 Q22 Q29⟩
 exact zD ((Ae ⟨d,[]⟩).d) q1.d ((Ae ⟨d,[]⟩).oJ) q1.oJ (fun hm1 hm2=>⟨Q5,Q9⟩) W52 W52
 exact zD ((Ae ⟨d,[]⟩).d) q1.d ((Ae ⟨d,[]⟩).oJ) q1.oJ (fun hm1 hm2=>⟨Q5,Q9⟩) W52 W52
 exact zD ((Ae ⟨d,[]⟩).d) q1.d ((Ae ⟨d,[]⟩).oJ) q1.oJ (fun hm1 hm2=>⟨Q5,Q9⟩) W52 W52
 exact zD ((Ae ⟨d,[]⟩).d) q1.d ((Ae ⟨d,[]⟩).oJ) q1.oJ (fun hm1 hm2=>⟨Q5,Q9⟩) W52 W52
end Go.Proofs.YtphecbmdhbphgaaGreat.Ax
