/- The reference: frames, tags, lengths. The reference: lengths, numbers. The reference: bytes of numbers. A byte: the reference. Whole inputs: the reference. Models: Ca events. Merged events. Chunks. -/
import Derived.Test.YtphecbmdhbphgaaGreatKFnDecode4
import Derived.Test.YtphecbmdhbphgaaGreatKFnDecode2
import Derived.Test.YtphecbmdhbphgaaGreatKFnDecode3
import Derived.Test.YtphecbmdhbphgaaGreatKFnDecode1
set_option linter.unusedSimpArgs false
set_option linter.unusedVariables false
namespace Go.Proofs.YtphecbmdhbphgaaGreat.Ax
open Go.RowKit
theorem J4 (d:Dcd) (e:Ev) (hp1:List.length (d).sJ≤1000):Fun Tryz.prog 65 [.agg (Af 0 1 d),.agg (cEv e)] [.tree d.pJ.sQ,.lst .lev d.sJ] (.tup [.agg (Af 2 3 (Ae ⟨d,[]⟩).d),vO 4]) [.dK,.dK,.tree (Ae ⟨d,[]⟩).d.pJ.sQ,.lst .lev (Ae ⟨d,[]⟩).d.sJ,.lst .ev (e::(Ae ⟨d,[]⟩).oJ)]:=by
 have hN:Bh=274877906944:=rfl
 have hso:=Ym ⟨d,[]⟩
 have hwd:=Aik ⟨d,[]⟩
 simp only[List.length_nil] at hwd hso
 refine Ar Tryz.func65 Q4 Q4 (w:=let z1:=Ae ⟨d,[]⟩;let z2:S:= .tup [.agg (Af 2 3 z1.d),vO 4];(.sZ [.call [0,1] z2 (.dK:: .dK::Ls z1.d z1.oJ),.tree (.first 0 (.first 1 (.first 3 (.one 2 (.one 4 (.one 5 (.first 6 (.done)))))))) 5 [7],.ty .ev,.ty .ev] (.lJ () [0,1,5,6,10]),(Fp 62 [.agg (Af 0 1 d)] (L2 d) z2 (.dK:: .dK::Ls z1.d z1.oJ))∧(List.length [e]+z1.oJ.length≤Bh)∧Lf z2 z2 (.dK:: .dK::Ls z1.d ([e]++z1.oJ)) (.dK:: .dK::Ls z1.d (e::z1.oJ)))) Q4 ?_
 exact⟨(J3 d Q2),Q6,rfl,(Ab rfl (Ab rfl (Ab rfl (Ab rfl (Ab (congrArg (Blk.lst .ev) (by rfl)) rfl)))))⟩
theorem Akm (d:Dcd) (u:Int) (hp1:Bn d=true) (hp2:(0:Int)≤u∧u≤18446744073709551615):Fun Tryz.prog 137 [.agg (B9 d),.c (.int .u64 u)] [] (.tup [.agg (Af 0 1 (C0 ⟨d,[]⟩ u).d),vO 2]) [.tree (C0 ⟨d,[]⟩ u).d.pJ.sQ,.lst .lev (C0 ⟨d,[]⟩ u).d.sJ,.lst .ev (C0 ⟨d,[]⟩ u).oJ]:=by
 have hN:Bh=274877906944:=rfl
 have hlv:=Cm hp1
 have hpt:=By hlv.1
 have htb:=Jn hp1
 refine Ar Tryz.func137 Q4 Q4 (w:=let zi:Int→C:= .int .i64;let z1:List C:=[.own 1,.int .u64 0,zi 0,zi d.sX,zi d.aJ,zi d.field.nJ,zi d.field.kind,.bool d.field.rep,.bool d.field.packed,zi d.field.mK,zi d.wJ,zi d.wK,zi d.uJ.wK,zi d.uJ.low,zi d.uJ.high,zi d.eJ.kind,zi d.eJ.field,.int .u64 d.eJ.bits,zi d.eJ.len,.str d.eJ.text,zi d.eJ.code,zi d.eJ.aJ];let z2:=Ae ⟨(⟨d.pJ,2,[(⟨d.pJ.rJ,u⟩:Lev)],(⟨0,0⟩:Scn),d.sX,d.aJ,d.field,d.wJ,d.wK,d.uJ,d.eJ⟩:Dcd),[]⟩;let z3:=Ba (⟨d.pJ,d.mJ,d.sJ,(⟨0,0⟩:Scn),d.sX,d.aJ,d.field,d.wJ,d.wK,d.uJ,d.eJ⟩:Dcd) 7 d.sX;let z4:=(⟨1,0,0,u,[],0,0⟩:Ev)::z2.oJ;let z5:=C0 ⟨d,[]⟩ u;let z6:S:= .tup [.agg (Af 2 3 z2.d),vO 4];let z7:S:= .tup [.agg (Af 0 1 z5.d),vO 2];let z8:List Blk:= .dK:: .dK::Ls z3 [As 7 d.sX];let z9:S:= .tup [.agg (Af 2 3 z3),vO 4];(.sZ [.call [] (.v (.agg (Af 0 1 d))) (L2 d),.call [] (.v (vB (Bn d))) [],.br false,.as 20 (.v (.c (.int .u64 d.pJ.most)))] (.br (.sZ [.call [2,3] z9 z8] (.lJ () [5,6,7])) (.sZ [.as 32 (.v (vI u)),.ty .lev,.as 39 (.v (vI u)),.call [2,5] z6 (.dK:: .dK::Ls z2.d z4)] (.lJ () [6,7,8]))),(Fp 59 [.agg (B9 d)] [] (.v (.agg (Af 0 1 d))) (L2 d))∧(Fp 190 [.agg (B9 d)] [] (.v (vB (Bn d))) [])∧((!(Bn d))=false)∧(wU (d.pJ.most))∧Bc (decide (d.pJ.most<u)) ((Fp 64 [.agg (.own 0::zi d.pJ.rJ::zi d.pJ.dJ::zi d.pJ.most::zi d.mJ::z1),vI 7,vI d.sX] (L2 d) z9 z8)∧Lf (.tup [.agg (Af 0 1 z3),vO 2]) z7 (Ls z3 [As 7 d.sX]) (Ls z5.d z5.oJ)) ((wI (u))∧(wI (u))∧(Fp 65 [.agg (.own 0::zi d.pJ.rJ::zi d.pJ.dJ::zi d.pJ.most::zi 2::z1),.agg [zi 1,zi 0,.int .u64 0,zi u,.str [],zi 0,zi 0]] [.tree d.pJ.sQ,.lst .lev [(⟨d.pJ.rJ,u⟩:Lev)]] z6 (.dK:: .dK::Ls z2.d z4))∧Lf (.tup [.agg (Af 0 1 z2.d),vO 2]) z7 (Ls z2.d z4) (Ls z5.d z5.oJ)))) Q4 ?_
 refine⟨(Lr d Q2 (Dx hpt.2.1) Q2),(Vn d Q2 Q2),(by simp[hp1]),(Bu Q2 Q2),dsp (fun h1 p1=>?_) fun h1 p1=>?_⟩
 exact zD ((C0 ⟨d,[]⟩ u).d) (Ba (⟨d.pJ,d.mJ,d.sJ,(⟨0,0⟩:Scn),d.sX,d.aJ,d.field,d.wJ,d.wK,d.uJ,d.eJ⟩:Dcd) 7 d.sX) ((C0 ⟨d,[]⟩ u).oJ) [As 7 d.sX] (fun hm1 hm2=>⟨(De (⟨d.pJ,d.mJ,d.sJ,(⟨0,0⟩:Scn),d.sX,d.aJ,d.field,d.wJ,d.wK,d.uJ,d.eJ⟩:Dcd) _ _),Q5,Q9⟩) W53 W53
 exact zD ((C0 ⟨d,[]⟩ u).d) ((Ae ⟨(⟨d.pJ,2,[(⟨d.pJ.rJ,u⟩:Lev)],(⟨0,0⟩:Scn),d.sX,d.aJ,d.field,d.wJ,d.wK,d.uJ,d.eJ⟩:Dcd),[]⟩).d) ((C0 ⟨d,[]⟩ u).oJ) ((⟨1,0,0,u,[],0,0⟩:Ev)::(Ae ⟨(⟨d.pJ,2,[(⟨d.pJ.rJ,u⟩:Lev)],(⟨0,0⟩:Scn),d.sX,d.aJ,d.field,d.wJ,d.wK,d.uJ,d.eJ⟩:Dcd),[]⟩).oJ) (fun hm1 hm2=>⟨(Ad Q2 Q2),(Ad Q2 Q2),(J4 (⟨d.pJ,2,[(⟨d.pJ.rJ,u⟩:Lev)],(⟨0,0⟩:Scn),d.sX,d.aJ,d.field,d.wJ,d.wK,d.uJ,d.eJ⟩:Dcd) (⟨1,0,0,u,[],0,0⟩:Ev) Q16),Q5,Q9⟩) W53 W53
set_option maxHeartbeats 1600000 in
theorem Asn (d:Dcd) (u:Int) (hp1:Bn d=true) (hp2:(0:Int)≤u∧u≤18446744073709551615):Fun Tryz.prog 138 [.agg (B9 d),.c (.int .u64 u)] [] (.tup [.agg (Af 0 1 (Ew ⟨d,[]⟩ u).d),vO 2]) [.tree (Ew ⟨d,[]⟩ u).d.pJ.sQ,.lst .lev (Ew ⟨d,[]⟩ u).d.sJ,.lst .ev (Ew ⟨d,[]⟩ u).oJ]:=by
 have hN:Bh=274877906944:=rfl
 have hlv:=Cm hp1
 have hpt:=By hlv.1
 have htb:=Jn hp1
 have htw:=Ap0 u
 have hwb:=Dv (Ag u)
 have hmx:max (Aq (Ag u)) 1=if 1>Aq (Ag u) then 1 else Aq (Ag u):=by split<;>omega
 have hw1:C4 (Ag u)=true→¬Ag u=0→¬Ag u=2→1≤Aq (Ag u):=by
  intro a b c
  simp[C4] at a
  unfold Aq
  split<;>(try split)<;>omega
 refine Ar Tryz.func138 Q4 Q4 (w:=let zi:Int→C:= .int .i64;let z8:List C:=[zi d.wK,zi d.uJ.wK,zi d.uJ.low,zi d.uJ.high,zi d.eJ.kind,zi d.eJ.field,.int .u64 d.eJ.bits,zi d.eJ.len,.str d.eJ.text,zi d.eJ.code,zi d.eJ.aJ];let z9:List C:=[.nil,zi 0,zi 0,zi 0,zi 0,.nil,.int .u64 0,zi 0,zi 0,zi 0,zi 0,zi 0,.bool false,.bool false,zi 0,zi 0,zi 0,zi 0,zi 0,zi 0,zi 0,zi 0,.int .u64 0,zi 0,.str [],zi 0,zi 0];let z11:=((d.sJ.length:Nat):Int);let z12:S:= .tup [.agg (Af 0 1 (Ew ⟨d,[]⟩ u).d),vO 2];let z13:=Ls (Ew ⟨d,[]⟩ u).d (Ew ⟨d,[]⟩ u).oJ;let z14:=(⟨0,0⟩:Scn);let z10:=(⟨d.pJ,d.mJ,d.sJ,z14,d.sX,d.aJ,d.field,d.wJ,d.wK,d.uJ,d.eJ⟩:Dcd);let z15:=Ag u;let z16:=Ba z10 2 d.sX;let z17:=(0:Int)≤z11-1;let z18:List Blk:= .dK:: .dK::Ls z16 [As 2 d.sX];let z19:S:= .tup [.agg (Af 2 3 z16),vO 4];let z20:S:= .v (vI (z11-1));let z21:=Ba z10 3 d.sX;let z22:=Ba z10 4 d.sX;let z23:=Ls d ([]:List Ev);let z24:=wI (z11-1);let z25:S:= .v (vI (Aq z15));let z26:S:= .tup [vI (A8 u),vI z15,vB (Nf u)];let z27:List Blk:= .dK:: .dK::Ls z21 [As 3 d.sX];let z28:List Blk:= .dK:: .dK::Ls z22 [As 4 d.sX];let z29:S:= .tup [.agg (Af 2 3 z21),vO 4];let z30:S:= .tup [.agg (Af 2 3 z22),vO 4];let z31:S:= .tup [.agg (Af 0 1 z16),vO 2];(.sZ [.call [] (.v (.agg (Af 0 1 d))) (L2 d),.call [] (.v (vB (Bn d))) [],.br false,.call [] z26 []] (.br (.sZ [.call [2,3] z19 z18] (.lJ () [5,6,7])) (.br (.sZ [.call [2,3] z19 z18] (.lJ () [5,6,7])) (.intro (Sx (d.sJ[Int.toNat (z11-1)]?)) fun x1=>let z2:=fieldAt d.pJ.sQ x1.mK (A8 u);let z1:=z2.getD fld0;.sZ [.tree (fr (.two 11 (fr (.one 15 (.one 16 (.first 17 (.done)))) 12 3) 15 (.one 11 (fr (.one 16 (.first 17 (.done))) 12 3))) 0 11) 18 [],.as 51 z20,.el .lev x1,.call [] (.tup [.agg (Fg z1),vB z2.isSome]) [],.at 0,.keep [2,4,6,8,10,11,12],.sel [0,1,4,2,3,5],.call [] (.tup [.agg (Fg z1),vB z2.isSome]) [],.at 0,.keep [2,4,6,8,10,11,12],.sel [0,1,4,2,3,5],.call [] (.v (vB (C4 z15))) []] (.br (.sZ [.call [3,4] z29 z27] (.lJ () [6,7,8])) (.br (.sZ [.call [] (.v (vB (Dk z1 z15))) []] (.br (.sZ [.call [3,4] z30 z28] (.lJ () [6,7,8])) (.br (.sZ [.as 98 z20,.el .lev x1] (.br (.sZ [.call [3,4] (.tup [.agg (Af 2 3 (Ba (⟨d.pJ,3,d.sJ,z14,d.sX,d.aJ,z1,Ag u,d.wK,d.uJ,d.eJ⟩:Dcd) 9 d.aJ)),vO 4]) (.dK:: .dK::Ls (Ba (⟨d.pJ,3,d.sJ,z14,d.sX,d.aJ,z1,Ag u,d.wK,d.uJ,d.eJ⟩:Dcd) 9 d.aJ) [As 9 d.aJ])] (.lJ () [6,7,8])) (.sZ [.ty .ev] (.lJ () [3,4,6])))) (.br (.sZ [.as 98 z20,.el .lev x1] (.br (.sZ [.call [3,4] (.tup [.agg (Af 2 3 (Ba (⟨d.pJ,4,d.sJ,z14,d.sX,d.aJ,z1,Ag u,d.wK,d.uJ,d.eJ⟩:Dcd) 9 d.aJ)),vO 4]) (.dK:: .dK::Ls (Ba (⟨d.pJ,4,d.sJ,z14,d.sX,d.aJ,z1,Ag u,d.wK,d.uJ,d.eJ⟩:Dcd) 9 d.aJ) [As 9 d.aJ])] (.lJ () [6,7,8])) (.sZ [.ty .ev] (.lJ () [3,4,6])))) (.sZ [.call [] z25 [],.as 98 z20,.el .lev x1] (.br (.sZ [.call [3,4] (.tup [.agg (Af 2 3 (Ba (⟨d.pJ,5,d.sJ,z14,d.sX,d.aJ,z1,Ag u,d.wK,d.uJ,d.eJ⟩:Dcd) 9 d.aJ)),vO 4]) (.dK:: .dK::Ls (Ba (⟨d.pJ,5,d.sJ,z14,d.sX,d.aJ,z1,Ag u,d.wK,d.uJ,d.eJ⟩:Dcd) 9 d.aJ) [As 9 d.aJ])] (.lJ () [6,7,8])) (.sZ [.ty .ev] (.lJ () [3,4,6])))))))) (.br (.sZ [.as 98 z20,.el .lev x1] (.br (.sZ [.call [3,4] (.tup [.agg (Af 2 3 (Ba (⟨d.pJ,3,d.sJ,z14,d.sX,d.aJ,z1,Ag u,d.wK,d.uJ,d.eJ⟩:Dcd) 9 d.aJ)),vO 4]) (.dK:: .dK::Ls (Ba (⟨d.pJ,3,d.sJ,z14,d.sX,d.aJ,z1,Ag u,d.wK,d.uJ,d.eJ⟩:Dcd) 9 d.aJ) [As 9 d.aJ])] (.lJ () [6,7,8])) (.sZ [.ty .ev] (.lJ () [3,4,6])))) (.br (.sZ [.as 98 z20,.el .lev x1] (.br (.sZ [.call [3,4] (.tup [.agg (Af 2 3 (Ba (⟨d.pJ,4,d.sJ,z14,d.sX,d.aJ,z1,Ag u,d.wK,d.uJ,d.eJ⟩:Dcd) 9 d.aJ)),vO 4]) (.dK:: .dK::Ls (Ba (⟨d.pJ,4,d.sJ,z14,d.sX,d.aJ,z1,Ag u,d.wK,d.uJ,d.eJ⟩:Dcd) 9 d.aJ) [As 9 d.aJ])] (.lJ () [6,7,8])) (.sZ [.ty .ev] (.lJ () [3,4,6])))) (.sZ [.call [] z25 [],.as 98 z20,.el .lev x1] (.br (.sZ [.call [3,4] (.tup [.agg (Af 2 3 (Ba (⟨d.pJ,5,d.sJ,z14,d.sX,d.aJ,z1,Ag u,d.wK,d.uJ,d.eJ⟩:Dcd) 9 d.aJ)),vO 4]) (.dK:: .dK::Ls (Ba (⟨d.pJ,5,d.sJ,z14,d.sX,d.aJ,z1,Ag u,d.wK,d.uJ,d.eJ⟩:Dcd) 9 d.aJ) [As 9 d.aJ])] (.lJ () [6,7,8])) (.sZ [.ty .ev] (.lJ () [3,4,6]))))))))))),(Fp 59 [.agg (B9 d)] [] (.v (.agg (Af 0 1 d))) (L2 d))∧(Fp 190 [.agg (B9 d)] [] (.v (vB (Bn d))) [])∧((!(Bn d))=false)∧(Fp 191 [.c (.int .u64 u)] [] z26 [])∧Bc (!(Nf u)) ((Fp 64 [.agg (.own 0::zi d.pJ.rJ::zi d.pJ.dJ::zi d.pJ.most::zi d.mJ:: .own 1:: .int .u64 0::zi 0::zi d.sX::zi d.aJ::zi d.field.nJ::zi d.field.kind:: .bool d.field.rep:: .bool d.field.packed::zi d.field.mK::zi d.wJ::z8),vI 2,vI d.sX] (L2 d) z19 z18)∧Lf z31 z12 (Ls z16 [As 2 d.sX]) z13) (Bc (decide (z11=0)) ((Fp 64 [.agg (.own 0::zi d.pJ.rJ::zi d.pJ.dJ::zi d.pJ.most::zi d.mJ:: .own 1:: .int .u64 0::zi 0::zi d.sX::zi d.aJ::zi d.field.nJ::zi d.field.kind:: .bool d.field.rep:: .bool d.field.packed::zi d.field.mK::zi d.wJ::z8),vI 2,vI d.sX] (L2 d) z19 z18)∧Lf z31 z12 (Ls z16 [As 2 d.sX]) z13) (El (d.sJ[Int.toNat (z11-1)]?) fun x1=>(let z4:=d.sJ[Int.toNat (z11-1)]? =some x1;let z5:=fieldAt d.pJ.sQ x1.mK (A8 u);let z3:=z5.getD fld0;let z6:=decide (x1.left<1);let z7:=decide (x1.left<Aq z15);z24∧z24∧z4∧z17∧z4∧z17∧(Fp 188 [.agg [.seq .shp d.pJ.sQ],vI x1.mK,vI (A8 u)] [] (.tup [.agg (Fg z3),vB z5.isSome]) [])∧(Fp 188 [.agg [.seq .shp d.pJ.sQ],vI x1.mK,vI (A8 u)] [] (.tup [.agg (Fg z3),vB z5.isSome]) [])∧(([.cells (B9 d),.cells z9,.cells (.own 3::zi d.pJ.rJ::zi d.pJ.dJ::zi d.pJ.most::zi d.mJ:: .own 4:: .int .u64 0::zi 0::zi d.sX::zi d.aJ::zi d.field.nJ::zi d.field.kind:: .bool d.field.rep:: .bool d.field.packed::zi d.field.mK::zi d.wJ::z8),.tree d.pJ.sQ,.lst .lev d.sJ,.cells (Fg z3)]:List Blk)=[.cells (B9 d),.cells z9,.cells (.own 3::zi d.pJ.rJ::zi d.pJ.dJ::zi d.pJ.most::zi d.mJ:: .own 4:: .int .u64 0::zi 0::zi d.sX::zi d.aJ::zi d.field.nJ::zi d.field.kind:: .bool d.field.rep:: .bool d.field.packed::zi d.field.mK::zi d.wJ::z8),.tree d.pJ.sQ,.lst .lev d.sJ,.cells (Fg z3)])∧(([(2,.v (vP 0)),(4,.v (vP 1)),(6,.v (vP 2)),(8,.v (vI z15)),(10,.v (vI z11)),(11,.v (vP 5)),(12,.v (vB z5.isSome))]:List (Nat×S))=[(2,.v (vP 0)),(4,.v (vP 1)),(6,.v (vP 2)),(8,.v (vI z15)),(10,.v (vI z11)),(11,.v (vP 5)),(12,.v (vB z5.isSome))])∧(Fp 122 [vI z15] [] (.v (vB (C4 z15))) [])∧Bc (!(C4 z15)) ((Fp 64 [.agg (.own 0::zi d.pJ.rJ::zi d.pJ.dJ::zi d.pJ.most::zi d.mJ:: .own 1:: .int .u64 0::zi 0::zi d.sX::zi d.aJ::zi d.field.nJ::zi d.field.kind:: .bool d.field.rep:: .bool d.field.packed::zi d.field.mK::zi d.wJ::z8),vI 3,vI d.sX] (L2 d) z29 z27)∧Lf (.tup [.agg (Af 0 1 z21),vO 2]) z12 (Ls z21 [As 3 d.sX]) z13) (Bc (z5.isSome) ((Fp 128 [.agg (Fg z3),vI z15] [] (.v (vB (Dk z3 z15))) [])∧Bc (!(Dk z3 z15)) ((Fp 64 [.agg (.own 0::zi d.pJ.rJ::zi d.pJ.dJ::zi d.pJ.most::zi d.mJ:: .own 1:: .int .u64 0::zi 0::zi d.sX::zi d.aJ::zi d.field.nJ::zi d.field.kind:: .bool d.field.rep:: .bool d.field.packed::zi d.field.mK::zi d.wJ::z8),vI 4,vI d.sX] (L2 d) z30 z28)∧Lf (.tup [.agg (Af 0 1 z22),vO 2]) z12 (Ls z22 [As 4 d.sX]) z13) (Bc (decide (Ag u=0)) (z24∧z4∧z17∧Bc z6 ((Fp 64 [.agg (.own 0::zi d.pJ.rJ::zi d.pJ.dJ::zi d.pJ.most::zi 3:: .own 1:: .int .u64 0::zi 0::zi d.sX::zi d.aJ::zi z3.nJ::zi z3.kind:: .bool z3.rep:: .bool z3.packed::zi z3.mK::zi z15::z8),vI 9,vI d.aJ] (L2 d) (.tup [.agg (Af 2 3 (Ba (⟨d.pJ,3,d.sJ,z14,d.sX,d.aJ,z3,Ag u,d.wK,d.uJ,d.eJ⟩:Dcd) 9 d.aJ)),vO 4]) (.dK:: .dK::Ls (Ba (⟨d.pJ,3,d.sJ,z14,d.sX,d.aJ,z3,Ag u,d.wK,d.uJ,d.eJ⟩:Dcd) 9 d.aJ) [As 9 d.aJ]))∧Lf (.tup [.agg (Af 0 1 (Ba (⟨d.pJ,3,d.sJ,z14,d.sX,d.aJ,z3,Ag u,d.wK,d.uJ,d.eJ⟩:Dcd) 9 d.aJ)),vO 2]) z12 (Ls (Ba (⟨d.pJ,3,d.sJ,z14,d.sX,d.aJ,z3,Ag u,d.wK,d.uJ,d.eJ⟩:Dcd) 9 d.aJ) [As 9 d.aJ]) z13) (Lf (.tup [.agg (.own 0::zi d.pJ.rJ::zi d.pJ.dJ::zi d.pJ.most::zi 3:: .own 1:: .int .u64 0::zi 0::zi d.sX::zi d.aJ::zi z3.nJ::zi z3.kind:: .bool z3.rep:: .bool z3.packed::zi z3.mK::zi z15::z8),vO 2]) z12 z23 z13)) (Bc (decide (Ag u=2)) (z24∧z4∧z17∧Bc z6 ((Fp 64 [.agg (.own 0::zi d.pJ.rJ::zi d.pJ.dJ::zi d.pJ.most::zi 4:: .own 1:: .int .u64 0::zi 0::zi d.sX::zi d.aJ::zi z3.nJ::zi z3.kind:: .bool z3.rep:: .bool z3.packed::zi z3.mK::zi z15::z8),vI 9,vI d.aJ] (L2 d) (.tup [.agg (Af 2 3 (Ba (⟨d.pJ,4,d.sJ,z14,d.sX,d.aJ,z3,Ag u,d.wK,d.uJ,d.eJ⟩:Dcd) 9 d.aJ)),vO 4]) (.dK:: .dK::Ls (Ba (⟨d.pJ,4,d.sJ,z14,d.sX,d.aJ,z3,Ag u,d.wK,d.uJ,d.eJ⟩:Dcd) 9 d.aJ) [As 9 d.aJ]))∧Lf (.tup [.agg (Af 0 1 (Ba (⟨d.pJ,4,d.sJ,z14,d.sX,d.aJ,z3,Ag u,d.wK,d.uJ,d.eJ⟩:Dcd) 9 d.aJ)),vO 2]) z12 (Ls (Ba (⟨d.pJ,4,d.sJ,z14,d.sX,d.aJ,z3,Ag u,d.wK,d.uJ,d.eJ⟩:Dcd) 9 d.aJ) [As 9 d.aJ]) z13) (Lf (.tup [.agg (.own 0::zi d.pJ.rJ::zi d.pJ.dJ::zi d.pJ.most::zi 4:: .own 1:: .int .u64 0::zi 0::zi d.sX::zi d.aJ::zi z3.nJ::zi z3.kind:: .bool z3.rep:: .bool z3.packed::zi z3.mK::zi z15::z8),vO 2]) z12 z23 z13)) ((Fp 127 [vI z15] [] z25 [])∧z24∧z4∧z17∧Bc z7 ((Fp 64 [.agg (.own 0::zi d.pJ.rJ::zi d.pJ.dJ::zi d.pJ.most::zi 5:: .own 1:: .int .u64 0::zi 0::zi d.sX::zi d.aJ::zi z3.nJ::zi z3.kind:: .bool z3.rep:: .bool z3.packed::zi z3.mK::zi z15::z8),vI 9,vI d.aJ] (L2 d) (.tup [.agg (Af 2 3 (Ba (⟨d.pJ,5,d.sJ,z14,d.sX,d.aJ,z3,Ag u,d.wK,d.uJ,d.eJ⟩:Dcd) 9 d.aJ)),vO 4]) (.dK:: .dK::Ls (Ba (⟨d.pJ,5,d.sJ,z14,d.sX,d.aJ,z3,Ag u,d.wK,d.uJ,d.eJ⟩:Dcd) 9 d.aJ) [As 9 d.aJ]))∧Lf (.tup [.agg (Af 0 1 (Ba (⟨d.pJ,5,d.sJ,z14,d.sX,d.aJ,z3,Ag u,d.wK,d.uJ,d.eJ⟩:Dcd) 9 d.aJ)),vO 2]) z12 (Ls (Ba (⟨d.pJ,5,d.sJ,z14,d.sX,d.aJ,z3,Ag u,d.wK,d.uJ,d.eJ⟩:Dcd) 9 d.aJ) [As 9 d.aJ]) z13) (Lf (.tup [.agg (.own 0::zi d.pJ.rJ::zi d.pJ.dJ::zi d.pJ.most::zi 5:: .own 1:: .int .u64 0::zi 0::zi d.sX::zi d.aJ::zi z3.nJ::zi z3.kind:: .bool z3.rep:: .bool z3.packed::zi z3.mK::zi z15::z8),vO 2]) z12 z23 z13))))) (Bc (decide (Ag u=0)) (z24∧z4∧z17∧Bc z6 ((Fp 64 [.agg (.own 0::zi d.pJ.rJ::zi d.pJ.dJ::zi d.pJ.most::zi 3:: .own 1:: .int .u64 0::zi 0::zi d.sX::zi d.aJ::zi z3.nJ::zi z3.kind:: .bool z3.rep:: .bool z3.packed::zi z3.mK::zi z15::z8),vI 9,vI d.aJ] (L2 d) (.tup [.agg (Af 2 3 (Ba (⟨d.pJ,3,d.sJ,z14,d.sX,d.aJ,z3,Ag u,d.wK,d.uJ,d.eJ⟩:Dcd) 9 d.aJ)),vO 4]) (.dK:: .dK::Ls (Ba (⟨d.pJ,3,d.sJ,z14,d.sX,d.aJ,z3,Ag u,d.wK,d.uJ,d.eJ⟩:Dcd) 9 d.aJ) [As 9 d.aJ]))∧Lf (.tup [.agg (Af 0 1 (Ba (⟨d.pJ,3,d.sJ,z14,d.sX,d.aJ,z3,Ag u,d.wK,d.uJ,d.eJ⟩:Dcd) 9 d.aJ)),vO 2]) z12 (Ls (Ba (⟨d.pJ,3,d.sJ,z14,d.sX,d.aJ,z3,Ag u,d.wK,d.uJ,d.eJ⟩:Dcd) 9 d.aJ) [As 9 d.aJ]) z13) (Lf (.tup [.agg (.own 0::zi d.pJ.rJ::zi d.pJ.dJ::zi d.pJ.most::zi 3:: .own 1:: .int .u64 0::zi 0::zi d.sX::zi d.aJ::zi z3.nJ::zi z3.kind:: .bool z3.rep:: .bool z3.packed::zi z3.mK::zi z15::z8),vO 2]) z12 z23 z13)) (Bc (decide (Ag u=2)) (z24∧z4∧z17∧Bc z6 ((Fp 64 [.agg (.own 0::zi d.pJ.rJ::zi d.pJ.dJ::zi d.pJ.most::zi 4:: .own 1:: .int .u64 0::zi 0::zi d.sX::zi d.aJ::zi z3.nJ::zi z3.kind:: .bool z3.rep:: .bool z3.packed::zi z3.mK::zi z15::z8),vI 9,vI d.aJ] (L2 d) (.tup [.agg (Af 2 3 (Ba (⟨d.pJ,4,d.sJ,z14,d.sX,d.aJ,z3,Ag u,d.wK,d.uJ,d.eJ⟩:Dcd) 9 d.aJ)),vO 4]) (.dK:: .dK::Ls (Ba (⟨d.pJ,4,d.sJ,z14,d.sX,d.aJ,z3,Ag u,d.wK,d.uJ,d.eJ⟩:Dcd) 9 d.aJ) [As 9 d.aJ]))∧Lf (.tup [.agg (Af 0 1 (Ba (⟨d.pJ,4,d.sJ,z14,d.sX,d.aJ,z3,Ag u,d.wK,d.uJ,d.eJ⟩:Dcd) 9 d.aJ)),vO 2]) z12 (Ls (Ba (⟨d.pJ,4,d.sJ,z14,d.sX,d.aJ,z3,Ag u,d.wK,d.uJ,d.eJ⟩:Dcd) 9 d.aJ) [As 9 d.aJ]) z13) (Lf (.tup [.agg (.own 0::zi d.pJ.rJ::zi d.pJ.dJ::zi d.pJ.most::zi 4:: .own 1:: .int .u64 0::zi 0::zi d.sX::zi d.aJ::zi z3.nJ::zi z3.kind:: .bool z3.rep:: .bool z3.packed::zi z3.mK::zi z15::z8),vO 2]) z12 z23 z13)) ((Fp 127 [vI z15] [] z25 [])∧z24∧z4∧z17∧Bc z7 ((Fp 64 [.agg (.own 0::zi d.pJ.rJ::zi d.pJ.dJ::zi d.pJ.most::zi 5:: .own 1:: .int .u64 0::zi 0::zi d.sX::zi d.aJ::zi z3.nJ::zi z3.kind:: .bool z3.rep:: .bool z3.packed::zi z3.mK::zi z15::z8),vI 9,vI d.aJ] (L2 d) (.tup [.agg (Af 2 3 (Ba (⟨d.pJ,5,d.sJ,z14,d.sX,d.aJ,z3,Ag u,d.wK,d.uJ,d.eJ⟩:Dcd) 9 d.aJ)),vO 4]) (.dK:: .dK::Ls (Ba (⟨d.pJ,5,d.sJ,z14,d.sX,d.aJ,z3,Ag u,d.wK,d.uJ,d.eJ⟩:Dcd) 9 d.aJ) [As 9 d.aJ]))∧Lf (.tup [.agg (Af 0 1 (Ba (⟨d.pJ,5,d.sJ,z14,d.sX,d.aJ,z3,Ag u,d.wK,d.uJ,d.eJ⟩:Dcd) 9 d.aJ)),vO 2]) z12 (Ls (Ba (⟨d.pJ,5,d.sJ,z14,d.sX,d.aJ,z3,Ag u,d.wK,d.uJ,d.eJ⟩:Dcd) 9 d.aJ) [As 9 d.aJ]) z13) (Lf (.tup [.agg (.own 0::zi d.pJ.rJ::zi d.pJ.dJ::zi d.pJ.most::zi 5:: .own 1:: .int .u64 0::zi 0::zi d.sX::zi d.aJ::zi z3.nJ::zi z3.kind:: .bool z3.rep:: .bool z3.packed::zi z3.mK::zi z15::z8),vO 2]) z12 z23 z13)))))))))) Q4 ?_
 refine⟨(Lr d Q2 (Dx hpt.2.1) Q2),(Vn d Q2 Q2),(by simp[hp1]),(Aj1 _ Q2),fun h1=>have q1:=Ao h1;?_,fun h1=>have q1:=An h1;?_⟩
 exact zD ((Ew ⟨d,[]⟩ u).d) (Ba (⟨d.pJ,d.mJ,d.sJ,(⟨0,0⟩:Scn),d.sX,d.aJ,d.field,d.wJ,d.wK,d.uJ,d.eJ⟩:Dcd) 2 d.sX) ((Ew ⟨d,[]⟩ u).oJ) [As 2 d.sX] (fun hm1 hm2=>⟨(De (⟨d.pJ,d.mJ,d.sJ,(⟨0,0⟩:Scn),d.sX,d.aJ,d.field,d.wJ,d.wK,d.uJ,d.eJ⟩:Dcd) _ _),Q5,Q9⟩) W54 W54
 refine dsp (fun h2 p2=>?_) fun h2 p2=>?_
 exact zD ((Ew ⟨d,[]⟩ u).d) (Ba (⟨d.pJ,d.mJ,d.sJ,(⟨0,0⟩:Scn),d.sX,d.aJ,d.field,d.wJ,d.wK,d.uJ,d.eJ⟩:Dcd) 2 d.sX) ((Ew ⟨d,[]⟩ u).oJ) [As 2 d.sX] (fun hm1 hm2=>⟨(De (⟨d.pJ,d.mJ,d.sJ,(⟨0,0⟩:Scn),d.sX,d.aJ,d.field,d.wJ,d.wK,d.uJ,d.eJ⟩:Dcd) _ _),Q5,Q9⟩) W54 W54
 refine⟨(Bo (l:=d.sJ) (i:=Int.toNat (((d.sJ.length:Nat):Int)-1)) Q2),fun x1 hx1=>?_⟩
 have hll:=Kv (d:=d) (by rw[←hx1];congr 1;omega)
 have hix:Int.toNat ((d.sJ.length:Int)-1)=d.sJ.length-1:=by omega
 refine⟨(Ad Q2 Q2),(Ad Q2 Q2),hx1,Q2,hx1,Q2,(Uk d.pJ.sQ _ _ Q2 (D1 hpt.2.1)),(Uk d.pJ.sQ _ _ Q2 (D1 hpt.2.1)),rfl,rfl,(Abx _),fun h3=>have q3:=Ao h3;?_,fun h3=>have q3:=An h3;?_⟩
 exact zD ((Ew ⟨d,[]⟩ u).d) (Ba (⟨d.pJ,d.mJ,d.sJ,(⟨0,0⟩:Scn),d.sX,d.aJ,d.field,d.wJ,d.wK,d.uJ,d.eJ⟩:Dcd) 3 d.sX) ((Ew ⟨d,[]⟩ u).oJ) [As 3 d.sX] (fun hm1 hm2=>⟨(De (⟨d.pJ,d.mJ,d.sJ,(⟨0,0⟩:Scn),d.sX,d.aJ,d.field,d.wJ,d.wK,d.uJ,d.eJ⟩:Dcd) _ _),Q5,Q9⟩) W54 W54
 refine⟨fun h4=>?_,fun h4=>?_⟩
 refine⟨(Yo ((fieldAt d.pJ.sQ x1.mK (A8 u)).getD fld0) _ Q2),fun h5=>have q5:=Ao h5;?_,fun h5=>have q5:=An h5;?_⟩
 exact zD ((Ew ⟨d,[]⟩ u).d) (Ba (⟨d.pJ,d.mJ,d.sJ,(⟨0,0⟩:Scn),d.sX,d.aJ,d.field,d.wJ,d.wK,d.uJ,d.eJ⟩:Dcd) 4 d.sX) ((Ew ⟨d,[]⟩ u).oJ) [As 4 d.sX] (fun hm1 hm2=>⟨(De (⟨d.pJ,d.mJ,d.sJ,(⟨0,0⟩:Scn),d.sX,d.aJ,d.field,d.wJ,d.wK,d.uJ,d.eJ⟩:Dcd) _ _),Q5,Q9⟩) W54 W54
 refine dsp (fun h6 p6=>?_) fun h6 p6=>?_
 refine⟨(Ad Q2 Q2),hx1,Q2,dsp (fun h7 p7=>?_) fun h7 p7=>?_⟩
 exact zD ((Ew ⟨d,[]⟩ u).d) (Ba (⟨d.pJ,3,d.sJ,(⟨0,0⟩:Scn),d.sX,d.aJ,((fieldAt d.pJ.sQ x1.mK (A8 u)).getD fld0),Ag u,d.wK,d.uJ,d.eJ⟩:Dcd) 9 d.aJ) ((Ew ⟨d,[]⟩ u).oJ) [As 9 d.aJ] (fun hm1 hm2=>⟨(De (⟨d.pJ,3,d.sJ,(⟨0,0⟩:Scn),d.sX,d.aJ,((fieldAt d.pJ.sQ x1.mK (A8 u)).getD fld0),Ag u,d.wK,d.uJ,d.eJ⟩:Dcd) _ _),Q5,Q9⟩) W54 W54
 exact zD ((Ew ⟨d,[]⟩ u).d) (⟨d.pJ,3,d.sJ,(⟨0,0⟩:Scn),d.sX,d.aJ,((fieldAt d.pJ.sQ x1.mK (A8 u)).getD fld0),Ag u,d.wK,d.uJ,d.eJ⟩:Dcd) ((Ew ⟨d,[]⟩ u).oJ) ([]:List Ev) (fun hm1 hm2=>⟨Q5,Q9⟩) W54 W54
 refine dsp (fun h7 p7=>?_) fun h7 p7=>?_
 refine⟨(Ad Q2 Q2),hx1,Q2,dsp (fun h8 p8=>?_) fun h8 p8=>?_⟩
 exact zD ((Ew ⟨d,[]⟩ u).d) (Ba (⟨d.pJ,4,d.sJ,(⟨0,0⟩:Scn),d.sX,d.aJ,((fieldAt d.pJ.sQ x1.mK (A8 u)).getD fld0),Ag u,d.wK,d.uJ,d.eJ⟩:Dcd) 9 d.aJ) ((Ew ⟨d,[]⟩ u).oJ) [As 9 d.aJ] (fun hm1 hm2=>⟨(De (⟨d.pJ,4,d.sJ,(⟨0,0⟩:Scn),d.sX,d.aJ,((fieldAt d.pJ.sQ x1.mK (A8 u)).getD fld0),Ag u,d.wK,d.uJ,d.eJ⟩:Dcd) _ _),Q5,Q9⟩) W54 W54
 exact zD ((Ew ⟨d,[]⟩ u).d) (⟨d.pJ,4,d.sJ,(⟨0,0⟩:Scn),d.sX,d.aJ,((fieldAt d.pJ.sQ x1.mK (A8 u)).getD fld0),Ag u,d.wK,d.uJ,d.eJ⟩:Dcd) ((Ew ⟨d,[]⟩ u).oJ) ([]:List Ev) (fun hm1 hm2=>⟨Q5,Q9⟩) W54 W54
 refine⟨(D9 _),(Ad Q2 Q2),hx1,Q2,dsp (fun h8 p8=>?_) fun h8 p8=>?_⟩
 exact zD ((Ew ⟨d,[]⟩ u).d) (Ba (⟨d.pJ,5,d.sJ,(⟨0,0⟩:Scn),d.sX,d.aJ,((fieldAt d.pJ.sQ x1.mK (A8 u)).getD fld0),Ag u,d.wK,d.uJ,d.eJ⟩:Dcd) 9 d.aJ) ((Ew ⟨d,[]⟩ u).oJ) [As 9 d.aJ] (fun hm1 hm2=>⟨(De (⟨d.pJ,5,d.sJ,(⟨0,0⟩:Scn),d.sX,d.aJ,((fieldAt d.pJ.sQ x1.mK (A8 u)).getD fld0),Ag u,d.wK,d.uJ,d.eJ⟩:Dcd) _ _),Q5,Q9⟩) W54 W54
 exact zD ((Ew ⟨d,[]⟩ u).d) (⟨d.pJ,5,d.sJ,(⟨0,0⟩:Scn),d.sX,d.aJ,((fieldAt d.pJ.sQ x1.mK (A8 u)).getD fld0),Ag u,d.wK,d.uJ,d.eJ⟩:Dcd) ((Ew ⟨d,[]⟩ u).oJ) ([]:List Ev) (fun hm1 hm2=>⟨Q5,Q9⟩) W54 W54
 refine dsp (fun h5 p5=>?_) fun h5 p5=>?_
 refine⟨(Ad Q2 Q2),hx1,Q2,dsp (fun h6 p6=>?_) fun h6 p6=>?_⟩
 exact zD ((Ew ⟨d,[]⟩ u).d) (Ba (⟨d.pJ,3,d.sJ,(⟨0,0⟩:Scn),d.sX,d.aJ,((fieldAt d.pJ.sQ x1.mK (A8 u)).getD fld0),Ag u,d.wK,d.uJ,d.eJ⟩:Dcd) 9 d.aJ) ((Ew ⟨d,[]⟩ u).oJ) [As 9 d.aJ] (fun hm1 hm2=>⟨(De (⟨d.pJ,3,d.sJ,(⟨0,0⟩:Scn),d.sX,d.aJ,((fieldAt d.pJ.sQ x1.mK (A8 u)).getD fld0),Ag u,d.wK,d.uJ,d.eJ⟩:Dcd) _ _),Q5,Q9⟩) W54 W54
 exact zD ((Ew ⟨d,[]⟩ u).d) (⟨d.pJ,3,d.sJ,(⟨0,0⟩:Scn),d.sX,d.aJ,((fieldAt d.pJ.sQ x1.mK (A8 u)).getD fld0),Ag u,d.wK,d.uJ,d.eJ⟩:Dcd) ((Ew ⟨d,[]⟩ u).oJ) ([]:List Ev) (fun hm1 hm2=>⟨Q5,Q9⟩) W54 W54
 refine dsp (fun h6 p6=>?_) fun h6 p6=>?_
 refine⟨(Ad Q2 Q2),hx1,Q2,dsp (fun h7 p7=>?_) fun h7 p7=>?_⟩
 exact zD ((Ew ⟨d,[]⟩ u).d) (Ba (⟨d.pJ,4,d.sJ,(⟨0,0⟩:Scn),d.sX,d.aJ,((fieldAt d.pJ.sQ x1.mK (A8 u)).getD fld0),Ag u,d.wK,d.uJ,d.eJ⟩:Dcd) 9 d.aJ) ((Ew ⟨d,[]⟩ u).oJ) [As 9 d.aJ] (fun hm1 hm2=>⟨(De (⟨d.pJ,4,d.sJ,(⟨0,0⟩:Scn),d.sX,d.aJ,((fieldAt d.pJ.sQ x1.mK (A8 u)).getD fld0),Ag u,d.wK,d.uJ,d.eJ⟩:Dcd) _ _),Q5,Q9⟩) W54 W54
 exact zD ((Ew ⟨d,[]⟩ u).d) (⟨d.pJ,4,d.sJ,(⟨0,0⟩:Scn),d.sX,d.aJ,((fieldAt d.pJ.sQ x1.mK (A8 u)).getD fld0),Ag u,d.wK,d.uJ,d.eJ⟩:Dcd) ((Ew ⟨d,[]⟩ u).oJ) ([]:List Ev) (fun hm1 hm2=>⟨Q5,Q9⟩) W54 W54
 refine⟨(D9 _),(Ad Q2 Q2),hx1,Q2,dsp (fun h7 p7=>?_) fun h7 p7=>?_⟩
 exact zD ((Ew ⟨d,[]⟩ u).d) (Ba (⟨d.pJ,5,d.sJ,(⟨0,0⟩:Scn),d.sX,d.aJ,((fieldAt d.pJ.sQ x1.mK (A8 u)).getD fld0),Ag u,d.wK,d.uJ,d.eJ⟩:Dcd) 9 d.aJ) ((Ew ⟨d,[]⟩ u).oJ) [As 9 d.aJ] (fun hm1 hm2=>⟨(De (⟨d.pJ,5,d.sJ,(⟨0,0⟩:Scn),d.sX,d.aJ,((fieldAt d.pJ.sQ x1.mK (A8 u)).getD fld0),Ag u,d.wK,d.uJ,d.eJ⟩:Dcd) _ _),Q5,Q9⟩) W54 W54
 exact zD ((Ew ⟨d,[]⟩ u).d) (⟨d.pJ,5,d.sJ,(⟨0,0⟩:Scn),d.sX,d.aJ,((fieldAt d.pJ.sQ x1.mK (A8 u)).getD fld0),Ag u,d.wK,d.uJ,d.eJ⟩:Dcd) ((Ew ⟨d,[]⟩ u).oJ) ([]:List Ev) (fun hm1 hm2=>⟨Q5,Q9⟩) W54 W54
set_option maxHeartbeats 1600000 in
theorem Ap4 (d:Dcd) (u:Int) (hp1:Bn d=true) (hp2:(0:Int)≤u∧u≤18446744073709551615) (hp3:((d).field=fld0∨known (d).pJ.sQ (d).field=true)):Fun Tryz.prog 139 [.agg (B9 d),.c (.int .u64 u)] [] (.tup [.agg (Af 0 1 (Cu ⟨d,[]⟩ u).d),vO 2]) [.tree (Cu ⟨d,[]⟩ u).d.pJ.sQ,.lst .lev (Cu ⟨d,[]⟩ u).d.sJ,.lst .ev (Cu ⟨d,[]⟩ u).oJ]:=by
 have hN:Bh=274877906944:=rfl
 have hlv:=Cm hp1
 have hpt:=By hlv.1
 have htb:=Jn hp1
 have hwb:=Dv (Be d.field.kind)
 refine Ar Tryz.func139 Q4 Q4 (w:=let zi:Int→C:= .int .i64;let z6:List C:=[zi d.eJ.kind,zi d.eJ.field,.int .u64 d.eJ.bits,zi d.eJ.len,.str d.eJ.text,zi d.eJ.code,zi d.eJ.aJ];let z5:List C:= .own 1:: .int .u64 0::zi 0::zi d.sX::zi d.aJ::zi d.field.nJ::zi d.field.kind:: .bool d.field.rep:: .bool d.field.packed::zi d.field.mK::zi d.wJ::zi u::zi d.uJ.wK::zi d.uJ.low::zi d.uJ.high::z6;let z7:List C:=[zi d.field.nJ,.int .u64 0,zi u,.str [],zi 0,zi 0];let z13:=((d.sJ.length:Nat):Int);let z14:S:= .tup [.agg (Af 0 1 (Cu ⟨d,[]⟩ u).d),vO 2];let z15:=Ls (Cu ⟨d,[]⟩ u).d (Cu ⟨d,[]⟩ u).oJ;let z23:=Be d.field.kind;let z24:=(⟨6,d.field.nJ,0,u,[],0,0⟩:Ev);let z27:=(0:Int)≤z13-1;let z28:=(⟨0,0⟩:Scn);let z8:=(⟨d.pJ,8,d.sJ,z28,d.sX,d.aJ,d.field,d.wJ,u,d.uJ,d.eJ⟩:Dcd);let z9:=Ae ⟨(⟨d.pJ,6,d.sJ,z28,d.sX,d.aJ,d.field,d.wJ,u,(⟨0,0,0⟩:Utf),d.eJ⟩:Dcd),[]⟩;let z10:=Ba (⟨d.pJ,d.mJ,d.sJ,z28,d.sX,d.aJ,d.field,d.wJ,d.wK,d.uJ,d.eJ⟩:Dcd) 8 d.sX;let z11:=Ae ⟨(⟨d.pJ,7,d.sJ,z28,d.sX,d.aJ,d.field,d.wJ,u,d.uJ,d.eJ⟩:Dcd),[]⟩;let z12:=Ba (⟨d.pJ,d.mJ,d.sJ,z28,d.sX,d.aJ,d.field,d.wJ,u,d.uJ,d.eJ⟩:Dcd) 6 d.sX;let z16:=(⟨3,d.field.nJ,0,u,[],0,0⟩:Ev)::z9.oJ;let z17:=Ae ⟨z8,[]⟩;let z18:List Blk:= .dK:: .dK::Ls z10 [As 8 d.sX];let z19:S:= .tup [.agg (Af 2 3 z17.d),vO 4];let z20:S:= .tup [.agg (Af 2 3 z9.d),vO 4];let z21:S:= .tup [.agg (Af 2 3 z10),vO 4];let z22:List Blk:= .dK:: .dK::Ls z17.d z17.oJ;let z25:List Blk:= .dK:: .dK::Ls z9.d z16;let z26:=Ba z8 9 d.aJ;let z29:=(⟨d.field.mK,u⟩:Lev);let z30:S:= .tup [.agg (Af 2 3 z11.d),vO 4];let z31:S:= .tup [.agg (Af 0 1 z17.d),vO 2];let z32:List Blk:= .dK:: .dK::Ls z12 [As 6 d.sX];let z33:S:= .tup [.agg (Af 0 1 z9.d),vO 2];let z34:S:= .tup [.agg (Af 2 3 z12),vO 4];let z35:S:= .tup [.agg (Af 2 3 z26),vO 4];let z36:S:= .tup [.agg (Af 0 1 z10),vO 2];let z37:List Blk:= .dK:: .dK::Ls z26 [As 9 d.aJ];(.sZ [.call [] (.v (.agg (Af 0 1 d))) (L2 d),.call [] (.v (vB (Bn d))) [],.br false,.as 22 (.v (vI (z13-1)))] (.br (.sZ [.call [2,3] z21 z18] (.lJ () [5,6,7])) (.intro (Sx (d.sJ[Int.toNat (z13-1)]?)) fun x1=>let z1:=Ae ⟨(⟨d.pJ,2,(List.set d.sJ (Int.toNat (z13-1)) (⟨x1.mK,x1.left-u⟩:Lev))++[z29],z28,d.sX,d.aJ,d.field,d.wJ,0,d.uJ,d.eJ⟩:Dcd),[]⟩;.sZ [.el .lev x1,.as 33 (.v (.c (.int .u64 x1.left)))] (.br (.sZ [.call [2,3] z21 z18] (.lJ () [5,6,7])) (.sZ [.as 45 (.v (vI u))] (.br (.sZ [.call [2,3] z30 (.dK:: .dK::Ls z11.d z11.oJ)] (.lJ () [6,7,8])) (.br (.br (.sZ [.call [2,3] z34 z32] (.lJ () [6,7,8])) (.sZ [.ord (os 14 [13]) [],.el .lev x1,.as 84 (.v (vI (x1.left-u))),.el .lev x1,.ty .lev,.ty .lev,.call [2,7] (.tup [.agg (Af 2 3 z1.d),vO 4]) (.dK:: .dK::Ls z1.d (z24::z1.oJ))] (.lJ () [8,9,10]))) (.br (.sZ [.call [2,3] z20 z25] (.lJ () [6,7,8])) (.br (.sZ [.call [2,3] z20 z25] (.lJ () [6,7,8])) (.br (.sZ [.call [] (.v (vI z23)) [],.call [] (.v (vI (Aq z23))) []] (.br (.sZ [.call [2,3] z35 z37] (.lJ () [6,7,8])) (.sZ [.call [2,3] z19 z22] (.lJ () [6,7,8])))) (.sZ [.call [2,3] z19 z22] (.lJ () [6,7,8]))))))))))),(Fp 59 [.agg (B9 d)] [] (.v (.agg (Af 0 1 d))) (L2 d))∧(Fp 190 [.agg (B9 d)] [] (.v (vB (Bn d))) [])∧((!(Bn d))=false)∧(wI (z13-1))∧Bc (decide (z13-1<0)) ((Fp 64 [.agg (.own 0::zi d.pJ.rJ::zi d.pJ.dJ::zi d.pJ.most::zi d.mJ:: .own 1:: .int .u64 0::zi 0::zi d.sX::zi d.aJ::zi d.field.nJ::zi d.field.kind:: .bool d.field.rep:: .bool d.field.packed::zi d.field.mK::zi d.wJ::zi d.wK::zi d.uJ.wK::zi d.uJ.low::zi d.uJ.high::z6),vI 8,vI d.sX] (L2 d) z21 z18)∧Lf z36 z14 (Ls z10 [As 8 d.sX]) z15) (El (d.sJ[Int.toNat (z13-1)]?) fun x1=>(let z3:=d.sJ[Int.toNat (z13-1)]? =some x1;let z4:=List.set d.sJ (Int.toNat (z13-1)) (⟨x1.mK,x1.left-u⟩:Lev);let z2:=Ae ⟨(⟨d.pJ,2,z4++[z29],z28,d.sX,d.aJ,d.field,d.wJ,0,d.uJ,d.eJ⟩:Dcd),[]⟩;z3∧z27∧(wU (x1.left))∧Bc (decide (x1.left<u)) ((Fp 64 [.agg (.own 0::zi d.pJ.rJ::zi d.pJ.dJ::zi d.pJ.most::zi d.mJ:: .own 1:: .int .u64 0::zi 0::zi d.sX::zi d.aJ::zi d.field.nJ::zi d.field.kind:: .bool d.field.rep:: .bool d.field.packed::zi d.field.mK::zi d.wJ::zi d.wK::zi d.uJ.wK::zi d.uJ.low::zi d.uJ.high::z6),vI 8,vI d.sX] (L2 d) z21 z18)∧Lf z36 z14 (Ls z10 [As 8 d.sX]) z15) ((wI (u))∧Bc (decide (d.field.nJ=0)&&(decide (d.field.kind=0)&&(decide (d.field.rep=false)&&(decide (d.field.packed=false)&&decide (d.field.mK=0))))) ((Fp 62 [.agg (.own 0::zi d.pJ.rJ::zi d.pJ.dJ::zi d.pJ.most::zi 7::z5)] (L2 d) z30 (.dK:: .dK::Ls z11.d z11.oJ))∧Lf (.tup [.agg (Af 0 1 z11.d),vO 2]) z14 (Ls z11.d z11.oJ) z15) (Bc (decide (d.field.kind=8)) (Bc (decide (d.pJ.dJ≤z13)) ((Fp 64 [.agg (.own 0::zi d.pJ.rJ::zi d.pJ.dJ::zi d.pJ.most::zi d.mJ::z5),vI 6,vI d.sX] (L2 d) z34 z32)∧Lf (.tup [.agg (Af 0 1 z12),vO 2]) z14 (Ls z12 [As 6 d.sX]) z15) (z3∧z27∧z3∧z27∧(wI (x1.left-u))∧(wI (x1.left-u))∧(z13-1<z13)∧z27∧(z13-1<z13)∧z27∧z3∧(z4.length+List.length [z29]≤Bh)∧(Fp 65 [.agg (.own 0::zi d.pJ.rJ::zi d.pJ.dJ::zi d.pJ.most::zi 2:: .own 1:: .int .u64 0::zi 0::zi d.sX::zi d.aJ::zi d.field.nJ::zi d.field.kind:: .bool d.field.rep:: .bool d.field.packed::zi d.field.mK::zi d.wJ::zi 0::zi d.uJ.wK::zi d.uJ.low::zi d.uJ.high::z6),.agg (zi 6::z7)] [.tree d.pJ.sQ,.lst .lev (z4++[z29])] (.tup [.agg (Af 2 3 z2.d),vO 4]) (.dK:: .dK::Ls z2.d (z24::z2.oJ)))∧Lf (.tup [.agg (Af 0 1 z2.d),vO 2]) z14 (Ls z2.d (z24::z2.oJ)) z15)) (Bc (decide (d.field.kind=6)) ((Fp 65 [.agg (.own 0::zi d.pJ.rJ::zi d.pJ.dJ::zi d.pJ.most::zi 6:: .own 1:: .int .u64 0::zi 0::zi d.sX::zi d.aJ::zi d.field.nJ::zi d.field.kind:: .bool d.field.rep:: .bool d.field.packed::zi d.field.mK::zi d.wJ::zi u::zi 0::zi 0::zi 0::z6),.agg (zi 3::z7)] (L2 d) z20 z25)∧Lf z33 z14 (Ls z9.d z16) z15) (Bc (decide (d.field.kind=7)) ((Fp 65 [.agg (.own 0::zi d.pJ.rJ::zi d.pJ.dJ::zi d.pJ.most::zi 6:: .own 1:: .int .u64 0::zi 0::zi d.sX::zi d.aJ::zi d.field.nJ::zi d.field.kind:: .bool d.field.rep:: .bool d.field.packed::zi d.field.mK::zi d.wJ::zi u::zi 0::zi 0::zi 0::z6),.agg (zi 3::z7)] (L2 d) z20 z25)∧Lf z33 z14 (Ls z9.d z16) z15) (Bc (decide (0<u)) ((Fp 131 [vI d.field.kind] [] (.v (vI z23)) [])∧(Fp 127 [vI z23] [] (.v (vI (Aq z23))) [])∧Bc (decide (u<Aq z23)) ((Fp 64 [.agg (.own 0::zi d.pJ.rJ::zi d.pJ.dJ::zi d.pJ.most::zi 8::z5),vI 9,vI d.aJ] (L2 d) z35 z37)∧Lf (.tup [.agg (Af 0 1 z26),vO 2]) z14 (Ls z26 [As 9 d.aJ]) z15) ((Fp 62 [.agg (.own 0::zi d.pJ.rJ::zi d.pJ.dJ::zi d.pJ.most::zi 8::z5)] (L2 d) z19 z22)∧Lf z31 z14 (Ls z17.d z17.oJ) z15)) ((Fp 62 [.agg (.own 0::zi d.pJ.rJ::zi d.pJ.dJ::zi d.pJ.most::zi 8::z5)] (L2 d) z19 z22)∧Lf z31 z14 (Ls z17.d z17.oJ) z15)))))))))) Q4 ?_
 refine⟨(Lr d Q2 (Dx hpt.2.1) Q2),(Vn d Q2 Q2),(by simp[hp1]),(Ad Q2 Q2),dsp (fun h1 p1=>?_) fun h1 p1=>?_⟩
 exact zD ((Cu ⟨d,[]⟩ u).d) (Ba (⟨d.pJ,d.mJ,d.sJ,(⟨0,0⟩:Scn),d.sX,d.aJ,d.field,d.wJ,d.wK,d.uJ,d.eJ⟩:Dcd) 8 d.sX) ((Cu ⟨d,[]⟩ u).oJ) [As 8 d.sX] (fun hm1 hm2=>⟨(De (⟨d.pJ,d.mJ,d.sJ,(⟨0,0⟩:Scn),d.sX,d.aJ,d.field,d.wJ,d.wK,d.uJ,d.eJ⟩:Dcd) _ _),Q5,Q9⟩) W55 W55
 refine⟨(Bo (l:=d.sJ) (i:=Int.toNat (((d.sJ.length:Nat):Int)-1)) Q2),fun x1 hx1=>?_⟩
 have hll:=Kv (d:=d) (by rw[←hx1];congr 1;omega)
 have hix:Int.toNat ((d.sJ.length:Int)-1)=d.sJ.length-1:=by omega
 refine⟨hx1,Q2,(Bu Q2 Q2),dsp (fun h2 p2=>?_) fun h2 p2=>?_⟩
 exact zD ((Cu ⟨d,[]⟩ u).d) (Ba (⟨d.pJ,d.mJ,d.sJ,(⟨0,0⟩:Scn),d.sX,d.aJ,d.field,d.wJ,d.wK,d.uJ,d.eJ⟩:Dcd) 8 d.sX) ((Cu ⟨d,[]⟩ u).oJ) [As 8 d.sX] (fun hm1 hm2=>⟨(De (⟨d.pJ,d.mJ,d.sJ,(⟨0,0⟩:Scn),d.sX,d.aJ,d.field,d.wJ,d.wK,d.uJ,d.eJ⟩:Dcd) _ _),Q5,Q9⟩) W55 W55
 refine⟨(Ad Q2 Q2),fun h3=>have p3:=(C9 dT (C9 dT (C9 dT (C9 dT dT)))).1 h3;?_,fun h3=>have p3:=(Da dT (Da dT (Da dT (Da dT dF)))).1 h3;?_⟩
 exact zM Mac.d Mac.oJ (Cu ⟨d,[]⟩ u) (Ae ⟨(⟨d.pJ,7,d.sJ,(⟨0,0⟩:Scn),d.sX,d.aJ,d.field,d.wJ,u,d.uJ,d.eJ⟩:Dcd),[]⟩) (fun hm1 hm2=>⟨(J3 (⟨d.pJ,7,d.sJ,(⟨0,0⟩:Scn),d.sX,d.aJ,d.field,d.wJ,u,d.uJ,d.eJ⟩:Dcd) Q7),Q5,Q9⟩) W55 W55
 refine dsp (fun h4 p4=>?_) fun h4 p4=>?_
 refine dsp (fun h5 p5=>?_) fun h5 p5=>?_
 exact zD ((Cu ⟨d,[]⟩ u).d) (Ba (⟨d.pJ,d.mJ,d.sJ,(⟨0,0⟩:Scn),d.sX,d.aJ,d.field,d.wJ,u,d.uJ,d.eJ⟩:Dcd) 6 d.sX) ((Cu ⟨d,[]⟩ u).oJ) [As 6 d.sX] (fun hm1 hm2=>⟨(De (⟨d.pJ,d.mJ,d.sJ,(⟨0,0⟩:Scn),d.sX,d.aJ,d.field,d.wJ,u,d.uJ,d.eJ⟩:Dcd) _ _),Q5,Q9⟩) W55 W55
 exact zD ((Cu ⟨d,[]⟩ u).d) ((Ae ⟨(⟨d.pJ,2,(List.set d.sJ (Int.toNat (((d.sJ.length:Nat):Int)-1)) (⟨x1.mK,x1.left-u⟩:Lev))++[(⟨d.field.mK,u⟩:Lev)],(⟨0,0⟩:Scn),d.sX,d.aJ,d.field,d.wJ,0,d.uJ,d.eJ⟩:Dcd),[]⟩).d) ((Cu ⟨d,[]⟩ u).oJ) ((⟨6,d.field.nJ,0,u,[],0,0⟩:Ev)::(Ae ⟨(⟨d.pJ,2,(List.set d.sJ (Int.toNat (((d.sJ.length:Nat):Int)-1)) (⟨x1.mK,x1.left-u⟩:Lev))++[(⟨d.field.mK,u⟩:Lev)],(⟨0,0⟩:Scn),d.sX,d.aJ,d.field,d.wJ,0,d.uJ,d.eJ⟩:Dcd),[]⟩).oJ) (fun hm1 hm2=>⟨hx1,Q2,hx1,Q2,(Ad Q2 Q2),(Ad Q2 Q2),Q2,Q2,Q2,Q2,hx1,Q76,(J4 (⟨d.pJ,2,(List.set d.sJ (Int.toNat (((d.sJ.length:Nat):Int)-1)) (⟨x1.mK,x1.left-u⟩:Lev))++[(⟨d.field.mK,u⟩:Lev)],(⟨0,0⟩:Scn),d.sX,d.aJ,d.field,d.wJ,0,d.uJ,d.eJ⟩:Dcd) (⟨6,d.field.nJ,0,u,[],0,0⟩:Ev) Q16),Q5,Q9⟩) W55 W55
 refine dsp (fun h5 p5=>?_) fun h5 p5=>?_
 exact zD ((Cu ⟨d,[]⟩ u).d) ((Ae ⟨(⟨d.pJ,6,d.sJ,(⟨0,0⟩:Scn),d.sX,d.aJ,d.field,d.wJ,u,(⟨0,0,0⟩:Utf),d.eJ⟩:Dcd),[]⟩).d) ((Cu ⟨d,[]⟩ u).oJ) ((⟨3,d.field.nJ,0,u,[],0,0⟩:Ev)::(Ae ⟨(⟨d.pJ,6,d.sJ,(⟨0,0⟩:Scn),d.sX,d.aJ,d.field,d.wJ,u,(⟨0,0,0⟩:Utf),d.eJ⟩:Dcd),[]⟩).oJ) (fun hm1 hm2=>⟨(J4 (⟨d.pJ,6,d.sJ,(⟨0,0⟩:Scn),d.sX,d.aJ,d.field,d.wJ,u,(⟨0,0,0⟩:Utf),d.eJ⟩:Dcd) (⟨3,d.field.nJ,0,u,[],0,0⟩:Ev) Q7),Q5,Q9⟩) W55 W55
 refine dsp (fun h6 p6=>?_) fun h6 p6=>?_
 exact zD ((Cu ⟨d,[]⟩ u).d) ((Ae ⟨(⟨d.pJ,6,d.sJ,(⟨0,0⟩:Scn),d.sX,d.aJ,d.field,d.wJ,u,(⟨0,0,0⟩:Utf),d.eJ⟩:Dcd),[]⟩).d) ((Cu ⟨d,[]⟩ u).oJ) ((⟨3,d.field.nJ,0,u,[],0,0⟩:Ev)::(Ae ⟨(⟨d.pJ,6,d.sJ,(⟨0,0⟩:Scn),d.sX,d.aJ,d.field,d.wJ,u,(⟨0,0,0⟩:Utf),d.eJ⟩:Dcd),[]⟩).oJ) (fun hm1 hm2=>⟨(J4 (⟨d.pJ,6,d.sJ,(⟨0,0⟩:Scn),d.sX,d.aJ,d.field,d.wJ,u,(⟨0,0,0⟩:Utf),d.eJ⟩:Dcd) (⟨3,d.field.nJ,0,u,[],0,0⟩:Ev) Q7),Q5,Q9⟩) W55 W55
 refine dsp (fun h7 p7=>?_) fun h7 p7=>?_
 refine⟨(Pp _),(D9 _),dsp (fun h8 p8=>?_) fun h8 p8=>?_⟩
 exact zD ((Cu ⟨d,[]⟩ u).d) (Ba (⟨d.pJ,8,d.sJ,(⟨0,0⟩:Scn),d.sX,d.aJ,d.field,d.wJ,u,d.uJ,d.eJ⟩:Dcd) 9 d.aJ) ((Cu ⟨d,[]⟩ u).oJ) [As 9 d.aJ] (fun hm1 hm2=>⟨(De (⟨d.pJ,8,d.sJ,(⟨0,0⟩:Scn),d.sX,d.aJ,d.field,d.wJ,u,d.uJ,d.eJ⟩:Dcd) _ _),Q5,Q9⟩) W55 W55
 exact zM Mac.d Mac.oJ (Cu ⟨d,[]⟩ u) (Ae ⟨(⟨d.pJ,8,d.sJ,(⟨0,0⟩:Scn),d.sX,d.aJ,d.field,d.wJ,u,d.uJ,d.eJ⟩:Dcd),[]⟩) (fun hm1 hm2=>⟨(J3 (⟨d.pJ,8,d.sJ,(⟨0,0⟩:Scn),d.sX,d.aJ,d.field,d.wJ,u,d.uJ,d.eJ⟩:Dcd) Q7),Q5,Q9⟩) W55 W55
 exact zM Mac.d Mac.oJ (Cu ⟨d,[]⟩ u) (Ae ⟨(⟨d.pJ,8,d.sJ,(⟨0,0⟩:Scn),d.sX,d.aJ,d.field,d.wJ,u,d.uJ,d.eJ⟩:Dcd),[]⟩) (fun hm1 hm2=>⟨(J3 (⟨d.pJ,8,d.sJ,(⟨0,0⟩:Scn),d.sX,d.aJ,d.field,d.wJ,u,d.uJ,d.eJ⟩:Dcd) Q7),Q5,Q9⟩) W55 W55
theorem Yv (d:Dcd) (u:Int) (hp1:List.length (d).sJ≤1000) (hp2:(0:Int)≤u∧u≤18446744073709551615):Fun Tryz.prog 135 [.agg (Af 0 1 d),.c (.int .u64 u)] [.tree d.pJ.sQ,.lst .lev d.sJ] (.tup [.agg (Af 2 3 (Ae (Bv ⟨d,[]⟩ u)).d),vO 4]) [.dK,.dK,.tree (Ae (Bv ⟨d,[]⟩ u)).d.pJ.sQ,.lst .lev (Ae (Bv ⟨d,[]⟩ u)).d.sJ,.lst .ev (Ae (Bv ⟨d,[]⟩ u)).oJ]:=by
 have hN:Bh=274877906944:=rfl
 refine Ar Tryz.func135 Q4 Q4 (w:=let zi:Int→C:= .int .i64;let z1:List C:=[.own 0,zi d.pJ.rJ,zi d.pJ.dJ,zi d.pJ.most,zi 2,.own 1,.int .u64 d.sK.bits,zi d.sK.hJ,zi d.sX,zi d.aJ,zi d.field.nJ,zi d.field.kind,.bool d.field.rep,.bool d.field.packed,zi d.field.mK,zi d.wJ,zi d.wK,zi d.uJ.wK,zi d.uJ.low,zi d.uJ.high,zi d.eJ.kind,zi d.eJ.field,.int .u64 d.eJ.bits,zi d.eJ.len,.str d.eJ.text,zi d.eJ.code,zi d.eJ.aJ];let z2:=Ae ⟨(⟨d.pJ,2,d.sJ,d.sK,d.sX,d.aJ,d.field,d.wJ,d.wK,d.uJ,d.eJ⟩:Dcd),[]⟩;let z3:=Ae (Bv ⟨d,[]⟩ u);let z5:S:= .tup [.agg (Af 2 3 z2.d),vO 4];let z6:=Ae ⟨d,[]⟩;let z4:S:= .tup [.agg (Af 2 3 z6.d),vO 4];let z7:=decide (d.field.nJ=0)&&(decide (d.field.kind=0)&&(decide (d.field.rep=false)&&(decide (d.field.packed=false)&&decide (d.field.mK=0))));let z8:=Er d.field u;let z9:S:= .tup [.agg (Af 2 3 z3.d),vO 4];let z10:List Blk:= .dK:: .dK::Ls z3.d z3.oJ;let z11:=fr (.one 4 (.one 5 (.first 6 (.first 7 (.one 8 (.first 9 (.done))))))) 0 4;let z12:List Blk:= .dK:: .dK::Ls z2.d (z8::z2.oJ);let z13:List Blk:= .dK:: .dK::Ls z6.d (z8::z6.oJ);let z14:List Blk:= .dK:: .dK::Ls z2.d z2.oJ;let z15:List Blk:= .dK:: .dK::Ls z6.d z6.oJ;let z16:S:= .v (.agg (cEv z8));(.br (.br (.sZ [.call [0,1] z5 z14] (.lJ () [0,1,4,5,6])) (.sZ [.tree z11 8 [0,1],.call [] z16 [],.call [0,1] z5 z12] (.lJ () [0,1,4,5,6]))) (.br (.sZ [.call [0,1] z4 z15] (.lJ () [0,1,4,5,6])) (.sZ [.tree z11 8 [0,1],.call [] z16 [],.call [0,1] z4 z13] (.lJ () [0,1,4,5,6]))),Bc (!decide (d.mJ=8)) (Bc z7 ((Fp 62 [.agg z1] (L2 d) z5 z14)∧Lf z5 z9 z14 z10) ((Fp 134 [.agg (Fg d.field),.c (.int .u64 u)] [] z16 [])∧(Fp 65 [.agg z1,.agg (cEv z8)] (L2 d) z5 z12)∧Lf z5 z9 z12 z10)) (Bc z7 ((Fp 62 [.agg (Af 0 1 d)] (L2 d) z4 z15)∧Lf z4 z9 z15 z10) ((Fp 134 [.agg (Fg d.field),.c (.int .u64 u)] [] z16 [])∧(Fp 65 [.agg (Af 0 1 d),.agg (cEv z8)] (L2 d) z4 z13)∧Lf z4 z9 z13 z10)))) Q4 ?_
 refine⟨fun h1=>have q1:=Ao h1;have p1:=of_decide_eq_false q1;?_,fun h1=>have q1:=An h1;have p1:=of_decide_eq_true q1;?_⟩
 refine⟨fun h2=>have p2:=(C9 dT (C9 dT (C9 dT (C9 dT dT)))).1 h2;?_,fun h2=>have p2:=(Da dT (Da dT (Da dT (Da dT dF)))).1 h2;?_⟩
 exact zM Mac.d Mac.oJ (Ae (Bv ⟨d,[]⟩ u)) (Ae ⟨(⟨d.pJ,2,d.sJ,d.sK,d.sX,d.aJ,d.field,d.wJ,d.wK,d.uJ,d.eJ⟩:Dcd),[]⟩) (fun hm1 hm2=>⟨(J3 (⟨d.pJ,2,d.sJ,d.sK,d.sX,d.aJ,d.field,d.wJ,d.wK,d.uJ,d.eJ⟩:Dcd) Q7),Q5,Q9⟩) W56 W56
 exact zD ((Ae (Bv ⟨d,[]⟩ u)).d) ((Ae ⟨(⟨d.pJ,2,d.sJ,d.sK,d.sX,d.aJ,d.field,d.wJ,d.wK,d.uJ,d.eJ⟩:Dcd),[]⟩).d) ((Ae (Bv ⟨d,[]⟩ u)).oJ) ((Er d.field u)::(Ae ⟨(⟨d.pJ,2,d.sJ,d.sK,d.sX,d.aJ,d.field,d.wJ,d.wK,d.uJ,d.eJ⟩:Dcd),[]⟩).oJ) (fun hm1 hm2=>⟨(Ni d.field _ Q2),(J4 (⟨d.pJ,2,d.sJ,d.sK,d.sX,d.aJ,d.field,d.wJ,d.wK,d.uJ,d.eJ⟩:Dcd) (Er d.field u) Q7),Q5,Q9⟩) W56 W56
 refine⟨fun h2=>have p2:=(C9 dT (C9 dT (C9 dT (C9 dT dT)))).1 h2;?_,fun h2=>have p2:=(Da dT (Da dT (Da dT (Da dT dF)))).1 h2;?_⟩
 exact zM Mac.d Mac.oJ (Ae (Bv ⟨d,[]⟩ u)) (Ae ⟨d,[]⟩) (fun hm1 hm2=>⟨(J3 d Q2),Q5,Q9⟩) W56 W56
 exact zD ((Ae (Bv ⟨d,[]⟩ u)).d) ((Ae ⟨d,[]⟩).d) ((Ae (Bv ⟨d,[]⟩ u)).oJ) ((Er d.field u)::(Ae ⟨d,[]⟩).oJ) (fun hm1 hm2=>⟨(Ni d.field _ Q2),(J4 d (Er d.field u) Q2),Q5,Q9⟩) W56 W56
set_option maxHeartbeats 1600000 in
theorem Xm (d:Dcd) (b:Int) (a:Int) (hp1:MW d) (hp2:(0:Int)≤b∧b≤255):Fun Tryz.prog 67 [.agg (Af 0 1 d),vI b,vI a] [.tree d.pJ.sQ,.lst .lev d.sJ] (.tup [.agg (Af 2 3 (B3 ⟨d,[]⟩ b a).d),vO 4]) [.dK,.dK,.tree (B3 ⟨d,[]⟩ b a).d.pJ.sQ,.lst .lev (B3 ⟨d,[]⟩ b a).d.sJ,.lst .ev (B3 ⟨d,[]⟩ b a).oJ]:=by
 have hN:Bh=274877906944:=rfl
 have hlv:=Cm hp1.lv
 have hpt:=By hlv.1
 have htb:=Jn hp1.lv
 have hbb:=hp1.b0
 have hat:=hp1.aJ
 have hwt:=hp1.wK
 have hwd:=Kz d
 have hsb:=Vh (b:=b) hbb.1 hbb.2
 refine Ar Tryz.func67 Q4 Q4 (w:=let zi:Int→C:= .int .i64;let z1:List C:=[zi d.aJ,zi d.field.nJ,zi d.field.kind,.bool d.field.rep,.bool d.field.packed,zi d.field.mK,zi d.wJ,zi d.wK,zi d.uJ.wK,zi d.uJ.low,zi d.uJ.high,zi d.eJ.kind,zi d.eJ.field,.int .u64 d.eJ.bits,zi d.eJ.len,.str d.eJ.text,zi d.eJ.code,zi d.eJ.aJ];let z3:=(⟨d.pJ,d.mJ,d.sJ,(⟨0,0⟩:Scn),d.sX,d.aJ,d.field,d.wJ,d.wK,d.uJ,d.eJ⟩:Dcd);let z7:=(⟨d.pJ,d.mJ,d.sJ,(⟨0,0⟩:Scn),a,d.aJ,d.field,d.wJ,d.wK,d.uJ,d.eJ⟩:Dcd);let z8:=Aj d.sK b;let z2:=Ba (⟨d.pJ,d.mJ,d.sJ,z8.1,a,d.aJ,d.field,d.wJ,d.wK,d.uJ,d.eJ⟩:Dcd) 9 d.aJ;let z5:=Ba (⟨d.pJ,d.mJ,d.sJ,z8.1,d.sX,d.aJ,d.field,d.wJ,d.wK,d.uJ,d.eJ⟩:Dcd) 9 d.aJ;let z10:=Ba (⟨d.pJ,d.mJ,d.sJ,d.sK,a,d.aJ,d.field,d.wJ,d.wK,d.uJ,d.eJ⟩:Dcd) 1 a;let z12:List Blk:= .dK:: .dK::Ls z2 [As 9 d.aJ];let z13:S:= .tup [.agg (Af 2 3 z2),vO 4];let z14:List Blk:= .dK:: .dK::Ls z5 [As 9 d.aJ];let z15:=Ae (Bv ⟨z3,[]⟩ z8.1.bits);let z16:S:= .tup [.agg (Af 2 3 z5),vO 4];let z17:List Blk:= .dK:: .dK::Ls z10 [As 1 a];let z18:S:= .tup [.agg (Qx z8.1),vI z8.2];let z19:S:= .tup [.agg (Af 2 3 z10),vO 4];let z20:List Blk:= .dK:: .dK::Ls (Ba d 1 a) [As 1 a];let z21:S:= .tup [.agg (Af 2 3 (Ba d 1 a)),vO 4];let z22:=C0 ⟨z7,[]⟩ z8.1.bits;let z23:=C0 ⟨z3,[]⟩ z8.1.bits;let z24:=Cu ⟨z7,[]⟩ z8.1.bits;let z25:=Cu ⟨z3,[]⟩ z8.1.bits;let z26:S:= .tup [.agg (Af 2 3 z15.d),vO 4];let z27:=Ew ⟨z7,[]⟩ z8.1.bits;let z28:=Ew ⟨z3,[]⟩ z8.1.bits;let z29:=decide (d.mJ=8);let z30:=decide (d.wK=0);let z31:List Blk:= .dK:: .dK::Ls z15.d z15.oJ;let z32:S:= .v (vI (D2 d));let z33:=d.mJ=1;let z34:=decide (D2 d=0);let z35:=decide (d.mJ=2);let z36:=decide (z8.2=2);let z37:=decide (z8.2=0);let z38:=decide (d.mJ=4);let z39:=decide z33;let z40:=Qx d.sK;let z41:= !decide z33;let z42:S:= .tup [.agg (Af 0 1 z22.d),vO 2];let z43:S:= .tup [.agg (Af 0 1 z27.d),vO 2];let z44:S:= .tup [.agg (Af 0 1 z24.d),vO 2];let z45:S:= .tup [.agg (Af 0 1 z23.d),vO 2];let z46:S:= .tup [.agg (Af 0 1 z28.d),vO 2];let z47:S:= .tup [.agg (Af 0 1 z25.d),vO 2];let z48:=B3 ⟨d,[]⟩ b a;let z9:List Blk:= .dK:: .dK::Ls z48.d z48.oJ;let z11:S:= .tup [.agg (Af 2 3 z48.d),vO 4];let z4:=Lf (.tup [.agg (.own 2::zi d.pJ.rJ::zi d.pJ.dJ::zi d.pJ.most::zi d.mJ:: .own 3:: .int .u64 z8.1.bits::zi z8.1.hJ::zi a::z1),vO 4]) z11 (.dK:: .dK::Ls d ([]:List Ev)) z9;let z6:=Lf (.tup [.agg (.own 2::zi d.pJ.rJ::zi d.pJ.dJ::zi d.pJ.most::zi d.mJ:: .own 3:: .int .u64 z8.1.bits::zi z8.1.hJ::zi d.sX::z1),vO 4]) z11 (.dK:: .dK::Ls d ([]:List Ev)) z9;(.br (.br (.sZ [.call [] z18 []] (.br (.sZ [.call [0,1] z19 z17] (.lJ () [0,1,5,6,7])) (.br (.br (.sZ [.call [] z32 []] (.br (.sZ [.call [0,1] z13 z12] (.lJ () [0,1,5,6,7])) (.br (.br (.sZ [.call [0,1] z13 z12] (.lJ () [0,1,5,6,7])) (.sZ [.ty .ev,.at 0,.cut 3 0,.cut 3 5] (.lJ () [0,1,6,7,5]))) (.sZ [.ty .ev,.at 0,.cut 3 0,.cut 3 5] (.lJ () [0,1,6,7,5]))))) (.br (.br (.sZ [.call [0,1] z13 z12] (.lJ () [0,1,5,6,7])) (.sZ [.ty .ev,.at 0,.cut 3 0,.cut 3 5] (.lJ () [0,1,6,7,5]))) (.sZ [.ty .ev,.at 0,.cut 3 0,.cut 3 5] (.lJ () [0,1,6,7,5])))) (.sZ [.br true,.call [] z42 (Ls z22.d z22.oJ),.at 0,.kill 0,.kill 1] (.lJ () [0,1,5,6,7]))))) (.br (.sZ [.call [] z18 []] (.br (.sZ [.call [0,1] z19 z17] (.lJ () [0,1,5,6,7])) (.br (.br (.sZ [.call [] z32 []] (.br (.sZ [.call [0,1] z13 z12] (.lJ () [0,1,5,6,7])) (.br (.br (.sZ [.call [0,1] z13 z12] (.lJ () [0,1,5,6,7])) (.sZ [.ty .ev,.at 0,.cut 3 0,.cut 3 5] (.lJ () [0,1,6,7,5]))) (.sZ [.ty .ev,.at 0,.cut 3 0,.cut 3 5] (.lJ () [0,1,6,7,5]))))) (.br (.br (.sZ [.call [0,1] z13 z12] (.lJ () [0,1,5,6,7])) (.sZ [.ty .ev,.at 0,.cut 3 0,.cut 3 5] (.lJ () [0,1,6,7,5]))) (.sZ [.ty .ev,.at 0,.cut 3 0,.cut 3 5] (.lJ () [0,1,6,7,5])))) (.sZ [.br false,.br true,.call [] z43 (Ls z27.d z27.oJ),.at 0,.kill 0,.kill 1] (.lJ () [0,1,5,6,7]))))) (.br (.sZ [.call [] z18 []] (.br (.sZ [.call [0,1] z19 z17] (.lJ () [0,1,5,6,7])) (.br (.br (.sZ [.call [] z32 []] (.br (.sZ [.call [0,1] z13 z12] (.lJ () [0,1,5,6,7])) (.br (.br (.sZ [.call [0,1] z13 z12] (.lJ () [0,1,5,6,7])) (.sZ [.ty .ev,.at 0,.cut 3 0,.cut 3 5] (.lJ () [0,1,6,7,5]))) (.sZ [.ty .ev,.at 0,.cut 3 0,.cut 3 5] (.lJ () [0,1,6,7,5]))))) (.br (.br (.sZ [.call [0,1] z13 z12] (.lJ () [0,1,5,6,7])) (.sZ [.ty .ev,.at 0,.cut 3 0,.cut 3 5] (.lJ () [0,1,6,7,5]))) (.sZ [.ty .ev,.at 0,.cut 3 0,.cut 3 5] (.lJ () [0,1,6,7,5])))) (.sZ [.br false,.br false,.br true,.call [] z44 (Ls z24.d z24.oJ),.at 0,.kill 0,.kill 1] (.lJ () [0,1,5,6,7]))))) (.sZ [.call [] z18 []] (.br (.sZ [.call [0,1] z21 z20] (.lJ () [0,1,5,6,7])) (.br (.br (.sZ [.call [] z32 []] (.br (.sZ [.call [0,1] z16 z14] (.lJ () [0,1,5,6,7])) (.br (.br (.sZ [.call [0,1] z16 z14] (.lJ () [0,1,5,6,7])) (.sZ [.ty .ev,.at 0,.cut 3 0,.cut 3 5] (.lJ () [0,1,6,7,5]))) (.sZ [.ty .ev,.at 0,.cut 3 0,.cut 3 5] (.lJ () [0,1,6,7,5]))))) (.br (.br (.sZ [.call [0,1] z16 z14] (.lJ () [0,1,5,6,7])) (.sZ [.ty .ev,.at 0,.cut 3 0,.cut 3 5] (.lJ () [0,1,6,7,5]))) (.sZ [.ty .ev,.at 0,.cut 3 0,.cut 3 5] (.lJ () [0,1,6,7,5])))) (.sZ [.br false,.br false,.br false,.call [0,1] z26 z31] (.lJ () [0,1,5,6,7])))))))) (.sZ [.call [] z18 []] (.br (.sZ [.call [0,1] z21 z20] (.lJ () [0,1,5,6,7])) (.br (.br (.sZ [.call [] z32 []] (.br (.sZ [.call [0,1] z16 z14] (.lJ () [0,1,5,6,7])) (.br (.br (.sZ [.call [0,1] z16 z14] (.lJ () [0,1,5,6,7])) (.sZ [.ty .ev,.at 0,.cut 3 0,.cut 3 5] (.lJ () [0,1,6,7,5]))) (.sZ [.ty .ev,.at 0,.cut 3 0,.cut 3 5] (.lJ () [0,1,6,7,5]))))) (.br (.br (.sZ [.call [0,1] z16 z14] (.lJ () [0,1,5,6,7])) (.sZ [.ty .ev,.at 0,.cut 3 0,.cut 3 5] (.lJ () [0,1,6,7,5]))) (.sZ [.ty .ev,.at 0,.cut 3 0,.cut 3 5] (.lJ () [0,1,6,7,5])))) (.br (.sZ [.call [] z45 (Ls z23.d z23.oJ),.at 0,.kill 0,.kill 1] (.lJ () [0,1,5,6,7])) (.br (.sZ [.call [] z46 (Ls z28.d z28.oJ),.at 0,.kill 0,.kill 1] (.lJ () [0,1,5,6,7])) (.br (.sZ [.call [] z47 (Ls z25.d z25.oJ),.at 0,.kill 0,.kill 1] (.lJ () [0,1,5,6,7])) (.sZ [.call [0,1] z26 z31] (.lJ () [0,1,5,6,7])))))))),Bc (decide (d.sK.hJ=0)) (Bc z39 ((Fp 136 [.agg z40,vI b] [] z18 [])∧Bc z36 ((Fp 64 [.agg (.own 0::zi d.pJ.rJ::zi d.pJ.dJ::zi d.pJ.most::zi d.mJ:: .own 1:: .int .u64 d.sK.bits::zi d.sK.hJ::zi a::z1),vI 1,vI a] (L2 d) z19 z17)∧Lf z19 z11 z17 z9) (Bc z37 (Bc z41 ((Fp 126 [.agg (.seq .shp d.pJ.sQ::zi d.pJ.rJ::zi d.pJ.dJ::zi d.pJ.most::zi d.mJ:: .seq .lev d.sJ:: .int .u64 z8.1.bits::zi z8.1.hJ::zi a::z1)] [] z32 [])∧Bc z34 ((Fp 64 [.agg (.own 0::zi d.pJ.rJ::zi d.pJ.dJ::zi d.pJ.most::zi d.mJ:: .own 1:: .int .u64 z8.1.bits::zi z8.1.hJ::zi a::z1),vI 9,vI d.aJ] (L2 d) z13 z12)∧Lf z13 z11 z12 z9) (Bc z29 (Bc z30 ((Fp 64 [.agg (.own 0::zi d.pJ.rJ::zi d.pJ.dJ::zi d.pJ.most::zi d.mJ:: .own 1:: .int .u64 z8.1.bits::zi z8.1.hJ::zi a::z1),vI 9,vI d.aJ] (L2 d) z13 z12)∧Lf z13 z11 z12 z9) z4) z4)) (Bc z29 (Bc z30 ((Fp 64 [.agg (.own 0::zi d.pJ.rJ::zi d.pJ.dJ::zi d.pJ.most::zi d.mJ:: .own 1:: .int .u64 z8.1.bits::zi z8.1.hJ::zi a::z1),vI 9,vI d.aJ] (L2 d) z13 z12)∧Lf z13 z11 z12 z9) z4) z4)) ((z39=true)∧(Fp 137 [.agg (.seq .shp d.pJ.sQ::zi d.pJ.rJ::zi d.pJ.dJ::zi d.pJ.most::zi d.mJ:: .seq .lev d.sJ:: .int .u64 0::zi 0::zi a::z1),.c (.int .u64 z8.1.bits)] [] z42 (Ls z22.d z22.oJ))∧Lf (.tup [.agg (Af 2 3 z22.d),vO 4]) z11 (.dK:: .dK::Ls z22.d z22.oJ) z9))) (Bc z35 ((Fp 136 [.agg z40,vI b] [] z18 [])∧Bc z36 ((Fp 64 [.agg (.own 0::zi d.pJ.rJ::zi d.pJ.dJ::zi d.pJ.most::zi d.mJ:: .own 1:: .int .u64 d.sK.bits::zi d.sK.hJ::zi a::z1),vI 1,vI a] (L2 d) z19 z17)∧Lf z19 z11 z17 z9) (Bc z37 (Bc z41 ((Fp 126 [.agg (.seq .shp d.pJ.sQ::zi d.pJ.rJ::zi d.pJ.dJ::zi d.pJ.most::zi d.mJ:: .seq .lev d.sJ:: .int .u64 z8.1.bits::zi z8.1.hJ::zi a::z1)] [] z32 [])∧Bc z34 ((Fp 64 [.agg (.own 0::zi d.pJ.rJ::zi d.pJ.dJ::zi d.pJ.most::zi d.mJ:: .own 1:: .int .u64 z8.1.bits::zi z8.1.hJ::zi a::z1),vI 9,vI d.aJ] (L2 d) z13 z12)∧Lf z13 z11 z12 z9) (Bc z29 (Bc z30 ((Fp 64 [.agg (.own 0::zi d.pJ.rJ::zi d.pJ.dJ::zi d.pJ.most::zi d.mJ:: .own 1:: .int .u64 z8.1.bits::zi z8.1.hJ::zi a::z1),vI 9,vI d.aJ] (L2 d) z13 z12)∧Lf z13 z11 z12 z9) z4) z4)) (Bc z29 (Bc z30 ((Fp 64 [.agg (.own 0::zi d.pJ.rJ::zi d.pJ.dJ::zi d.pJ.most::zi d.mJ:: .own 1:: .int .u64 z8.1.bits::zi z8.1.hJ::zi a::z1),vI 9,vI d.aJ] (L2 d) z13 z12)∧Lf z13 z11 z12 z9) z4) z4)) ((z39=false)∧(z35=true)∧(Fp 138 [.agg (.seq .shp d.pJ.sQ::zi d.pJ.rJ::zi d.pJ.dJ::zi d.pJ.most::zi d.mJ:: .seq .lev d.sJ:: .int .u64 0::zi 0::zi a::z1),.c (.int .u64 z8.1.bits)] [] z43 (Ls z27.d z27.oJ))∧Lf (.tup [.agg (Af 2 3 z27.d),vO 4]) z11 (.dK:: .dK::Ls z27.d z27.oJ) z9))) (Bc z38 ((Fp 136 [.agg z40,vI b] [] z18 [])∧Bc z36 ((Fp 64 [.agg (.own 0::zi d.pJ.rJ::zi d.pJ.dJ::zi d.pJ.most::zi d.mJ:: .own 1:: .int .u64 d.sK.bits::zi d.sK.hJ::zi a::z1),vI 1,vI a] (L2 d) z19 z17)∧Lf z19 z11 z17 z9) (Bc z37 (Bc z41 ((Fp 126 [.agg (.seq .shp d.pJ.sQ::zi d.pJ.rJ::zi d.pJ.dJ::zi d.pJ.most::zi d.mJ:: .seq .lev d.sJ:: .int .u64 z8.1.bits::zi z8.1.hJ::zi a::z1)] [] z32 [])∧Bc z34 ((Fp 64 [.agg (.own 0::zi d.pJ.rJ::zi d.pJ.dJ::zi d.pJ.most::zi d.mJ:: .own 1:: .int .u64 z8.1.bits::zi z8.1.hJ::zi a::z1),vI 9,vI d.aJ] (L2 d) z13 z12)∧Lf z13 z11 z12 z9) (Bc z29 (Bc z30 ((Fp 64 [.agg (.own 0::zi d.pJ.rJ::zi d.pJ.dJ::zi d.pJ.most::zi d.mJ:: .own 1:: .int .u64 z8.1.bits::zi z8.1.hJ::zi a::z1),vI 9,vI d.aJ] (L2 d) z13 z12)∧Lf z13 z11 z12 z9) z4) z4)) (Bc z29 (Bc z30 ((Fp 64 [.agg (.own 0::zi d.pJ.rJ::zi d.pJ.dJ::zi d.pJ.most::zi d.mJ:: .own 1:: .int .u64 z8.1.bits::zi z8.1.hJ::zi a::z1),vI 9,vI d.aJ] (L2 d) z13 z12)∧Lf z13 z11 z12 z9) z4) z4)) ((z39=false)∧(z35=false)∧(z38=true)∧(Fp 139 [.agg (.seq .shp d.pJ.sQ::zi d.pJ.rJ::zi d.pJ.dJ::zi d.pJ.most::zi d.mJ:: .seq .lev d.sJ:: .int .u64 0::zi 0::zi a::z1),.c (.int .u64 z8.1.bits)] [] z44 (Ls z24.d z24.oJ))∧Lf (.tup [.agg (Af 2 3 z24.d),vO 4]) z11 (.dK:: .dK::Ls z24.d z24.oJ) z9))) ((Fp 136 [.agg z40,vI b] [] z18 [])∧Bc z36 ((Fp 64 [.agg (Af 0 1 d),vI 1,vI a] (L2 d) z21 z20)∧Lf z21 z11 z20 z9) (Bc z37 (Bc z41 ((Fp 126 [.agg (.seq .shp d.pJ.sQ::zi d.pJ.rJ::zi d.pJ.dJ::zi d.pJ.most::zi d.mJ:: .seq .lev d.sJ:: .int .u64 z8.1.bits::zi z8.1.hJ::zi d.sX::z1)] [] z32 [])∧Bc z34 ((Fp 64 [.agg (.own 0::zi d.pJ.rJ::zi d.pJ.dJ::zi d.pJ.most::zi d.mJ:: .own 1:: .int .u64 z8.1.bits::zi z8.1.hJ::zi d.sX::z1),vI 9,vI d.aJ] (L2 d) z16 z14)∧Lf z16 z11 z14 z9) (Bc z29 (Bc z30 ((Fp 64 [.agg (.own 0::zi d.pJ.rJ::zi d.pJ.dJ::zi d.pJ.most::zi d.mJ:: .own 1:: .int .u64 z8.1.bits::zi z8.1.hJ::zi d.sX::z1),vI 9,vI d.aJ] (L2 d) z16 z14)∧Lf z16 z11 z14 z9) z6) z6)) (Bc z29 (Bc z30 ((Fp 64 [.agg (.own 0::zi d.pJ.rJ::zi d.pJ.dJ::zi d.pJ.most::zi d.mJ:: .own 1:: .int .u64 z8.1.bits::zi z8.1.hJ::zi d.sX::z1),vI 9,vI d.aJ] (L2 d) z16 z14)∧Lf z16 z11 z14 z9) z6) z6)) ((z39=false)∧(z35=false)∧(z38=false)∧(Fp 135 [.agg (.own 0::zi d.pJ.rJ::zi d.pJ.dJ::zi d.pJ.most::zi d.mJ:: .own 1:: .int .u64 0::zi 0::zi d.sX::z1),.c (.int .u64 z8.1.bits)] (L2 d) z26 z31)∧Lf z26 z11 z31 z9)))))) ((Fp 136 [.agg z40,vI b] [] z18 [])∧Bc z36 ((Fp 64 [.agg (Af 0 1 d),vI 1,vI a] (L2 d) z21 z20)∧Lf z21 z11 z20 z9) (Bc z37 (Bc z41 ((Fp 126 [.agg (.seq .shp d.pJ.sQ::zi d.pJ.rJ::zi d.pJ.dJ::zi d.pJ.most::zi d.mJ:: .seq .lev d.sJ:: .int .u64 z8.1.bits::zi z8.1.hJ::zi d.sX::z1)] [] z32 [])∧Bc z34 ((Fp 64 [.agg (.own 0::zi d.pJ.rJ::zi d.pJ.dJ::zi d.pJ.most::zi d.mJ:: .own 1:: .int .u64 z8.1.bits::zi z8.1.hJ::zi d.sX::z1),vI 9,vI d.aJ] (L2 d) z16 z14)∧Lf z16 z11 z14 z9) (Bc z29 (Bc z30 ((Fp 64 [.agg (.own 0::zi d.pJ.rJ::zi d.pJ.dJ::zi d.pJ.most::zi d.mJ:: .own 1:: .int .u64 z8.1.bits::zi z8.1.hJ::zi d.sX::z1),vI 9,vI d.aJ] (L2 d) z16 z14)∧Lf z16 z11 z14 z9) z6) z6)) (Bc z29 (Bc z30 ((Fp 64 [.agg (.own 0::zi d.pJ.rJ::zi d.pJ.dJ::zi d.pJ.most::zi d.mJ:: .own 1:: .int .u64 z8.1.bits::zi z8.1.hJ::zi d.sX::z1),vI 9,vI d.aJ] (L2 d) z16 z14)∧Lf z16 z11 z14 z9) z6) z6)) (Bc z39 ((Fp 137 [.agg (.seq .shp d.pJ.sQ::zi d.pJ.rJ::zi d.pJ.dJ::zi d.pJ.most::zi d.mJ:: .seq .lev d.sJ:: .int .u64 0::zi 0::zi d.sX::z1),.c (.int .u64 z8.1.bits)] [] z45 (Ls z23.d z23.oJ))∧Lf (.tup [.agg (Af 2 3 z23.d),vO 4]) z11 (.dK:: .dK::Ls z23.d z23.oJ) z9) (Bc z35 ((Fp 138 [.agg (.seq .shp d.pJ.sQ::zi d.pJ.rJ::zi d.pJ.dJ::zi d.pJ.most::zi d.mJ:: .seq .lev d.sJ:: .int .u64 0::zi 0::zi d.sX::z1),.c (.int .u64 z8.1.bits)] [] z46 (Ls z28.d z28.oJ))∧Lf (.tup [.agg (Af 2 3 z28.d),vO 4]) z11 (.dK:: .dK::Ls z28.d z28.oJ) z9) (Bc z38 ((Fp 139 [.agg (.seq .shp d.pJ.sQ::zi d.pJ.rJ::zi d.pJ.dJ::zi d.pJ.most::zi d.mJ:: .seq .lev d.sJ:: .int .u64 0::zi 0::zi d.sX::z1),.c (.int .u64 z8.1.bits)] [] z47 (Ls z25.d z25.oJ))∧Lf (.tup [.agg (Af 2 3 z25.d),vO 4]) z11 (.dK:: .dK::Ls z25.d z25.oJ) z9) ((Fp 135 [.agg (.own 0::zi d.pJ.rJ::zi d.pJ.dJ::zi d.pJ.most::zi d.mJ:: .own 1:: .int .u64 0::zi 0::zi d.sX::z1),.c (.int .u64 z8.1.bits)] (L2 d) z26 z31)∧Lf z26 z11 z31 z9)))))))) Q4 ?_
 refine dsp (fun h1 p1=>?_) fun h1 p1=>?_
 refine dsp (fun h2 p2=>?_) fun h2 p2=>?_
 refine⟨(Nm d.sK _ Q2),dsp (fun h3 p3=>?_) fun h3 p3=>?_⟩
 exact zD ((B3 ⟨d,[]⟩ b a).d) (Ba (⟨d.pJ,d.mJ,d.sJ,d.sK,a,d.aJ,d.field,d.wJ,d.wK,d.uJ,d.eJ⟩:Dcd) 1 a) ((B3 ⟨d,[]⟩ b a).oJ) [As 1 a] (fun hm1 hm2=>⟨(De (⟨d.pJ,d.mJ,d.sJ,d.sK,a,d.aJ,d.field,d.wJ,d.wK,d.uJ,d.eJ⟩:Dcd) _ _),Q5,Q9⟩) W57 W57
 refine dsp (fun h4 p4=>?_) fun h4 p4=>?_
 refine⟨fun h5=>have q5:=Ao h5;have p5:=of_decide_eq_false q5;?_,fun h5=>have q5:=An h5;have p5:=of_decide_eq_true q5;?_⟩
 refine⟨(Qr (⟨d.pJ,d.mJ,d.sJ,(Aj d.sK b).1,a,d.aJ,d.field,d.wJ,d.wK,d.uJ,d.eJ⟩:Dcd) Q7),dsp (fun h6 p6=>?_) fun h6 p6=>?_⟩
 exact zD ((B3 ⟨d,[]⟩ b a).d) (Ba (⟨d.pJ,d.mJ,d.sJ,(Aj d.sK b).1,a,d.aJ,d.field,d.wJ,d.wK,d.uJ,d.eJ⟩:Dcd) 9 d.aJ) ((B3 ⟨d,[]⟩ b a).oJ) [As 9 d.aJ] (fun hm1 hm2=>⟨(De (⟨d.pJ,d.mJ,d.sJ,(Aj d.sK b).1,a,d.aJ,d.field,d.wJ,d.wK,d.uJ,d.eJ⟩:Dcd) _ _),Q5,Q9⟩) W57 W57
 refine dsp (fun h7 p7=>?_) fun h7 p7=>?_
 refine dsp (fun h8 p8=>?_) fun h8 p8=>?_
 exact zD ((B3 ⟨d,[]⟩ b a).d) (Ba (⟨d.pJ,d.mJ,d.sJ,(Aj d.sK b).1,a,d.aJ,d.field,d.wJ,d.wK,d.uJ,d.eJ⟩:Dcd) 9 d.aJ) ((B3 ⟨d,[]⟩ b a).oJ) [As 9 d.aJ] (fun hm1 hm2=>⟨(De (⟨d.pJ,d.mJ,d.sJ,(Aj d.sK b).1,a,d.aJ,d.field,d.wJ,d.wK,d.uJ,d.eJ⟩:Dcd) _ _),Q5,Q9⟩) W57 W57
 exact zD ((B3 ⟨d,[]⟩ b a).d) (⟨d.pJ,d.mJ,d.sJ,(Aj d.sK b).1,a,d.aJ,d.field,d.wJ,d.wK,d.uJ,d.eJ⟩:Dcd) ((B3 ⟨d,[]⟩ b a).oJ) ([]:List Ev) (fun hm1 hm2=>⟨Q5,Q9⟩) W57 W57
 exact zD ((B3 ⟨d,[]⟩ b a).d) (⟨d.pJ,d.mJ,d.sJ,(Aj d.sK b).1,a,d.aJ,d.field,d.wJ,d.wK,d.uJ,d.eJ⟩:Dcd) ((B3 ⟨d,[]⟩ b a).oJ) ([]:List Ev) (fun hm1 hm2=>⟨Q5,Q9⟩) W57 W57
 refine dsp (fun h6 p6=>?_) fun h6 p6=>?_
 refine dsp (fun h7 p7=>?_) fun h7 p7=>?_
 exact zD ((B3 ⟨d,[]⟩ b a).d) (Ba (⟨d.pJ,d.mJ,d.sJ,(Aj d.sK b).1,a,d.aJ,d.field,d.wJ,d.wK,d.uJ,d.eJ⟩:Dcd) 9 d.aJ) ((B3 ⟨d,[]⟩ b a).oJ) [As 9 d.aJ] (fun hm1 hm2=>⟨(De (⟨d.pJ,d.mJ,d.sJ,(Aj d.sK b).1,a,d.aJ,d.field,d.wJ,d.wK,d.uJ,d.eJ⟩:Dcd) _ _),Q5,Q9⟩) W57 W57
 exact zD ((B3 ⟨d,[]⟩ b a).d) (⟨d.pJ,d.mJ,d.sJ,(Aj d.sK b).1,a,d.aJ,d.field,d.wJ,d.wK,d.uJ,d.eJ⟩:Dcd) ((B3 ⟨d,[]⟩ b a).oJ) ([]:List Ev) (fun hm1 hm2=>⟨Q5,Q9⟩) W57 W57
 exact zD ((B3 ⟨d,[]⟩ b a).d) (⟨d.pJ,d.mJ,d.sJ,(Aj d.sK b).1,a,d.aJ,d.field,d.wJ,d.wK,d.uJ,d.eJ⟩:Dcd) ((B3 ⟨d,[]⟩ b a).oJ) ([]:List Ev) (fun hm1 hm2=>⟨Q5,Q9⟩) W57 W57
 exact zM Mac.d Mac.oJ (B3 ⟨d,[]⟩ b a) (C0 ⟨(⟨d.pJ,d.mJ,d.sJ,(⟨0,0⟩:Scn),a,d.aJ,d.field,d.wJ,d.wK,d.uJ,d.eJ⟩:Dcd),[]⟩ (Aj d.sK b).1.bits) (fun hm1 hm2=>⟨h2,(Akm (⟨d.pJ,d.mJ,d.sJ,(⟨0,0⟩:Scn),a,d.aJ,d.field,d.wJ,d.wK,d.uJ,d.eJ⟩:Dcd) _ (Q19) Q2),Q5,Q9⟩) W57 W57
 refine dsp (fun h3 p3=>?_) fun h3 p3=>?_
 refine⟨(Nm d.sK _ Q2),dsp (fun h4 p4=>?_) fun h4 p4=>?_⟩
 exact zD ((B3 ⟨d,[]⟩ b a).d) (Ba (⟨d.pJ,d.mJ,d.sJ,d.sK,a,d.aJ,d.field,d.wJ,d.wK,d.uJ,d.eJ⟩:Dcd) 1 a) ((B3 ⟨d,[]⟩ b a).oJ) [As 1 a] (fun hm1 hm2=>⟨(De (⟨d.pJ,d.mJ,d.sJ,d.sK,a,d.aJ,d.field,d.wJ,d.wK,d.uJ,d.eJ⟩:Dcd) _ _),Q5,Q9⟩) W57 W57
 refine dsp (fun h5 p5=>?_) fun h5 p5=>?_
 refine⟨fun h6=>have q6:=Ao h6;have p6:=of_decide_eq_false q6;?_,fun h6=>have q6:=An h6;have p6:=of_decide_eq_true q6;?_⟩
 refine⟨(Qr (⟨d.pJ,d.mJ,d.sJ,(Aj d.sK b).1,a,d.aJ,d.field,d.wJ,d.wK,d.uJ,d.eJ⟩:Dcd) Q7),dsp (fun h7 p7=>?_) fun h7 p7=>?_⟩
 exact zD ((B3 ⟨d,[]⟩ b a).d) (Ba (⟨d.pJ,d.mJ,d.sJ,(Aj d.sK b).1,a,d.aJ,d.field,d.wJ,d.wK,d.uJ,d.eJ⟩:Dcd) 9 d.aJ) ((B3 ⟨d,[]⟩ b a).oJ) [As 9 d.aJ] (fun hm1 hm2=>⟨(De (⟨d.pJ,d.mJ,d.sJ,(Aj d.sK b).1,a,d.aJ,d.field,d.wJ,d.wK,d.uJ,d.eJ⟩:Dcd) _ _),Q5,Q9⟩) W57 W57
 refine dsp (fun h8 p8=>?_) fun h8 p8=>?_
 refine dsp (fun h9 p9=>?_) fun h9 p9=>?_
 exact zD ((B3 ⟨d,[]⟩ b a).d) (Ba (⟨d.pJ,d.mJ,d.sJ,(Aj d.sK b).1,a,d.aJ,d.field,d.wJ,d.wK,d.uJ,d.eJ⟩:Dcd) 9 d.aJ) ((B3 ⟨d,[]⟩ b a).oJ) [As 9 d.aJ] (fun hm1 hm2=>⟨(De (⟨d.pJ,d.mJ,d.sJ,(Aj d.sK b).1,a,d.aJ,d.field,d.wJ,d.wK,d.uJ,d.eJ⟩:Dcd) _ _),Q5,Q9⟩) W57 W57
 exact zD ((B3 ⟨d,[]⟩ b a).d) (⟨d.pJ,d.mJ,d.sJ,(Aj d.sK b).1,a,d.aJ,d.field,d.wJ,d.wK,d.uJ,d.eJ⟩:Dcd) ((B3 ⟨d,[]⟩ b a).oJ) ([]:List Ev) (fun hm1 hm2=>⟨Q5,Q9⟩) W57 W57
 exact zD ((B3 ⟨d,[]⟩ b a).d) (⟨d.pJ,d.mJ,d.sJ,(Aj d.sK b).1,a,d.aJ,d.field,d.wJ,d.wK,d.uJ,d.eJ⟩:Dcd) ((B3 ⟨d,[]⟩ b a).oJ) ([]:List Ev) (fun hm1 hm2=>⟨Q5,Q9⟩) W57 W57
 refine dsp (fun h7 p7=>?_) fun h7 p7=>?_
 refine dsp (fun h8 p8=>?_) fun h8 p8=>?_
 exact zD ((B3 ⟨d,[]⟩ b a).d) (Ba (⟨d.pJ,d.mJ,d.sJ,(Aj d.sK b).1,a,d.aJ,d.field,d.wJ,d.wK,d.uJ,d.eJ⟩:Dcd) 9 d.aJ) ((B3 ⟨d,[]⟩ b a).oJ) [As 9 d.aJ] (fun hm1 hm2=>⟨(De (⟨d.pJ,d.mJ,d.sJ,(Aj d.sK b).1,a,d.aJ,d.field,d.wJ,d.wK,d.uJ,d.eJ⟩:Dcd) _ _),Q5,Q9⟩) W57 W57
 exact zD ((B3 ⟨d,[]⟩ b a).d) (⟨d.pJ,d.mJ,d.sJ,(Aj d.sK b).1,a,d.aJ,d.field,d.wJ,d.wK,d.uJ,d.eJ⟩:Dcd) ((B3 ⟨d,[]⟩ b a).oJ) ([]:List Ev) (fun hm1 hm2=>⟨Q5,Q9⟩) W57 W57
 exact zD ((B3 ⟨d,[]⟩ b a).d) (⟨d.pJ,d.mJ,d.sJ,(Aj d.sK b).1,a,d.aJ,d.field,d.wJ,d.wK,d.uJ,d.eJ⟩:Dcd) ((B3 ⟨d,[]⟩ b a).oJ) ([]:List Ev) (fun hm1 hm2=>⟨Q5,Q9⟩) W57 W57
 exact zM Mac.d Mac.oJ (B3 ⟨d,[]⟩ b a) (Ew ⟨(⟨d.pJ,d.mJ,d.sJ,(⟨0,0⟩:Scn),a,d.aJ,d.field,d.wJ,d.wK,d.uJ,d.eJ⟩:Dcd),[]⟩ (Aj d.sK b).1.bits) (fun hm1 hm2=>⟨h2,h3,(Asn (⟨d.pJ,d.mJ,d.sJ,(⟨0,0⟩:Scn),a,d.aJ,d.field,d.wJ,d.wK,d.uJ,d.eJ⟩:Dcd) _ (Q19) Q2),Q5,Q9⟩) W57 W57
 refine dsp (fun h4 p4=>?_) fun h4 p4=>?_
 refine⟨(Nm d.sK _ Q2),dsp (fun h5 p5=>?_) fun h5 p5=>?_⟩
 exact zD ((B3 ⟨d,[]⟩ b a).d) (Ba (⟨d.pJ,d.mJ,d.sJ,d.sK,a,d.aJ,d.field,d.wJ,d.wK,d.uJ,d.eJ⟩:Dcd) 1 a) ((B3 ⟨d,[]⟩ b a).oJ) [As 1 a] (fun hm1 hm2=>⟨(De (⟨d.pJ,d.mJ,d.sJ,d.sK,a,d.aJ,d.field,d.wJ,d.wK,d.uJ,d.eJ⟩:Dcd) _ _),Q5,Q9⟩) W57 W57
 refine dsp (fun h6 p6=>?_) fun h6 p6=>?_
 refine⟨fun h7=>have q7:=Ao h7;have p7:=of_decide_eq_false q7;?_,fun h7=>have q7:=An h7;have p7:=of_decide_eq_true q7;?_⟩
 refine⟨(Qr (⟨d.pJ,d.mJ,d.sJ,(Aj d.sK b).1,a,d.aJ,d.field,d.wJ,d.wK,d.uJ,d.eJ⟩:Dcd) Q7),dsp (fun h8 p8=>?_) fun h8 p8=>?_⟩
 exact zD ((B3 ⟨d,[]⟩ b a).d) (Ba (⟨d.pJ,d.mJ,d.sJ,(Aj d.sK b).1,a,d.aJ,d.field,d.wJ,d.wK,d.uJ,d.eJ⟩:Dcd) 9 d.aJ) ((B3 ⟨d,[]⟩ b a).oJ) [As 9 d.aJ] (fun hm1 hm2=>⟨(De (⟨d.pJ,d.mJ,d.sJ,(Aj d.sK b).1,a,d.aJ,d.field,d.wJ,d.wK,d.uJ,d.eJ⟩:Dcd) _ _),Q5,Q9⟩) W57 W57
 refine dsp (fun h9 p9=>?_) fun h9 p9=>?_
 refine dsp (fun h10 p10=>?_) fun h10 p10=>?_
 exact zD ((B3 ⟨d,[]⟩ b a).d) (Ba (⟨d.pJ,d.mJ,d.sJ,(Aj d.sK b).1,a,d.aJ,d.field,d.wJ,d.wK,d.uJ,d.eJ⟩:Dcd) 9 d.aJ) ((B3 ⟨d,[]⟩ b a).oJ) [As 9 d.aJ] (fun hm1 hm2=>⟨(De (⟨d.pJ,d.mJ,d.sJ,(Aj d.sK b).1,a,d.aJ,d.field,d.wJ,d.wK,d.uJ,d.eJ⟩:Dcd) _ _),Q5,Q9⟩) W57 W57
 exact zD ((B3 ⟨d,[]⟩ b a).d) (⟨d.pJ,d.mJ,d.sJ,(Aj d.sK b).1,a,d.aJ,d.field,d.wJ,d.wK,d.uJ,d.eJ⟩:Dcd) ((B3 ⟨d,[]⟩ b a).oJ) ([]:List Ev) (fun hm1 hm2=>⟨Q5,Q9⟩) W57 W57
 exact zD ((B3 ⟨d,[]⟩ b a).d) (⟨d.pJ,d.mJ,d.sJ,(Aj d.sK b).1,a,d.aJ,d.field,d.wJ,d.wK,d.uJ,d.eJ⟩:Dcd) ((B3 ⟨d,[]⟩ b a).oJ) ([]:List Ev) (fun hm1 hm2=>⟨Q5,Q9⟩) W57 W57
 refine dsp (fun h8 p8=>?_) fun h8 p8=>?_
 refine dsp (fun h9 p9=>?_) fun h9 p9=>?_
 exact zD ((B3 ⟨d,[]⟩ b a).d) (Ba (⟨d.pJ,d.mJ,d.sJ,(Aj d.sK b).1,a,d.aJ,d.field,d.wJ,d.wK,d.uJ,d.eJ⟩:Dcd) 9 d.aJ) ((B3 ⟨d,[]⟩ b a).oJ) [As 9 d.aJ] (fun hm1 hm2=>⟨(De (⟨d.pJ,d.mJ,d.sJ,(Aj d.sK b).1,a,d.aJ,d.field,d.wJ,d.wK,d.uJ,d.eJ⟩:Dcd) _ _),Q5,Q9⟩) W57 W57
 exact zD ((B3 ⟨d,[]⟩ b a).d) (⟨d.pJ,d.mJ,d.sJ,(Aj d.sK b).1,a,d.aJ,d.field,d.wJ,d.wK,d.uJ,d.eJ⟩:Dcd) ((B3 ⟨d,[]⟩ b a).oJ) ([]:List Ev) (fun hm1 hm2=>⟨Q5,Q9⟩) W57 W57
 exact zD ((B3 ⟨d,[]⟩ b a).d) (⟨d.pJ,d.mJ,d.sJ,(Aj d.sK b).1,a,d.aJ,d.field,d.wJ,d.wK,d.uJ,d.eJ⟩:Dcd) ((B3 ⟨d,[]⟩ b a).oJ) ([]:List Ev) (fun hm1 hm2=>⟨Q5,Q9⟩) W57 W57
 exact zM Mac.d Mac.oJ (B3 ⟨d,[]⟩ b a) (Cu ⟨(⟨d.pJ,d.mJ,d.sJ,(⟨0,0⟩:Scn),a,d.aJ,d.field,d.wJ,d.wK,d.uJ,d.eJ⟩:Dcd),[]⟩ (Aj d.sK b).1.bits) (fun hm1 hm2=>⟨h2,h3,h4,(Ap4 (⟨d.pJ,d.mJ,d.sJ,(⟨0,0⟩:Scn),a,d.aJ,d.field,d.wJ,d.wK,d.uJ,d.eJ⟩:Dcd) _ (Q19) Q2 (hp1.kn)),Q5,Q9⟩) W57 W57
 refine⟨(Nm d.sK _ Q2),dsp (fun h5 p5=>?_) fun h5 p5=>?_⟩
 exact zD ((B3 ⟨d,[]⟩ b a).d) (Ba d 1 a) ((B3 ⟨d,[]⟩ b a).oJ) [As 1 a] (fun hm1 hm2=>⟨(De d _ _),Q5,Q9⟩) W57 W57
 refine dsp (fun h6 p6=>?_) fun h6 p6=>?_
 refine⟨fun h7=>have q7:=Ao h7;have p7:=of_decide_eq_false q7;?_,fun h7=>have q7:=An h7;have p7:=of_decide_eq_true q7;?_⟩
 refine⟨(Qr (⟨d.pJ,d.mJ,d.sJ,(Aj d.sK b).1,d.sX,d.aJ,d.field,d.wJ,d.wK,d.uJ,d.eJ⟩:Dcd) Q7),dsp (fun h8 p8=>?_) fun h8 p8=>?_⟩
 exact zD ((B3 ⟨d,[]⟩ b a).d) (Ba (⟨d.pJ,d.mJ,d.sJ,(Aj d.sK b).1,d.sX,d.aJ,d.field,d.wJ,d.wK,d.uJ,d.eJ⟩:Dcd) 9 d.aJ) ((B3 ⟨d,[]⟩ b a).oJ) [As 9 d.aJ] (fun hm1 hm2=>⟨(De (⟨d.pJ,d.mJ,d.sJ,(Aj d.sK b).1,d.sX,d.aJ,d.field,d.wJ,d.wK,d.uJ,d.eJ⟩:Dcd) _ _),Q5,Q9⟩) W57 W57
 refine dsp (fun h9 p9=>?_) fun h9 p9=>?_
 refine dsp (fun h10 p10=>?_) fun h10 p10=>?_
 exact zD ((B3 ⟨d,[]⟩ b a).d) (Ba (⟨d.pJ,d.mJ,d.sJ,(Aj d.sK b).1,d.sX,d.aJ,d.field,d.wJ,d.wK,d.uJ,d.eJ⟩:Dcd) 9 d.aJ) ((B3 ⟨d,[]⟩ b a).oJ) [As 9 d.aJ] (fun hm1 hm2=>⟨(De (⟨d.pJ,d.mJ,d.sJ,(Aj d.sK b).1,d.sX,d.aJ,d.field,d.wJ,d.wK,d.uJ,d.eJ⟩:Dcd) _ _),Q5,Q9⟩) W57 W57
 exact zD ((B3 ⟨d,[]⟩ b a).d) (⟨d.pJ,d.mJ,d.sJ,(Aj d.sK b).1,d.sX,d.aJ,d.field,d.wJ,d.wK,d.uJ,d.eJ⟩:Dcd) ((B3 ⟨d,[]⟩ b a).oJ) ([]:List Ev) (fun hm1 hm2=>⟨Q5,Q9⟩) W57 W57
 exact zD ((B3 ⟨d,[]⟩ b a).d) (⟨d.pJ,d.mJ,d.sJ,(Aj d.sK b).1,d.sX,d.aJ,d.field,d.wJ,d.wK,d.uJ,d.eJ⟩:Dcd) ((B3 ⟨d,[]⟩ b a).oJ) ([]:List Ev) (fun hm1 hm2=>⟨Q5,Q9⟩) W57 W57
 refine dsp (fun h8 p8=>?_) fun h8 p8=>?_
 refine dsp (fun h9 p9=>?_) fun h9 p9=>?_
 exact zD ((B3 ⟨d,[]⟩ b a).d) (Ba (⟨d.pJ,d.mJ,d.sJ,(Aj d.sK b).1,d.sX,d.aJ,d.field,d.wJ,d.wK,d.uJ,d.eJ⟩:Dcd) 9 d.aJ) ((B3 ⟨d,[]⟩ b a).oJ) [As 9 d.aJ] (fun hm1 hm2=>⟨(De (⟨d.pJ,d.mJ,d.sJ,(Aj d.sK b).1,d.sX,d.aJ,d.field,d.wJ,d.wK,d.uJ,d.eJ⟩:Dcd) _ _),Q5,Q9⟩) W57 W57
 exact zD ((B3 ⟨d,[]⟩ b a).d) (⟨d.pJ,d.mJ,d.sJ,(Aj d.sK b).1,d.sX,d.aJ,d.field,d.wJ,d.wK,d.uJ,d.eJ⟩:Dcd) ((B3 ⟨d,[]⟩ b a).oJ) ([]:List Ev) (fun hm1 hm2=>⟨Q5,Q9⟩) W57 W57
 exact zD ((B3 ⟨d,[]⟩ b a).d) (⟨d.pJ,d.mJ,d.sJ,(Aj d.sK b).1,d.sX,d.aJ,d.field,d.wJ,d.wK,d.uJ,d.eJ⟩:Dcd) ((B3 ⟨d,[]⟩ b a).oJ) ([]:List Ev) (fun hm1 hm2=>⟨Q5,Q9⟩) W57 W57
 exact zM Mac.d Mac.oJ (B3 ⟨d,[]⟩ b a) (Ae (Bv ⟨(⟨d.pJ,d.mJ,d.sJ,(⟨0,0⟩:Scn),d.sX,d.aJ,d.field,d.wJ,d.wK,d.uJ,d.eJ⟩:Dcd),[]⟩ (Aj d.sK b).1.bits)) (fun hm1 hm2=>⟨h2,h3,h4,(Yv (⟨d.pJ,d.mJ,d.sJ,(⟨0,0⟩:Scn),d.sX,d.aJ,d.field,d.wJ,d.wK,d.uJ,d.eJ⟩:Dcd) _ Q7 Q2),Q5,Q9⟩) W57 W57
 refine⟨(Nm d.sK _ Q2),dsp (fun h2 p2=>?_) fun h2 p2=>?_⟩
 exact zD ((B3 ⟨d,[]⟩ b a).d) (Ba d 1 a) ((B3 ⟨d,[]⟩ b a).oJ) [As 1 a] (fun hm1 hm2=>⟨(De d _ _),Q5,Q9⟩) W57 W57
 refine dsp (fun h3 p3=>?_) fun h3 p3=>?_
 refine⟨fun h4=>have q4:=Ao h4;have p4:=of_decide_eq_false q4;?_,fun h4=>have q4:=An h4;have p4:=of_decide_eq_true q4;?_⟩
 refine⟨(Qr (⟨d.pJ,d.mJ,d.sJ,(Aj d.sK b).1,d.sX,d.aJ,d.field,d.wJ,d.wK,d.uJ,d.eJ⟩:Dcd) Q7),dsp (fun h5 p5=>?_) fun h5 p5=>?_⟩
 exact zD ((B3 ⟨d,[]⟩ b a).d) (Ba (⟨d.pJ,d.mJ,d.sJ,(Aj d.sK b).1,d.sX,d.aJ,d.field,d.wJ,d.wK,d.uJ,d.eJ⟩:Dcd) 9 d.aJ) ((B3 ⟨d,[]⟩ b a).oJ) [As 9 d.aJ] (fun hm1 hm2=>⟨(De (⟨d.pJ,d.mJ,d.sJ,(Aj d.sK b).1,d.sX,d.aJ,d.field,d.wJ,d.wK,d.uJ,d.eJ⟩:Dcd) _ _),Q5,Q9⟩) W57 W57
 refine dsp (fun h6 p6=>?_) fun h6 p6=>?_
 refine dsp (fun h7 p7=>?_) fun h7 p7=>?_
 exact zD ((B3 ⟨d,[]⟩ b a).d) (Ba (⟨d.pJ,d.mJ,d.sJ,(Aj d.sK b).1,d.sX,d.aJ,d.field,d.wJ,d.wK,d.uJ,d.eJ⟩:Dcd) 9 d.aJ) ((B3 ⟨d,[]⟩ b a).oJ) [As 9 d.aJ] (fun hm1 hm2=>⟨(De (⟨d.pJ,d.mJ,d.sJ,(Aj d.sK b).1,d.sX,d.aJ,d.field,d.wJ,d.wK,d.uJ,d.eJ⟩:Dcd) _ _),Q5,Q9⟩) W57 W57
 exact zD ((B3 ⟨d,[]⟩ b a).d) (⟨d.pJ,d.mJ,d.sJ,(Aj d.sK b).1,d.sX,d.aJ,d.field,d.wJ,d.wK,d.uJ,d.eJ⟩:Dcd) ((B3 ⟨d,[]⟩ b a).oJ) ([]:List Ev) (fun hm1 hm2=>⟨Q5,Q9⟩) W57 W57
 exact zD ((B3 ⟨d,[]⟩ b a).d) (⟨d.pJ,d.mJ,d.sJ,(Aj d.sK b).1,d.sX,d.aJ,d.field,d.wJ,d.wK,d.uJ,d.eJ⟩:Dcd) ((B3 ⟨d,[]⟩ b a).oJ) ([]:List Ev) (fun hm1 hm2=>⟨Q5,Q9⟩) W57 W57
 refine dsp (fun h5 p5=>?_) fun h5 p5=>?_
 refine dsp (fun h6 p6=>?_) fun h6 p6=>?_
 exact zD ((B3 ⟨d,[]⟩ b a).d) (Ba (⟨d.pJ,d.mJ,d.sJ,(Aj d.sK b).1,d.sX,d.aJ,d.field,d.wJ,d.wK,d.uJ,d.eJ⟩:Dcd) 9 d.aJ) ((B3 ⟨d,[]⟩ b a).oJ) [As 9 d.aJ] (fun hm1 hm2=>⟨(De (⟨d.pJ,d.mJ,d.sJ,(Aj d.sK b).1,d.sX,d.aJ,d.field,d.wJ,d.wK,d.uJ,d.eJ⟩:Dcd) _ _),Q5,Q9⟩) W57 W57
 exact zD ((B3 ⟨d,[]⟩ b a).d) (⟨d.pJ,d.mJ,d.sJ,(Aj d.sK b).1,d.sX,d.aJ,d.field,d.wJ,d.wK,d.uJ,d.eJ⟩:Dcd) ((B3 ⟨d,[]⟩ b a).oJ) ([]:List Ev) (fun hm1 hm2=>⟨Q5,Q9⟩) W57 W57
 exact zD ((B3 ⟨d,[]⟩ b a).d) (⟨d.pJ,d.mJ,d.sJ,(Aj d.sK b).1,d.sX,d.aJ,d.field,d.wJ,d.wK,d.uJ,d.eJ⟩:Dcd) ((B3 ⟨d,[]⟩ b a).oJ) ([]:List Ev) (fun hm1 hm2=>⟨Q5,Q9⟩) W57 W57
 refine dsp (fun h4 p4=>?_) fun h4 p4=>?_
 exact zM Mac.d Mac.oJ (B3 ⟨d,[]⟩ b a) (C0 ⟨(⟨d.pJ,d.mJ,d.sJ,(⟨0,0⟩:Scn),d.sX,d.aJ,d.field,d.wJ,d.wK,d.uJ,d.eJ⟩:Dcd),[]⟩ (Aj d.sK b).1.bits) (fun hm1 hm2=>⟨(Akm (⟨d.pJ,d.mJ,d.sJ,(⟨0,0⟩:Scn),d.sX,d.aJ,d.field,d.wJ,d.wK,d.uJ,d.eJ⟩:Dcd) _ (Q19) Q2),Q5,Q9⟩) W57 W57
 refine dsp (fun h5 p5=>?_) fun h5 p5=>?_
 exact zM Mac.d Mac.oJ (B3 ⟨d,[]⟩ b a) (Ew ⟨(⟨d.pJ,d.mJ,d.sJ,(⟨0,0⟩:Scn),d.sX,d.aJ,d.field,d.wJ,d.wK,d.uJ,d.eJ⟩:Dcd),[]⟩ (Aj d.sK b).1.bits) (fun hm1 hm2=>⟨(Asn (⟨d.pJ,d.mJ,d.sJ,(⟨0,0⟩:Scn),d.sX,d.aJ,d.field,d.wJ,d.wK,d.uJ,d.eJ⟩:Dcd) _ (Q19) Q2),Q5,Q9⟩) W57 W57
 refine dsp (fun h6 p6=>?_) fun h6 p6=>?_
 exact zM Mac.d Mac.oJ (B3 ⟨d,[]⟩ b a) (Cu ⟨(⟨d.pJ,d.mJ,d.sJ,(⟨0,0⟩:Scn),d.sX,d.aJ,d.field,d.wJ,d.wK,d.uJ,d.eJ⟩:Dcd),[]⟩ (Aj d.sK b).1.bits) (fun hm1 hm2=>⟨(Ap4 (⟨d.pJ,d.mJ,d.sJ,(⟨0,0⟩:Scn),d.sX,d.aJ,d.field,d.wJ,d.wK,d.uJ,d.eJ⟩:Dcd) _ (Q19) Q2 (hp1.kn)),Q5,Q9⟩) W57 W57
 exact zM Mac.d Mac.oJ (B3 ⟨d,[]⟩ b a) (Ae (Bv ⟨(⟨d.pJ,d.mJ,d.sJ,(⟨0,0⟩:Scn),d.sX,d.aJ,d.field,d.wJ,d.wK,d.uJ,d.eJ⟩:Dcd),[]⟩ (Aj d.sK b).1.bits)) (fun hm1 hm2=>⟨(Yv (⟨d.pJ,d.mJ,d.sJ,(⟨0,0⟩:Scn),d.sX,d.aJ,d.field,d.wJ,d.wK,d.uJ,d.eJ⟩:Dcd) _ Q7 Q2),Q5,Q9⟩) W57 W57
set_option maxHeartbeats 1600000 in
theorem Ab2 (d:Dcd) (b:Int) (w:Int) (hp1:MW d) (hp2:(0:Int)≤b∧b≤255) (hp3:w=Bw d) (hp4:(d).mJ=8→U3 (d).field=true):Fun Tryz.prog 66 [.agg (Af 0 1 d),vI b,vI w] [.tree d.pJ.sQ,.lst .lev d.sJ] (.tup [.agg (Af 2 3 (D8 ⟨d,[]⟩ b).d),vO 4]) [.dK,.dK,.tree (D8 ⟨d,[]⟩ b).d.pJ.sQ,.lst .lev (D8 ⟨d,[]⟩ b).d.sJ,.lst .ev (D8 ⟨d,[]⟩ b).oJ]:=by
 have hN:Bh=274877906944:=rfl
 have hlv:=Cm hp1.lv
 have hpt:=By hlv.1
 have htb:=Jn hp1.lv
 have hbb:=hp1.b0
 have hat:=hp1.aJ
 have hwt:=hp1.wK
 have hwd:=Kz d
 have hfb:=Adc (b:=b) hbb
 refine Ar Tryz.func66 Q4 Q4 (w:=let zi:Int→C:= .int .i64;let z1:List C:=[zi d.sX,zi d.aJ,zi d.field.nJ,zi d.field.kind,.bool d.field.rep,.bool d.field.packed,zi d.field.mK,zi d.wJ,zi d.wK,zi d.uJ.wK,zi d.uJ.low,zi d.uJ.high,zi d.eJ.kind,zi d.eJ.field,.int .u64 d.eJ.bits,zi d.eJ.len,.str d.eJ.text,zi d.eJ.code,zi d.eJ.aJ];let z3:=(⟨d.pJ,d.mJ,d.sJ,(⟨0,0⟩:Scn),d.sX,d.aJ,d.field,d.wJ,d.wK,d.uJ,d.eJ⟩:Dcd);let z6:List Blk:= .dK:: .dK::Ls (D8 ⟨d,[]⟩ b).d (D8 ⟨d,[]⟩ b).oJ;let z7:=B4 d.sK b;let z2:=Ae (Bv ⟨z3,[]⟩ z7.bits);let z4:S:= .tup [.agg (Af 2 3 z2.d),vO 4];let z5:List Blk:= .dK:: .dK::Ls z2.d z2.oJ;let z8:S:= .tup [.agg (Af 2 3 (D8 ⟨d,[]⟩ b).d),vO 4];let z10:=Er d.field z7.bits;let z12:=Ba z3 9 d.aJ;let z9:S:= .tup [.agg (Af 2 3 z12),vO 4];let z11:List Blk:= .dK:: .dK::Ls z12 [As 9 d.aJ];(.sZ [.call [] (.v (.agg (Qx z7))) []] (.br (.sZ [.ty .ev,.at 0,.cut 3 0,.cut 3 5] (.lJ () [0,1,6,7,5])) (.br (.br (.br (.sZ [.call [] (.v (.agg (cEv z10))) [],.call [0,1] z9 z11,.tree (.first 0 (.first 1 (.first 3 (.one 2 (.one 4 (.one 5 (.first 6 (.done)))))))) 5 [8],.ty .ev,.ty .ev] (.lJ () [0,1,6,7,11])) (.sZ [.call [0,1] z4 z5] (.lJ () [0,1,5,6,7]))) (.sZ [.call [0,1] z4 z5] (.lJ () [0,1,5,6,7]))) (.sZ [.call [0,1] z4 z5] (.lJ () [0,1,5,6,7])))),(Fp 133 [.agg (Qx d.sK),vI b] [] (.v (.agg (Qx z7))) [])∧Bc (decide (z7.hJ<w)) (Lf (.tup [.agg (.own 2::zi d.pJ.rJ::zi d.pJ.dJ::zi d.pJ.most::zi d.mJ:: .own 3:: .int .u64 z7.bits::zi z7.hJ::z1),vO 4]) z8 (.dK:: .dK::Ls d ([]:List Ev)) z6) (Bc (decide (d.mJ=8)) (Bc (decide (0<d.wK)) (Bc (decide (d.wK<w)) ((Fp 134 [.agg (Fg d.field),.c (.int .u64 z7.bits)] [] (.v (.agg (cEv z10))) [])∧(Fp 64 [.agg (.own 0::zi d.pJ.rJ::zi d.pJ.dJ::zi d.pJ.most::zi d.mJ:: .own 1:: .int .u64 0::zi 0::z1),vI 9,vI d.aJ] (L2 d) z9 z11)∧(List.length [z10]+List.length [As 9 d.aJ]≤Bh)∧Lf z9 z8 (.dK:: .dK::Ls z12 ([z10]++[As 9 d.aJ])) z6) ((Fp 135 [.agg (.own 0::zi d.pJ.rJ::zi d.pJ.dJ::zi d.pJ.most::zi d.mJ:: .own 1:: .int .u64 0::zi 0::z1),.c (.int .u64 z7.bits)] (L2 d) z4 z5)∧Lf z4 z8 z5 z6)) ((Fp 135 [.agg (.own 0::zi d.pJ.rJ::zi d.pJ.dJ::zi d.pJ.most::zi d.mJ:: .own 1:: .int .u64 0::zi 0::z1),.c (.int .u64 z7.bits)] (L2 d) z4 z5)∧Lf z4 z8 z5 z6)) ((Fp 135 [.agg (.own 0::zi d.pJ.rJ::zi d.pJ.dJ::zi d.pJ.most::zi d.mJ:: .own 1:: .int .u64 0::zi 0::z1),.c (.int .u64 z7.bits)] (L2 d) z4 z5)∧Lf z4 z8 z5 z6)))) Q4 ?_
 refine⟨(Ake d.sK _),dsp (fun h1 p1=>?_) fun h1 p1=>?_⟩
 exact zD ((D8 ⟨d,[]⟩ b).d) (⟨d.pJ,d.mJ,d.sJ,(B4 d.sK b),d.sX,d.aJ,d.field,d.wJ,d.wK,d.uJ,d.eJ⟩:Dcd) ((D8 ⟨d,[]⟩ b).oJ) ([]:List Ev) (fun hm1 hm2=>⟨Q5,Q9⟩) W58 W58
 refine dsp (fun h2 p2=>?_) fun h2 p2=>?_
 refine dsp (fun h3 p3=>?_) fun h3 p3=>?_
 refine dsp (fun h4 p4=>?_) fun h4 p4=>?_
 exact zD ((D8 ⟨d,[]⟩ b).d) (Ba (⟨d.pJ,d.mJ,d.sJ,(⟨0,0⟩:Scn),d.sX,d.aJ,d.field,d.wJ,d.wK,d.uJ,d.eJ⟩:Dcd) 9 d.aJ) ((D8 ⟨d,[]⟩ b).oJ) ([(Er d.field (B4 d.sK b).bits)]++[As 9 d.aJ]) (fun hm1 hm2=>⟨(Ni d.field _ Q2),(De (⟨d.pJ,d.mJ,d.sJ,(⟨0,0⟩:Scn),d.sX,d.aJ,d.field,d.wJ,d.wK,d.uJ,d.eJ⟩:Dcd) _ _),Q6,Q5,Q9⟩) W58 W58
 exact zM Mac.d Mac.oJ (D8 ⟨d,[]⟩ b) (Ae (Bv ⟨(⟨d.pJ,d.mJ,d.sJ,(⟨0,0⟩:Scn),d.sX,d.aJ,d.field,d.wJ,d.wK,d.uJ,d.eJ⟩:Dcd),[]⟩ (B4 d.sK b).bits)) (fun hm1 hm2=>⟨(Yv (⟨d.pJ,d.mJ,d.sJ,(⟨0,0⟩:Scn),d.sX,d.aJ,d.field,d.wJ,d.wK,d.uJ,d.eJ⟩:Dcd) _ Q7 Q2),Q5,Q9⟩) W58 W58
 exact zM Mac.d Mac.oJ (D8 ⟨d,[]⟩ b) (Ae (Bv ⟨(⟨d.pJ,d.mJ,d.sJ,(⟨0,0⟩:Scn),d.sX,d.aJ,d.field,d.wJ,d.wK,d.uJ,d.eJ⟩:Dcd),[]⟩ (B4 d.sK b).bits)) (fun hm1 hm2=>⟨(Yv (⟨d.pJ,d.mJ,d.sJ,(⟨0,0⟩:Scn),d.sX,d.aJ,d.field,d.wJ,d.wK,d.uJ,d.eJ⟩:Dcd) _ Q7 Q2),Q5,Q9⟩) W58 W58
 exact zM Mac.d Mac.oJ (D8 ⟨d,[]⟩ b) (Ae (Bv ⟨(⟨d.pJ,d.mJ,d.sJ,(⟨0,0⟩:Scn),d.sX,d.aJ,d.field,d.wJ,d.wK,d.uJ,d.eJ⟩:Dcd),[]⟩ (B4 d.sK b).bits)) (fun hm1 hm2=>⟨(Yv (⟨d.pJ,d.mJ,d.sJ,(⟨0,0⟩:Scn),d.sX,d.aJ,d.field,d.wJ,d.wK,d.uJ,d.eJ⟩:Dcd) _ Q7 Q2),Q5,Q9⟩) W58 W58
set_option maxHeartbeats 3200000 in
theorem Akn (d:Dcd) (b:Int) (hp1:List.length (d).pJ.sQ≤1048576) (hp2: ∀e∈(d).pJ.sQ,e.fJ.length≤1048576) (hp3:List.length (d).sJ≤1048576) (hp4:(0:Int)≤(d).sK.bits∧(d).sK.bits≤18446744073709551615):Fun Tryz.prog 24 [.agg (B9 d),vI b] [] (.tup [.agg (Af 0 1 (Cs d b).d),vO 2]) [.tree (Cs d b).d.pJ.sQ,.lst .lev (Cs d b).d.sJ,.lst .ev (Cs d b).oJ]:=by
 have hN:Bh=274877906944:=rfl
 refine Ar Tryz.func24 Q4 Q4 (w:=let zi:Int→C:= .int .i64;let z14:List C:=[zi 4,zi 0,.int .u64 0,zi 0,.str (List.map Bj [b]),zi 0,zi 0];let z15:List C:=[zi d.eJ.kind,zi d.eJ.field,.int .u64 d.eJ.bits,zi d.eJ.len,.str d.eJ.text,zi d.eJ.code,zi d.eJ.aJ];let z16:=(⟨d.pJ,d.mJ,d.sJ,d.sK,d.sX,d.aJ+1,d.field,d.wJ,d.wK-1,d.uJ,d.eJ⟩:Dcd);let z17:=(⟨d.pJ,d.mJ,d.sJ,d.sK,d.sX,d.aJ+1,d.field,d.wJ,d.wK,d.uJ,d.eJ⟩:Dcd);let z19:S:= .tup [.agg (Af 0 1 (Cs d b).d),vO 2];let z20:=((d.sJ.length:Nat):Int);let z21:=Ls (Cs d b).d (Cs d b).oJ;let z22:=(⟨4,0,0,0,List.map Bj [b],0,0⟩:Ev);let z23:=Ae ⟨z16,[]⟩;let z24:S:= .v (vI (Bw d));let z26:=(.v (.c (.int .u8 (IntKind.u8.wrap (b)))):S)= .v (.c (.int .u8 b));let z27:=Lf (.tup [.agg (Af 0 1 d),vO 2]) z19 (Ls d ([]:List Ev)) z21;let z28:S:= .tup [.agg (Af 2 3 z23.d),vO 4];let z29:=B3 ⟨z16,[]⟩ b d.aJ;let z30:=B3 ⟨z17,[]⟩ b d.aJ;let z31:=decide (d.mJ=7);let z33:=decide (d.mJ=6);let z34:=D8 ⟨z16,[]⟩ b;let z35:=D8 ⟨z17,[]⟩ b;let z36:=d.wK-1;let z37:=Int.toNat (z20-1);let z38:List Blk:= .dK:: .dK::Ls z23.d z23.oJ;let z39:=Ba z16 5 d.aJ;let z40:S:= .tup [.agg (Af 0 1 z23.d),vO 2];let z41:=decide (0<Bw d);let z42:S:= .v (.c (.int .u8 b));let z43:=(0:Int)≤z20-1;let z44:S:= .v (vI z36);let z45:=B8 d.uJ b;let z25:=z45.getD d.uJ;let z18:=Ae ⟨(⟨d.pJ,d.mJ,d.sJ,d.sK,d.sX,d.aJ+1,d.field,d.wJ,d.wK-1,z25,d.eJ⟩:Dcd),[]⟩;let z32:S:= .tup [.agg (Pk z25),vB z45.isSome];let z46:=z20-1<z20;let z47:S:= .tup [.agg (Af 2 3 z18.d),vO 4];let z48:S:= .tup [.agg (Af 2 3 z34.d),vO 4];let z49:S:= .tup [.agg (Af 2 3 z29.d),vO 4];let z50:S:= .tup [.agg (Af 2 3 z35.d),vO 4];let z51:S:= .tup [.agg (Af 2 3 z30.d),vO 4];let z52:List Blk:= .dK:: .dK::Ls z18.d (z22::z18.oJ);let z53:List Blk:= .dK:: .dK::Ls z23.d (z22::z23.oJ);let z54:S:= .tup [.agg (Af 2 3 z39),vO 4];let z55:=wI (z20-1);let z56:=d.aJ+1;let z11:List C:= .own 0::zi d.pJ.rJ::zi d.pJ.dJ::zi d.pJ.most::zi d.mJ:: .own 1:: .int .u64 d.sK.bits::zi d.sK.hJ::zi d.sX::zi z56::zi d.field.nJ::zi d.field.kind:: .bool d.field.rep:: .bool d.field.packed::zi d.field.mK::zi d.wJ::zi z36::zi d.uJ.wK::zi d.uJ.low::zi d.uJ.high::z15;let z12:List C:= .own 0::zi d.pJ.rJ::zi d.pJ.dJ::zi d.pJ.most::zi d.mJ:: .own 1:: .int .u64 d.sK.bits::zi d.sK.hJ::zi d.sX::zi z56::zi d.field.nJ::zi d.field.kind:: .bool d.field.rep:: .bool d.field.packed::zi d.field.mK::zi d.wJ::zi d.wK::zi d.uJ.wK::zi d.uJ.low::zi d.uJ.high::z15;let z13:List C:= .own 0::zi d.pJ.rJ::zi d.pJ.dJ::zi d.pJ.most::zi d.mJ:: .own 1:: .int .u64 d.sK.bits::zi d.sK.hJ::zi d.sX::zi z56::zi d.field.nJ::zi d.field.kind:: .bool d.field.rep:: .bool d.field.packed::zi d.field.mK::zi d.wJ::zi z36::zi z25.wK::zi z25.low::zi z25.high::z15;let z57:List Blk:= .dK:: .dK::Ls z39 [As 5 d.aJ];let z58:=z31=false;let z59:=z33=false;(.sZ [.call [] (.v (.agg (Af 0 1 d))) (L2 d),.call [] (.v (vB (Ce d))) []] (.br (.sZ [.ty .ev] (.lJ () [2,3,5])) (.br (.sZ [.ty .ev] (.lJ () [2,3,5])) (.sZ [.call [] (.v (vB (Ak b 0 255))) []] (.br (.sZ [.ty .ev] (.lJ () [2,3,5])) (.br (.sZ [.ty .ev] (.lJ () [2,3,5])) (.sZ [.as 35 (.v (vI z56))] (.br (.intro (Sx (d.sJ[Int.toNat (z20-1)]?)) fun x1=>let z4:=(⟨x1.mK,x1.left-1⟩:Lev);let z1:=(⟨d.pJ,d.mJ,List.set d.sJ z37 z4,d.sK,d.sX,d.aJ+1,d.field,d.wJ,d.wK-1,d.uJ,d.eJ⟩:Dcd);let z2:=(⟨d.pJ,d.mJ,List.set d.sJ z37 z4,d.sK,d.sX,d.aJ+1,d.field,d.wJ,d.wK,d.uJ,d.eJ⟩:Dcd);let z3:=Ae ⟨(⟨d.pJ,d.mJ,List.set d.sJ z37 z4,d.sK,d.sX,d.aJ+1,d.field,d.wJ,d.wK-1,z25,d.eJ⟩:Dcd),[]⟩;.sZ [.ord (os 15 [14]) [],.as 45 (.v (vI (z20-1))),.as 49 (.v (vI (z20-1))),.el .lev x1,.as 53 (.v (vI (x1.left-1))),.el .lev x1] (.br (.sZ [.as 71 z44,.call [] z24 []] (.br (.sZ [.call [2,3] (.tup [.agg (Af 2 3 (Ae ⟨z1,[]⟩).d),vO 4]) (.dK:: .dK::Ls (Ae ⟨z1,[]⟩).d (Ae ⟨z1,[]⟩).oJ)] (.lJ () [5,6,7])) (.sZ [.br true] (.br (.sZ [.call [] z32 []] (.br (.sZ [.call [2,3] (.tup [.agg (Af 2 3 (Ba z1 5 d.aJ)),vO 4]) (.dK:: .dK::Ls (Ba z1 5 d.aJ) [As 5 d.aJ])] (.lJ () [6,7,8])) (.sZ [.as 110 z42,.ty .u8,.call [2,3] (.tup [.agg (Af 2 3 z3.d),vO 4]) (.dK:: .dK::Ls z3.d (z22::z3.oJ))] (.lJ () [7,8,9])))) (.sZ [.as 110 z42,.ty .u8,.call [2,3] (.tup [.agg (Af 2 3 (Ae ⟨z1,[]⟩).d),vO 4]) (.dK:: .dK::Ls (Ae ⟨z1,[]⟩).d (z22::(Ae ⟨z1,[]⟩).oJ))] (.lJ () [6,7,8])))))) (.br (.sZ [.as 71 z44,.call [] z24 [],.br true,.call [2,3] (.tup [.agg (Af 2 3 (Ae ⟨z1,[]⟩).d),vO 4]) (.dK:: .dK::Ls (Ae ⟨z1,[]⟩).d (Ae ⟨z1,[]⟩).oJ)] (.lJ () [5,6,7])) (.br (.sZ [.as 71 z44,.call [] z24 [],.br false,.br false] (.br (.sZ [.call [2,3] (.tup [.agg (Af 2 3 (D8 ⟨z1,[]⟩ b).d),vO 4]) (.dK:: .dK::Ls (D8 ⟨z1,[]⟩ b).d (D8 ⟨z1,[]⟩ b).oJ)] (.lJ () [5,6,7])) (.sZ [.call [2,3] (.tup [.agg (Af 2 3 (B3 ⟨z1,[]⟩ b d.aJ).d),vO 4]) (.dK:: .dK::Ls (B3 ⟨z1,[]⟩ b d.aJ).d (B3 ⟨z1,[]⟩ b d.aJ).oJ)] (.lJ () [5,6,7])))) (.sZ [.call [] z24 [],.br false,.br false] (.br (.sZ [.call [2,3] (.tup [.agg (Af 2 3 (D8 ⟨z2,[]⟩ b).d),vO 4]) (.dK:: .dK::Ls (D8 ⟨z2,[]⟩ b).d (D8 ⟨z2,[]⟩ b).oJ)] (.lJ () [5,6,7])) (.sZ [.call [2,3] (.tup [.agg (Af 2 3 (B3 ⟨z2,[]⟩ b d.aJ).d),vO 4]) (.dK:: .dK::Ls (B3 ⟨z2,[]⟩ b d.aJ).d (B3 ⟨z2,[]⟩ b d.aJ).oJ)] (.lJ () [5,6,7])))))))) (.br (.sZ [.as 71 z44,.call [] z24 []] (.br (.sZ [.call [2,3] z28 z38] (.lJ () [5,6,7])) (.sZ [.br true] (.br (.sZ [.call [] z32 []] (.br (.sZ [.call [2,3] z54 z57] (.lJ () [6,7,8])) (.sZ [.as 110 z42,.ty .u8,.call [2,3] z47 z52] (.lJ () [7,8,9])))) (.sZ [.as 110 z42,.ty .u8,.call [2,3] z28 z53] (.lJ () [6,7,8])))))) (.br (.sZ [.as 71 z44,.call [] z24 [],.br true,.call [2,3] z28 z38] (.lJ () [5,6,7])) (.br (.sZ [.as 71 z44,.call [] z24 [],.br false,.br false] (.br (.sZ [.call [2,3] z48 (.dK:: .dK::Ls z34.d z34.oJ)] (.lJ () [5,6,7])) (.sZ [.call [2,3] z49 (.dK:: .dK::Ls z29.d z29.oJ)] (.lJ () [5,6,7])))) (.sZ [.call [] z24 [],.br false,.br false] (.br (.sZ [.call [2,3] z50 (.dK:: .dK::Ls z35.d z35.oJ)] (.lJ () [5,6,7])) (.sZ [.call [2,3] z51 (.dK:: .dK::Ls z30.d z30.oJ)] (.lJ () [5,6,7])))))))))))))),(Fp 59 [.agg (B9 d)] [] (.v (.agg (Af 0 1 d))) (L2 d))∧(Fp 60 [.agg (B9 d)] [] (.v (vB (Ce d))) [])∧Bc (!(Ce d)) z27 (Bc (decide (d.mJ=9)) z27 ((Fp 44 [vI b,vI 0,vI 255] [] (.v (vB (Ak b 0 255))) [])∧Bc (!(Ak b 0 255)) z27 (Bc (decide (d.aJ=1000000000)) z27 ((wI z56)∧Bc (decide (0<z20)) (El (d.sJ[Int.toNat (z20-1)]?) fun x1=>(let z9:=d.sJ[Int.toNat (z20-1)]? =some x1;let z10:=(⟨x1.mK,x1.left-1⟩:Lev);let z5:=(⟨d.pJ,d.mJ,List.set d.sJ z37 z10,d.sK,d.sX,d.aJ+1,d.field,d.wJ,d.wK-1,d.uJ,d.eJ⟩:Dcd);let z6:=(⟨d.pJ,d.mJ,List.set d.sJ z37 z10,d.sK,d.sX,d.aJ+1,d.field,d.wJ,d.wK,d.uJ,d.eJ⟩:Dcd);let z7:=Ae ⟨(⟨d.pJ,d.mJ,List.set d.sJ z37 z10,d.sK,d.sX,d.aJ+1,d.field,d.wJ,d.wK-1,z25,d.eJ⟩:Dcd),[]⟩;let z8:=List.set d.sJ z37 z10;z55∧z55∧z55∧z55∧z46∧z43∧z46∧z43∧z9∧z9∧(wI (x1.left-1))∧(wI (x1.left-1))∧z46∧z43∧z46∧z43∧z9∧Bc z33 ((wI z36)∧(Fp 61 [.agg (B9 d)] [] z24 [])∧Bc z31 ((Fp 62 [.agg z11] [.tree d.pJ.sQ,.lst .lev z8] (.tup [.agg (Af 2 3 (Ae ⟨z5,[]⟩).d),vO 4]) (.dK:: .dK::Ls (Ae ⟨z5,[]⟩).d (Ae ⟨z5,[]⟩).oJ))∧Lf (.tup [.agg (Af 0 1 (Ae ⟨z5,[]⟩).d),vO 2]) z19 (Ls (Ae ⟨z5,[]⟩).d (Ae ⟨z5,[]⟩).oJ) z21) ((z33=true)∧Bc (decide (d.field.kind=6)) ((Fp 63 [.agg (Pk d.uJ),vI b] [] z32 [])∧Bc (!z45.isSome) ((Fp 64 [.agg z11,vI 5,vI d.aJ] [.tree d.pJ.sQ,.lst .lev z8] (.tup [.agg (Af 2 3 (Ba z5 5 d.aJ)),vO 4]) (.dK:: .dK::Ls (Ba z5 5 d.aJ) [As 5 d.aJ]))∧Lf (.tup [.agg (Af 0 1 (Ba z5 5 d.aJ)),vO 2]) z19 (Ls (Ba z5 5 d.aJ) [As 5 d.aJ]) z21) (z26∧(Fp 65 [.agg z13,.agg z14] [.tree d.pJ.sQ,.lst .lev z8] (.tup [.agg (Af 2 3 z7.d),vO 4]) (.dK:: .dK::Ls z7.d (z22::z7.oJ)))∧Lf (.tup [.agg (Af 0 1 z7.d),vO 2]) z19 (Ls z7.d (z22::z7.oJ)) z21)) (z26∧(Fp 65 [.agg z11,.agg z14] [.tree d.pJ.sQ,.lst .lev z8] (.tup [.agg (Af 2 3 (Ae ⟨z5,[]⟩).d),vO 4]) (.dK:: .dK::Ls (Ae ⟨z5,[]⟩).d (z22::(Ae ⟨z5,[]⟩).oJ)))∧Lf (.tup [.agg (Af 0 1 (Ae ⟨z5,[]⟩).d),vO 2]) z19 (Ls (Ae ⟨z5,[]⟩).d (z22::(Ae ⟨z5,[]⟩).oJ)) z21))) (Bc z31 ((wI z36)∧(Fp 61 [.agg (B9 d)] [] z24 [])∧(z31=true)∧(Fp 62 [.agg z11] [.tree d.pJ.sQ,.lst .lev z8] (.tup [.agg (Af 2 3 (Ae ⟨z5,[]⟩).d),vO 4]) (.dK:: .dK::Ls (Ae ⟨z5,[]⟩).d (Ae ⟨z5,[]⟩).oJ))∧Lf (.tup [.agg (Af 0 1 (Ae ⟨z5,[]⟩).d),vO 2]) z19 (Ls (Ae ⟨z5,[]⟩).d (Ae ⟨z5,[]⟩).oJ) z21) (Bc (decide (d.mJ=8)) ((wI z36)∧(Fp 61 [.agg (B9 d)] [] z24 [])∧z58∧z59∧Bc z41 ((Fp 66 [.agg z11,vI b,vI (Bw d)] [.tree d.pJ.sQ,.lst .lev z8] (.tup [.agg (Af 2 3 (D8 ⟨z5,[]⟩ b).d),vO 4]) (.dK:: .dK::Ls (D8 ⟨z5,[]⟩ b).d (D8 ⟨z5,[]⟩ b).oJ))∧Lf (.tup [.agg (Af 0 1 (D8 ⟨z5,[]⟩ b).d),vO 2]) z19 (Ls (D8 ⟨z5,[]⟩ b).d (D8 ⟨z5,[]⟩ b).oJ) z21) ((Fp 67 [.agg z11,vI b,vI d.aJ] [.tree d.pJ.sQ,.lst .lev z8] (.tup [.agg (Af 2 3 (B3 ⟨z5,[]⟩ b d.aJ).d),vO 4]) (.dK:: .dK::Ls (B3 ⟨z5,[]⟩ b d.aJ).d (B3 ⟨z5,[]⟩ b d.aJ).oJ))∧Lf (.tup [.agg (Af 0 1 (B3 ⟨z5,[]⟩ b d.aJ).d),vO 2]) z19 (Ls (B3 ⟨z5,[]⟩ b d.aJ).d (B3 ⟨z5,[]⟩ b d.aJ).oJ) z21)) ((Fp 61 [.agg (B9 d)] [] z24 [])∧z58∧z59∧Bc z41 ((Fp 66 [.agg z12,vI b,vI (Bw d)] [.tree d.pJ.sQ,.lst .lev z8] (.tup [.agg (Af 2 3 (D8 ⟨z6,[]⟩ b).d),vO 4]) (.dK:: .dK::Ls (D8 ⟨z6,[]⟩ b).d (D8 ⟨z6,[]⟩ b).oJ))∧Lf (.tup [.agg (Af 0 1 (D8 ⟨z6,[]⟩ b).d),vO 2]) z19 (Ls (D8 ⟨z6,[]⟩ b).d (D8 ⟨z6,[]⟩ b).oJ) z21) ((Fp 67 [.agg z12,vI b,vI d.aJ] [.tree d.pJ.sQ,.lst .lev z8] (.tup [.agg (Af 2 3 (B3 ⟨z6,[]⟩ b d.aJ).d),vO 4]) (.dK:: .dK::Ls (B3 ⟨z6,[]⟩ b d.aJ).d (B3 ⟨z6,[]⟩ b d.aJ).oJ))∧Lf (.tup [.agg (Af 0 1 (B3 ⟨z6,[]⟩ b d.aJ).d),vO 2]) z19 (Ls (B3 ⟨z6,[]⟩ b d.aJ).d (B3 ⟨z6,[]⟩ b d.aJ).oJ) z21)))))) (Bc z33 ((wI z36)∧(Fp 61 [.agg (B9 d)] [] z24 [])∧Bc z31 ((Fp 62 [.agg z11] (L2 d) z28 z38)∧Lf z40 z19 (Ls z23.d z23.oJ) z21) ((z33=true)∧Bc (decide (d.field.kind=6)) ((Fp 63 [.agg (Pk d.uJ),vI b] [] z32 [])∧Bc (!z45.isSome) ((Fp 64 [.agg z11,vI 5,vI d.aJ] (L2 d) z54 z57)∧Lf (.tup [.agg (Af 0 1 z39),vO 2]) z19 (Ls z39 [As 5 d.aJ]) z21) (z26∧(Fp 65 [.agg z13,.agg z14] (L2 d) z47 z52)∧Lf (.tup [.agg (Af 0 1 z18.d),vO 2]) z19 (Ls z18.d (z22::z18.oJ)) z21)) (z26∧(Fp 65 [.agg z11,.agg z14] (L2 d) z28 z53)∧Lf z40 z19 (Ls z23.d (z22::z23.oJ)) z21))) (Bc z31 ((wI z36)∧(Fp 61 [.agg (B9 d)] [] z24 [])∧(z31=true)∧(Fp 62 [.agg z11] (L2 d) z28 z38)∧Lf z40 z19 (Ls z23.d z23.oJ) z21) (Bc (decide (d.mJ=8)) ((wI z36)∧(Fp 61 [.agg (B9 d)] [] z24 [])∧z58∧z59∧Bc z41 ((Fp 66 [.agg z11,vI b,vI (Bw d)] (L2 d) z48 (.dK:: .dK::Ls z34.d z34.oJ))∧Lf (.tup [.agg (Af 0 1 z34.d),vO 2]) z19 (Ls z34.d z34.oJ) z21) ((Fp 67 [.agg z11,vI b,vI d.aJ] (L2 d) z49 (.dK:: .dK::Ls z29.d z29.oJ))∧Lf (.tup [.agg (Af 0 1 z29.d),vO 2]) z19 (Ls z29.d z29.oJ) z21)) ((Fp 61 [.agg (B9 d)] [] z24 [])∧z58∧z59∧Bc z41 ((Fp 66 [.agg z12,vI b,vI (Bw d)] (L2 d) z50 (.dK:: .dK::Ls z35.d z35.oJ))∧Lf (.tup [.agg (Af 0 1 z35.d),vO 2]) z19 (Ls z35.d z35.oJ) z21) ((Fp 67 [.agg z12,vI b,vI d.aJ] (L2 d) z51 (.dK:: .dK::Ls z30.d z30.oJ))∧Lf (.tup [.agg (Af 0 1 z30.d),vO 2]) z19 (Ls z30.d z30.oJ) z21))))))))))) Q4 ?_
 refine⟨(Lr d Q2 (hp2) Q2),(Aev d Q2 Q2),fun h1=>have q1:=Ao h1;?_,fun h1=>have q1:=An h1;?_⟩
 exact zD ((Cs d b).d) d ((Cs d b).oJ) ([]:List Ev) (fun hm1 hm2=>⟨Q5,Q9⟩) W59 W59
 have hok:Ce d=true:=q1
 have hmw:=Abu hok hp4
 have hlv:=Cm hmw.lv
 have hpt:=By hlv.1
 have htb:=Jn hmw.lv
 have hbb:=hmw.b0
 have hat:=hmw.aJ
 have hwt:=hmw.wK
 have hwd:=Kz d
 refine dsp (fun h2 p2=>?_) fun h2 p2=>?_
 exact zD ((Cs d b).d) d ((Cs d b).oJ) ([]:List Ev) (fun hm1 hm2=>⟨Q5,Q9⟩) W59 W59
 have hst:=Abv hok (by simpa using h2)
 refine⟨(Bb _ _ _),fun h3=>have q3:=Ao h3;have p3:=A0 q3;?_,fun h3=>have q3:=An h3;have p3:=Av q3;?_⟩
 exact zD ((Cs d b).d) d ((Cs d b).oJ) ([]:List Ev) (fun hm1 hm2=>⟨Q5,Q9⟩) W59 W59
 have hwi:=Av q3
 refine dsp (fun h4 p4=>?_) fun h4 p4=>?_
 exact zD ((Cs d b).d) d ((Cs d b).oJ) ([]:List Ev) (fun hm1 hm2=>⟨Q5,Q9⟩) W59 W59
 have hms:=hmw.step hst.1 hst.2.1 hst.2.2.1
 have htk:Fc d=true:=by simp only[Fc,Bool.and_eq_true,Bool.not_eq_true',decide_eq_false_iff_not,decide_eq_true_eq];omega
 have hsb:Cs d b=Dw ⟨d,[]⟩ b:=by unfold Cs;rw[if_pos ⟨hok,htk,by assumption⟩]
 refine⟨(Ad Q2 Q2),dsp (fun h5 p5=>?_) fun h5 p5=>?_⟩
 have hne:d.sJ≠[]:=fun e=>by have:=congrArg List.length e;simp only[List.length_nil] at this;omega
 refine⟨(Bo (l:=d.sJ) (i:=Int.toNat (((d.sJ.length:Nat):Int)-1)) Q2),fun x1 hx1=>?_⟩
 have hll:=Kv (d:=d) (by rw[←hx1];congr 1;omega)
 have hix:Int.toNat ((d.sJ.length:Int)-1)=d.sJ.length-1:=by omega
 refine⟨(Ad Q2 Q2),(Ad Q2 Q2),(Ad Q2 Q2),(Ad Q2 Q2),Q2,Q2,Q2,Q2,hx1,hx1,(Ad Q2 Q2),(Ad Q2 Q2),Q2,Q2,Q2,Q2,hx1,dsp (fun h6 p6=>?_) fun h6 p6=>?_⟩
 refine⟨(Ad Q2 Q2),(Ky d),dsp (fun h7 p7=>?_) fun h7 p7=>?_⟩
 exact zM Mac.d Mac.oJ (Cs d b) (Ae ⟨(⟨d.pJ,d.mJ,List.set d.sJ (Int.toNat (((d.sJ.length:Nat):Int)-1)) (⟨x1.mK,x1.left-1⟩:Lev),d.sK,d.sX,d.aJ+1,d.field,d.wJ,d.wK-1,d.uJ,d.eJ⟩:Dcd),[]⟩) (fun hm1 hm2=>⟨(J3 (⟨d.pJ,d.mJ,List.set d.sJ (Int.toNat (((d.sJ.length:Nat):Int)-1)) (⟨x1.mK,x1.left-1⟩:Lev),d.sK,d.sX,d.aJ+1,d.field,d.wJ,d.wK-1,d.uJ,d.eJ⟩:Dcd) Q16),Q5,Q9⟩) W59 W59
 refine⟨h6,dsp (fun h8 p8=>?_) fun h8 p8=>?_⟩
 refine⟨(Uj d.uJ _),fun h9=>have q9:=Ao h9;?_,fun h9=>have q9:=An h9;?_⟩
 have hu:B8 d.uJ b=none:=by simpa using q9
 exact zD ((Cs d b).d) (Ba (⟨d.pJ,d.mJ,List.set d.sJ (Int.toNat (((d.sJ.length:Nat):Int)-1)) (⟨x1.mK,x1.left-1⟩:Lev),d.sK,d.sX,d.aJ+1,d.field,d.wJ,d.wK-1,d.uJ,d.eJ⟩:Dcd) 5 d.aJ) ((Cs d b).oJ) [As 5 d.aJ] (fun hm1 hm2=>⟨(De (⟨d.pJ,d.mJ,List.set d.sJ (Int.toNat (((d.sJ.length:Nat):Int)-1)) (⟨x1.mK,x1.left-1⟩:Lev),d.sK,d.sX,d.aJ+1,d.field,d.wJ,d.wK-1,d.uJ,d.eJ⟩:Dcd) _ _),Q5,Q9⟩) W59 W59
 obtain ⟨u,hu⟩:=Option.isSome_iff_exists.1 q9
 have hug:(B8 d.uJ b).getD d.uJ=u:=by rw[hu];rfl
 exact zD ((Cs d b).d) ((Ae ⟨(⟨d.pJ,d.mJ,List.set d.sJ (Int.toNat (((d.sJ.length:Nat):Int)-1)) (⟨x1.mK,x1.left-1⟩:Lev),d.sK,d.sX,d.aJ+1,d.field,d.wJ,d.wK-1,((B8 d.uJ b).getD d.uJ),d.eJ⟩:Dcd),[]⟩).d) ((Cs d b).oJ) ((⟨4,0,0,0,List.map Bj [b],0,0⟩:Ev)::(Ae ⟨(⟨d.pJ,d.mJ,List.set d.sJ (Int.toNat (((d.sJ.length:Nat):Int)-1)) (⟨x1.mK,x1.left-1⟩:Lev),d.sK,d.sX,d.aJ+1,d.field,d.wJ,d.wK-1,((B8 d.uJ b).getD d.uJ),d.eJ⟩:Dcd),[]⟩).oJ) (fun hm1 hm2=>⟨(Nd Q2 Q2),(J4 (⟨d.pJ,d.mJ,List.set d.sJ (Int.toNat (((d.sJ.length:Nat):Int)-1)) (⟨x1.mK,x1.left-1⟩:Lev),d.sK,d.sX,d.aJ+1,d.field,d.wJ,d.wK-1,((B8 d.uJ b).getD d.uJ),d.eJ⟩:Dcd) (⟨4,0,0,0,List.map Bj [b],0,0⟩:Ev) Q16),Q5,Q9⟩) W59 W59
 exact zD ((Cs d b).d) ((Ae ⟨(⟨d.pJ,d.mJ,List.set d.sJ (Int.toNat (((d.sJ.length:Nat):Int)-1)) (⟨x1.mK,x1.left-1⟩:Lev),d.sK,d.sX,d.aJ+1,d.field,d.wJ,d.wK-1,d.uJ,d.eJ⟩:Dcd),[]⟩).d) ((Cs d b).oJ) ((⟨4,0,0,0,List.map Bj [b],0,0⟩:Ev)::(Ae ⟨(⟨d.pJ,d.mJ,List.set d.sJ (Int.toNat (((d.sJ.length:Nat):Int)-1)) (⟨x1.mK,x1.left-1⟩:Lev),d.sK,d.sX,d.aJ+1,d.field,d.wJ,d.wK-1,d.uJ,d.eJ⟩:Dcd),[]⟩).oJ) (fun hm1 hm2=>⟨(Nd Q2 Q2),(J4 (⟨d.pJ,d.mJ,List.set d.sJ (Int.toNat (((d.sJ.length:Nat):Int)-1)) (⟨x1.mK,x1.left-1⟩:Lev),d.sK,d.sX,d.aJ+1,d.field,d.wJ,d.wK-1,d.uJ,d.eJ⟩:Dcd) (⟨4,0,0,0,List.map Bj [b],0,0⟩:Ev) Q16),Q5,Q9⟩) W59 W59
 refine dsp (fun h7 p7=>?_) fun h7 p7=>?_
 exact zM Mac.d Mac.oJ (Cs d b) (Ae ⟨(⟨d.pJ,d.mJ,List.set d.sJ (Int.toNat (((d.sJ.length:Nat):Int)-1)) (⟨x1.mK,x1.left-1⟩:Lev),d.sK,d.sX,d.aJ+1,d.field,d.wJ,d.wK-1,d.uJ,d.eJ⟩:Dcd),[]⟩) (fun hm1 hm2=>⟨(Ad Q2 Q2),(Ky d),h7,(J3 (⟨d.pJ,d.mJ,List.set d.sJ (Int.toNat (((d.sJ.length:Nat):Int)-1)) (⟨x1.mK,x1.left-1⟩:Lev),d.sK,d.sX,d.aJ+1,d.field,d.wJ,d.wK-1,d.uJ,d.eJ⟩:Dcd) Q16),Q5,Q9⟩) W59 W59
 refine dsp (fun h8 p8=>?_) fun h8 p8=>?_
 refine⟨(Ad Q2 Q2),(Ky d),h7,h6,dsp (fun h9 p9=>?_) fun h9 p9=>?_⟩
 exact zM Mac.d Mac.oJ (Cs d b) (D8 ⟨(⟨d.pJ,d.mJ,List.set d.sJ (Int.toNat (((d.sJ.length:Nat):Int)-1)) (⟨x1.mK,x1.left-1⟩:Lev),d.sK,d.sX,d.aJ+1,d.field,d.wJ,d.wK-1,d.uJ,d.eJ⟩:Dcd),[]⟩ b) (fun hm1 hm2=>⟨(Ab2 (⟨d.pJ,d.mJ,List.set d.sJ (Int.toNat (((d.sJ.length:Nat):Int)-1)) (⟨x1.mK,x1.left-1⟩:Lev),d.sK,d.sX,d.aJ+1,d.field,d.wJ,d.wK-1,d.uJ,d.eJ⟩:Dcd) _ _ (Q45) Q2 Q7 (hst.2.2.2.1)),Q5,Q9⟩) W59 W59
 exact zM Mac.d Mac.oJ (Cs d b) (B3 ⟨(⟨d.pJ,d.mJ,List.set d.sJ (Int.toNat (((d.sJ.length:Nat):Int)-1)) (⟨x1.mK,x1.left-1⟩:Lev),d.sK,d.sX,d.aJ+1,d.field,d.wJ,d.wK-1,d.uJ,d.eJ⟩:Dcd),[]⟩ b d.aJ) (fun hm1 hm2=>⟨(Xm (⟨d.pJ,d.mJ,List.set d.sJ (Int.toNat (((d.sJ.length:Nat):Int)-1)) (⟨x1.mK,x1.left-1⟩:Lev),d.sK,d.sX,d.aJ+1,d.field,d.wJ,d.wK-1,d.uJ,d.eJ⟩:Dcd) _ _ (Q45) Q2),Q5,Q9⟩) W59 W59
 refine⟨(Ky d),h7,h6,dsp (fun h9 p9=>?_) fun h9 p9=>?_⟩
 exact zM Mac.d Mac.oJ (Cs d b) (D8 ⟨(⟨d.pJ,d.mJ,List.set d.sJ (Int.toNat (((d.sJ.length:Nat):Int)-1)) (⟨x1.mK,x1.left-1⟩:Lev),d.sK,d.sX,d.aJ+1,d.field,d.wJ,d.wK,d.uJ,d.eJ⟩:Dcd),[]⟩ b) (fun hm1 hm2=>⟨(Ab2 (⟨d.pJ,d.mJ,List.set d.sJ (Int.toNat (((d.sJ.length:Nat):Int)-1)) (⟨x1.mK,x1.left-1⟩:Lev),d.sK,d.sX,d.aJ+1,d.field,d.wJ,d.wK,d.uJ,d.eJ⟩:Dcd) _ _ (Q48) Q2 Q7 (hst.2.2.2.1)),Q5,Q9⟩) W59 W59
 exact zM Mac.d Mac.oJ (Cs d b) (B3 ⟨(⟨d.pJ,d.mJ,List.set d.sJ (Int.toNat (((d.sJ.length:Nat):Int)-1)) (⟨x1.mK,x1.left-1⟩:Lev),d.sK,d.sX,d.aJ+1,d.field,d.wJ,d.wK,d.uJ,d.eJ⟩:Dcd),[]⟩ b d.aJ) (fun hm1 hm2=>⟨(Xm (⟨d.pJ,d.mJ,List.set d.sJ (Int.toNat (((d.sJ.length:Nat):Int)-1)) (⟨x1.mK,x1.left-1⟩:Lev),d.sK,d.sX,d.aJ+1,d.field,d.wJ,d.wK,d.uJ,d.eJ⟩:Dcd) _ _ (Q48) Q2),Q5,Q9⟩) W59 W59
 have hne:d.sJ=[]:=List.eq_nil_of_length_eq_zero (by omega)
 refine dsp (fun h6 p6=>?_) fun h6 p6=>?_
 refine⟨(Ad Q2 Q2),(Ky d),dsp (fun h7 p7=>?_) fun h7 p7=>?_⟩
 exact zM Mac.d Mac.oJ (Cs d b) (Ae ⟨(⟨d.pJ,d.mJ,d.sJ,d.sK,d.sX,d.aJ+1,d.field,d.wJ,d.wK-1,d.uJ,d.eJ⟩:Dcd),[]⟩) (fun hm1 hm2=>⟨(J3 (⟨d.pJ,d.mJ,d.sJ,d.sK,d.sX,d.aJ+1,d.field,d.wJ,d.wK-1,d.uJ,d.eJ⟩:Dcd) Q7),Q5,Q9⟩) W59 W59
 refine⟨h6,dsp (fun h8 p8=>?_) fun h8 p8=>?_⟩
 refine⟨(Uj d.uJ _),fun h9=>have q9:=Ao h9;?_,fun h9=>have q9:=An h9;?_⟩
 have hu:B8 d.uJ b=none:=by simpa using q9
 exact zD ((Cs d b).d) (Ba (⟨d.pJ,d.mJ,d.sJ,d.sK,d.sX,d.aJ+1,d.field,d.wJ,d.wK-1,d.uJ,d.eJ⟩:Dcd) 5 d.aJ) ((Cs d b).oJ) [As 5 d.aJ] (fun hm1 hm2=>⟨(De (⟨d.pJ,d.mJ,d.sJ,d.sK,d.sX,d.aJ+1,d.field,d.wJ,d.wK-1,d.uJ,d.eJ⟩:Dcd) _ _),Q5,Q9⟩) W59 W59
 obtain ⟨u,hu⟩:=Option.isSome_iff_exists.1 q9
 have hug:(B8 d.uJ b).getD d.uJ=u:=by rw[hu];rfl
 exact zD ((Cs d b).d) ((Ae ⟨(⟨d.pJ,d.mJ,d.sJ,d.sK,d.sX,d.aJ+1,d.field,d.wJ,d.wK-1,((B8 d.uJ b).getD d.uJ),d.eJ⟩:Dcd),[]⟩).d) ((Cs d b).oJ) ((⟨4,0,0,0,List.map Bj [b],0,0⟩:Ev)::(Ae ⟨(⟨d.pJ,d.mJ,d.sJ,d.sK,d.sX,d.aJ+1,d.field,d.wJ,d.wK-1,((B8 d.uJ b).getD d.uJ),d.eJ⟩:Dcd),[]⟩).oJ) (fun hm1 hm2=>⟨(Nd Q2 Q2),(J4 (⟨d.pJ,d.mJ,d.sJ,d.sK,d.sX,d.aJ+1,d.field,d.wJ,d.wK-1,((B8 d.uJ b).getD d.uJ),d.eJ⟩:Dcd) (⟨4,0,0,0,List.map Bj [b],0,0⟩:Ev) Q7),Q5,Q9⟩) W59 W59
 exact zD ((Cs d b).d) ((Ae ⟨(⟨d.pJ,d.mJ,d.sJ,d.sK,d.sX,d.aJ+1,d.field,d.wJ,d.wK-1,d.uJ,d.eJ⟩:Dcd),[]⟩).d) ((Cs d b).oJ) ((⟨4,0,0,0,List.map Bj [b],0,0⟩:Ev)::(Ae ⟨(⟨d.pJ,d.mJ,d.sJ,d.sK,d.sX,d.aJ+1,d.field,d.wJ,d.wK-1,d.uJ,d.eJ⟩:Dcd),[]⟩).oJ) (fun hm1 hm2=>⟨(Nd Q2 Q2),(J4 (⟨d.pJ,d.mJ,d.sJ,d.sK,d.sX,d.aJ+1,d.field,d.wJ,d.wK-1,d.uJ,d.eJ⟩:Dcd) (⟨4,0,0,0,List.map Bj [b],0,0⟩:Ev) Q7),Q5,Q9⟩) W59 W59
 refine dsp (fun h7 p7=>?_) fun h7 p7=>?_
 exact zM Mac.d Mac.oJ (Cs d b) (Ae ⟨(⟨d.pJ,d.mJ,d.sJ,d.sK,d.sX,d.aJ+1,d.field,d.wJ,d.wK-1,d.uJ,d.eJ⟩:Dcd),[]⟩) (fun hm1 hm2=>⟨(Ad Q2 Q2),(Ky d),h7,(J3 (⟨d.pJ,d.mJ,d.sJ,d.sK,d.sX,d.aJ+1,d.field,d.wJ,d.wK-1,d.uJ,d.eJ⟩:Dcd) Q7),Q5,Q9⟩) W59 W59
 refine dsp (fun h8 p8=>?_) fun h8 p8=>?_
 refine⟨(Ad Q2 Q2),(Ky d),h7,h6,dsp (fun h9 p9=>?_) fun h9 p9=>?_⟩
 exact zM Mac.d Mac.oJ (Cs d b) (D8 ⟨(⟨d.pJ,d.mJ,d.sJ,d.sK,d.sX,d.aJ+1,d.field,d.wJ,d.wK-1,d.uJ,d.eJ⟩:Dcd),[]⟩ b) (fun hm1 hm2=>⟨(Ab2 (⟨d.pJ,d.mJ,d.sJ,d.sK,d.sX,d.aJ+1,d.field,d.wJ,d.wK-1,d.uJ,d.eJ⟩:Dcd) _ _ (Q61) Q2 Q7 (hst.2.2.2.1)),Q5,Q9⟩) W59 W59
 exact zM Mac.d Mac.oJ (Cs d b) (B3 ⟨(⟨d.pJ,d.mJ,d.sJ,d.sK,d.sX,d.aJ+1,d.field,d.wJ,d.wK-1,d.uJ,d.eJ⟩:Dcd),[]⟩ b d.aJ) (fun hm1 hm2=>⟨(Xm (⟨d.pJ,d.mJ,d.sJ,d.sK,d.sX,d.aJ+1,d.field,d.wJ,d.wK-1,d.uJ,d.eJ⟩:Dcd) _ _ (Q61) Q2),Q5,Q9⟩) W59 W59
 refine⟨(Ky d),h7,h6,dsp (fun h9 p9=>?_) fun h9 p9=>?_⟩
 exact zM Mac.d Mac.oJ (Cs d b) (D8 ⟨(⟨d.pJ,d.mJ,d.sJ,d.sK,d.sX,d.aJ+1,d.field,d.wJ,d.wK,d.uJ,d.eJ⟩:Dcd),[]⟩ b) (fun hm1 hm2=>⟨(Ab2 (⟨d.pJ,d.mJ,d.sJ,d.sK,d.sX,d.aJ+1,d.field,d.wJ,d.wK,d.uJ,d.eJ⟩:Dcd) _ _ (Q62) Q2 Q7 (hst.2.2.2.1)),Q5,Q9⟩) W59 W59
 exact zM Mac.d Mac.oJ (Cs d b) (B3 ⟨(⟨d.pJ,d.mJ,d.sJ,d.sK,d.sX,d.aJ+1,d.field,d.wJ,d.wK,d.uJ,d.eJ⟩:Dcd),[]⟩ b d.aJ) (fun hm1 hm2=>⟨(Xm (⟨d.pJ,d.mJ,d.sJ,d.sK,d.sX,d.aJ+1,d.field,d.wJ,d.wK,d.uJ,d.eJ⟩:Dcd) _ _ (Q62) Q2),Q5,Q9⟩) W59 W59
structure Mu where
 d:Dcd
 oJ:List Ev
 i:Nat
def Mv (d:Dcd) (s:List UInt8):Fam:=⟨Mu,fun q1=>[(1,.v (vT s)),(2,.v (vP 0)),(4,.v (vP 3)),(6,.v (vO 4)),(7,.v (vI ((q1.i:Nat):Int)))],fun q1=>[.cells (Af 1 2 q1.d),.tree q1.d.pJ.sQ,.lst .lev q1.d.sJ,.cells [.nil,.int .i64 0,.int .i64 0,.int .i64 0,.int .i64 0,.nil,.int .u64 0,.int .i64 0,.int .i64 0,.int .i64 0,.int .i64 0,.int .i64 0,.bool false,.bool false,.int .i64 0,.int .i64 0,.int .i64 0,.int .i64 0,.int .i64 0,.int .i64 0,.int .i64 0,.int .i64 0,.int .u64 0,.int .i64 0,.str [],.int .i64 0,.int .i64 0],.lst .ev q1.oJ],fun q1=>q1.i≤List.length s∧Cb ⟨q1.d,q1.oJ⟩ (List.drop q1.i s)=Cb ⟨d,[]⟩ s∧(q1.d).pJ=d.pJ∧List.length (q1.d).sJ≤1048576∧((0:Int)≤(q1.d).sK.bits∧(q1.d).sK.bits≤18446744073709551615)∧List.length q1.oJ≤14*q1.i,fun q1=>List.length s-q1.i⟩
theorem Ako (d:Dcd) (s:List UInt8) (hp1:List.length (d).pJ.sQ≤1048576) (hp2: ∀e∈(d).pJ.sQ,e.fJ.length≤1048576) (hp3:List.length (d).sJ≤1048576) (hp4:(0:Int)≤(d).sK.bits∧(d).sK.bits≤18446744073709551615) (hp5:s.length≤1048576):Fun Tryz.prog 155 [.agg (B9 d),vT s] [] (.tup [.agg (Af 0 1 (Cb ⟨d,[]⟩ s).d),vO 2]) [.tree (Cb ⟨d,[]⟩ s).d.pJ.sQ,.lst .lev (Cb ⟨d,[]⟩ s).d.sJ,.lst .ev (Cb ⟨d,[]⟩ s).oJ]:=by
 have hN:Bh=274877906944:=rfl
 refine Ar Tryz.func155 Q4 Q4 (w:=let zi:Int→C:= .int .i64;let z5:List C:=[.nil,zi 0,zi 0,zi 0,zi 0,.nil,.int .u64 0,zi 0,zi 0,zi 0,zi 0,zi 0,.bool false,.bool false,zi 0,zi 0,zi 0,zi 0,zi 0,zi 0,zi 0,zi 0,.int .u64 0,zi 0,.str [],zi 0,zi 0];let z6:=Mv d s;(.sZ [.call [] (.v (.agg (Af 0 1 d))) (L2 d),.ty .ev,.at 0,.keep [1,2,4,6,7],.sel [0,2,3,1,4]] (.loop z6 fun q1=> .br (.intro (Sx (s[q1.i]?)) fun x1=>let z1:=Cs q1.d ((UInt8.toNat x1:Nat):Int);.sZ [.tree (fr (.two 5 (fr (.one 9 (.one 10 (.first 11 (.done)))) 6 3) 9 (.one 5 (fr (.one 10 (.first 11 (.done))) 6 3))) 0 5) 12 [],.ch x1,.as 24 (.v (vI ((UInt8.toNat x1:Nat):Int))),.call [] (.tup [.agg (Af 0 1 z1.d),vO 2]) (Ls z1.d z1.oJ),.at 0,.keep [1,2,4,6,7,8,9],.sel [0,1,2,3,4,8,5,6,7],.call [] (.tup [.agg (Af 0 1 z1.d),vO 2]) (Ls z1.d z1.oJ),.at 0,.keep [1,2,4,6,7,8,9],.sel [0,1,2,3,4,5,6,7,8],.ty .ev,.as 18 (.v (vI (((q1.i:Nat):Int)+1))),.at 0,.keep [1,2,4,6,7],.sel [0,6,7,3,9]] (.next)) (.lJ () [1,2,4])),(Fp 59 [.agg (B9 d)] [] (.v (.agg (Af 0 1 d))) (L2 d))∧z6.Has [(1,.v (vT s)),(2,.v (vP 0)),(4,.v (vP 3)),(6,.v (vO 4)),(7,.v (vI 0))] [.cells (Af 1 2 d),.tree d.pJ.sQ,.lst .lev d.sJ,.cells z5,.lst .ev ([]:List Ev)]∧∀q1,z6.inv q1→(let z4:=((q1.i:Nat):Int);Bc (decide (z4<((s.length:Nat):Int))) (El (s[q1.i]?) fun x1=>(let z3:=((UInt8.toNat x1:Nat):Int);let z2:=Cs q1.d z3;(s[q1.i]? =some x1)∧((0:Int)≤z4)∧(s[q1.i]? =some x1)∧((0:Int)≤z4)∧(wI (z3))∧(wI (z3))∧(Fp 24 [.agg (B9 q1.d),vI z3] [] (.tup [.agg (Af 0 1 z2.d),vO 2]) (Ls z2.d z2.oJ))∧(Fp 24 [.agg (B9 q1.d),vI z3] [] (.tup [.agg (Af 0 1 z2.d),vO 2]) (Ls z2.d z2.oJ))∧(([.cells (Af 1 2 q1.d),.tree q1.d.pJ.sQ,.lst .lev q1.d.sJ,.cells z5,.lst .ev q1.oJ,.cells (Af 6 7 z2.d),.tree z2.d.pJ.sQ,.lst .lev z2.d.sJ,.lst .ev z2.oJ]:List Blk)=[.cells (Af 1 2 q1.d),.tree q1.d.pJ.sQ,.lst .lev q1.d.sJ,.cells z5,.lst .ev q1.oJ,.cells (Af 6 7 z2.d),.tree z2.d.pJ.sQ,.lst .lev z2.d.sJ,.lst .ev z2.oJ])∧(([(1,.v (vT s)),(2,.v (vP 0)),(4,.v (vP 3)),(6,.v (vO 4)),(7,.v (vI z4)),(8,.v (vP 5)),(9,.v (vO 8))]:List (Nat×S))=[(1,.v (vT s)),(2,.v (vP 0)),(4,.v (vP 3)),(6,.v (vO 4)),(7,.v (vI z4)),(8,.v (vP 5)),(9,.v (vO 8))])∧(q1.oJ.length+z2.oJ.length≤Bh)∧(wI (z4+1))∧z6.Nxt q1 [(1,.v (vT s)),(2,.v (vP 0)),(4,.v (vP 3)),(6,.v (vO 4)),(7,.v (vI (z4+1)))] [.cells (Af 1 2 z2.d),.tree z2.d.pJ.sQ,.lst .lev z2.d.sJ,.cells z5,.lst .ev (q1.oJ++z2.oJ)])) (Lf (.tup [.agg (Af 0 1 q1.d),vO 2]) (.tup [.agg (Af 0 1 (Cb ⟨d,[]⟩ s).d),vO 2]) (Ls q1.d q1.oJ) (Ls (Cb ⟨d,[]⟩ s).d (Cb ⟨d,[]⟩ s).oJ))))) Q4 ?_
 refine⟨(Lr d Q2 (Q63) Q2),Bp (j:=(⟨d,([]:List Ev),0⟩:Mu)) Q8 rfl (by dsimp only[Mv];exact⟨by omega,rfl,rfl,hp3,hp4,by simp⟩),fun (q1:Mu) hq_q1=>?_⟩
 have hi_q1:q1.i≤s.length∧Cb ⟨q1.d,q1.oJ⟩ (List.drop q1.i s)=Cb ⟨d,[]⟩ s∧(q1.d).pJ=d.pJ∧List.length (q1.d).sJ≤1048576∧((0:Int)≤(q1.d).sK.bits∧(q1.d).sK.bits≤18446744073709551615)∧q1.oJ.length≤14*q1.i:=hq_q1
 obtain ⟨v1,v2,v3,v4,v5,v6⟩:=hi_q1
 have hsl:q1.d.pJ.sQ.length=d.pJ.sQ.length:=by rw[v3]
 have hsf: ∀e∈q1.d.pJ.sQ,e.fJ.length≤1048576:=by rw[v3];exact hp2
 refine dsp (fun h1 p1=>?_) fun h1 p1=>?_
 refine⟨(Bo (l:=s) (i:=q1.i) Q2),fun x1 hx1=>?_⟩
 have hb_x1:=UInt8.toNat_lt x1
 rw[C3 hx1,Fh] at v2
 have hub:=Atq x1
 have hl:=Yt (d:=q1.d) (b:=((x1.toNat:Nat):Int))
 exact⟨hx1,Q2,hx1,Q2,(Ad Q2 Q2),(Ad Q2 Q2),(Akn q1.d _ Q2 (Q63) Q2 Q2),(Akn q1.d _ Q2 (Q63) Q2 Q2),rfl,rfl,Q2,(Ad Q2 Q2),A6 (j:=(⟨(Cs q1.d ((UInt8.toNat x1:Nat):Int)).d,q1.oJ++(Cs q1.d ((UInt8.toNat x1:Nat):Int)).oJ,q1.i+1⟩:Mu)) Q8 rfl (by dsimp only[Mv];exact⟨by omega,by rw[←v2];rfl,hl.1.trans v3,by omega,hl.2.2.2 v5,by rw[List.length_append];omega⟩) (by dsimp only[Mv];omega)⟩
 rw[List.drop_eq_nil_of_le (by omega),Ut] at v2
 exact zD ((Cb ⟨d,[]⟩ s).d) q1.d ((Cb ⟨d,[]⟩ s).oJ) q1.oJ (fun hm1 hm2=>⟨Q5,Q9⟩) W60 W60
theorem F1 (s:List UInt8):List.map Bj (List.map (fun b=>(UInt8.toNat b:Int)) s)=s:=by
 rw[List.map_map]
 conv=>rhs;rw[←List.map_id s]
 apply List.map_congr_left
 intro b _
 simp[Bj]
def Pw (l:List Ev):Ev:=l.getD (l.length-1) ev0
def Np (e:Ev) (t:List UInt8):Ev:=⟨e.kind,e.field,e.bits,e.len,t,e.code,e.aJ⟩
def tx:List Ev→Nat
 |[]=>0
 |e::r=>e.text.length+tx r
def Fq (o:List Ev) (e:Ev):List Ev:=
 if e.kind=4∧e.text=[] then o
 else if e.kind=4∧0<o.length∧(Pw o).kind=4 then o.set (o.length-1) (Np (Pw o) ((Pw o).text++e.text))
 else o++[e]
def Ea (o l:List Ev):List Ev:=l.foldl Fq o
def Ca (l:List Ev):List Ev:=Ea [] l
theorem Vo (o:List Ev):Ea o []=o:=rfl
theorem E8 (o:List Ev) (e:Ev) (r:List Ev):Ea o (e::r)=Ea (Fq o e) r:=List.foldl_cons ..
theorem Lu: ∀(a b:List Ev),tx (a++b)=tx a+tx b
 |[],b=>by simp[tx]
 |e::r,b=>by rw[List.cons_append,tx,tx,Lu r b];omega
theorem Ap5: ∀ {l:List Ev} {i:Nat} {x:Ev},l[i]? =some x→x.text.length≤tx l
 |[],i,x,h=>by simp at h
 |y::r,0,x,h=>by simp at h;subst h;rw[tx];omega
 |y::r,i+1,x,h=>by
  have:=Ap5 (l:=r) (i:=i) (x:=x) (by simpa using h)
  rw[tx];omega
theorem Akp: ∀ {l:List Ev} {i:Nat} {x:Ev} (t:List UInt8),l[i]? =some x→tx (l.set i (Np x (x.text++t)))=tx l+t.length
 |[],i,x,t,h=>by simp at h
 |y::r,0,x,t,h=>by simp at h;subst h;simp only[List.set_cons_zero,tx,Np,List.length_append];omega
 |y::r,i+1,x,t,h=>by
  have:=Akp (l:=r) (i:=i) (x:=x) t (by simpa using h)
  simp only[List.set_cons_succ,tx,this];omega
theorem Xn {l:List Ev} {x:Ev} (h:l[l.length-1]? =some x):Pw l=x:=by unfold Pw;exact Va h
theorem Nq (o:List Ev) (e:Ev):Pw (o++[e])=e:=Xn (by simp)
theorem Hk {o:List Ev} {e:Ev} (h:e.kind=4) (ht:e.text=[]):Fq o e=o:=by unfold Fq;rw[if_pos ⟨h,ht⟩]
theorem Hr {o:List Ev} {e:Ev} (h:e.kind≠4):Fq o e=o++[e]:=by unfold Fq;rw[if_neg (fun x=>h x.1),if_neg (fun x=>h x.1)]
theorem Hs {o:List Ev} {e:Ev} (ht:e.text≠[]) (hs: ¬(0<o.length∧(Pw o).kind=4)):Fq o e=o++[e]:=by unfold Fq;rw[if_neg (fun x=>ht x.2),if_neg (fun x=>hs x.2)]
theorem Yw {o:List Ev} {e x:Ev} (hk:e.kind=4) (ht:e.text≠[]) (h0:0<o.length) (hx:o[o.length-1]? =some x) (hx4:x.kind=4):Fq o e=o.set (o.length-1) (Np x (x.text++e.text)):=by
 unfold Fq
 rw[if_neg (fun y=>ht y.2),if_pos ⟨hk,h0,by rw[Xn hx];exact hx4⟩,Xn hx]
theorem Yx {o:List Ev} {e f:Ev} {t:List UInt8} (hk:e.kind=4) (ht:e.text≠[]) (hf:f.kind=4):Fq (o++[Np f t]) e=o++[Np f (t++e.text)]:=by
 rw[Yw (x:=Np f t) hk ht (by simp) (by simp) hf]
 have e1:(o++[Np f t]).length-1=o.length:=by simp
 rw[e1,List.set_append_right _ _ (Nat.le_refl _)]
 simp[Np]
def sep (o r:List Ev):Prop:= ∀x q,r=x::q→x.kind=4→¬(0<o.length∧(Pw o).kind=4)
theorem Aso {o l:List Ev} {i:Nat} {x:Ev} (h:sep o (l.drop i)) (hx:l[i]? =some x) (hk:x.kind=4): ¬(0<o.length∧(Pw o).kind=4):=h x _ (C3 hx) hk
theorem Akq {o r:List Ev} {e:Ev} (h:e.kind≠4):sep (o++[e]) r:=fun _ _ _ _ x=>h (by rw[Nq] at x;exact x.2)
theorem Aq3 {r:List Ev} :sep [] r:=fun _ _ _ _ x=>absurd x.1 (Nat.lt_irrefl 0)
theorem Agf {o l:List Ev} {i:Nat} (h:l.length≤i∨∃x,l[i]? =some x∧x.kind≠4):sep o (l.drop i):=by
 intro x q hx hk
 exfalso
 rcases h with h|⟨y,hy,hn⟩
 ·rw[List.drop_eq_nil_of_le h] at hx;cases hx
 ·rw[C3 hy] at hx
  cases hx
  exact hn hk
theorem Yy {o:List Ev} {f e:Ev} {t:List UInt8} (hf:f.kind=4) (hk:e.kind=4):Fq (o++[Np f t]) e=o++[Np f (t++e.text)]:=by
 by_cases ht:e.text=[]
 ·rw[Hk hk ht,ht,List.append_nil]
 ·exact Yx hk ht hf
def Ab3 (o:List Ev) (f:Ev) (t:List UInt8) (fd:Bool) (r m:List Ev):Prop:=(fd=true→f.kind=4∧Ea (o++[Np f t]) r=m)∧(fd=false→t=[]∧Ea o r=m)
theorem An7 {o r m:List Ev} {e:Ev} (hk:e.kind=4) (hs: ¬(0<o.length∧(Pw o).kind=4)) (h:Ea (Fq o e) r=m):Ab3 o e e.text (!decide (e.text=[])) r m:=by
 by_cases ht:e.text=[]
 ·rw[Hk hk ht] at h;exact⟨fun x=>by simp[ht] at x,fun _=>⟨ht,h⟩⟩
 ·rw[Hs ht hs] at h;exact⟨fun _=>⟨hk,h⟩,fun x=>by simp[ht] at x⟩
theorem Auc {o r m:List Ev} {f x:Ev} {t:List UInt8} {fd:Bool} (h:Ab3 o f t fd (x::r) m) (hk:x.kind=4) (hf:fd=true):Ab3 o f (t++x.text) fd r m:=by
 have h1:=h.1 hf
 refine⟨fun _=>⟨h1.1,?_⟩,fun y=>by rw[hf] at y;cases y⟩
 rw[E8,Yy h1.1 hk] at h1
 exact h1.2
theorem Aud {o r m:List Ev} {f x:Ev} {t:List UInt8} {fd:Bool} (h:Ab3 o f t fd (x::r) m) (hk:x.kind=4) (ht:x.text≠[]) (hf:fd=false) (hs: ¬(0<o.length∧(Pw o).kind=4)):Ab3 o x (t++x.text) true r m:=by
 have h1:=h.2 hf
 refine⟨fun _=>⟨hk,?_⟩,fun y=>by cases y⟩
 rw[E8,Hs ht hs] at h1
 rw[h1.1]
 exact h1.2
theorem Aue {o r m:List Ev} {f x:Ev} {t:List UInt8} {fd:Bool} (h:Ab3 o f t fd (x::r) m) (hk:x.kind=4) (ht:x.text=[]) (hf:fd=false):Ab3 o f (t++x.text) fd r m:=by
 have h1:=h.2 hf
 refine⟨fun y=>(by rw[hf] at y;cases y),fun _=>⟨by rw[h1.1,ht];rfl,?_⟩⟩
 rw[E8,Hk hk ht] at h1
 exact h1.2
theorem Akr: ∀(l:List Ev) (i:Nat),tx (l.drop i)≤tx l
 |[],i=>by simp[tx]
 |e::r,0=>Nat.le_refl _
 |e::r,i+1=>by have:=Akr r i;rw[List.drop_succ_cons,tx];omega
theorem Aho (o:List Ev) (e:Ev):(Fq o e).length≤o.length+1:=by
 unfold Fq
 split
 ·omega
 ·split<;>simp
theorem Aav: ∀(l o:List Ev),(Ea o l).length≤o.length+l.length
 |[],o=>Nat.le_refl _
 |e::r,o=>by
  have h1:=Aho o e
  have h2:=Aav r (Fq o e)
  rw[E8,List.length_cons];omega
theorem Aaw (l:List Ev):(Ca l).length≤l.length:=by have:=Aav l [];simpa [Ca] using this
structure Gg where
 oJ:List Ev
 i:Nat
def Px (l:List Ev):Fam:=⟨Gg,fun q1=>[(0,.v (.c (.seq .ev l))),(3,.v (vO 0)),(4,.v (vI ((q1.i:Nat):Int)))],fun q1=>[.lst .ev q1.oJ],fun q1=>q1.i≤List.length l∧Ea q1.oJ (List.drop q1.i l)=Ca l∧List.length q1.oJ≤q1.i∧tx q1.oJ+tx (List.drop q1.i l)≤tx l,fun q1=>List.length l-q1.i⟩
theorem Ab4 (l:List Ev) (hp1:l.length≤100000000) (hp2:tx l≤100000000):Fun Tryz.prog 15 [.c (.seq .ev l)] [] (.v (vO 0)) [.lst .ev (Ca l)]:=by
 have hN:Bh=274877906944:=rfl
 have hI:Bi=9223372036854775807:=rfl
 refine Ar Tryz.func15 Q4 Q4 (w:=let z11:=Px l;(.sZ [.ty .ev,.at 0,.keep [0,3,4],.sel [0]] (.loop z11 fun q1=>let z6:S:= .v (vI (((q1.i:Nat):Int)+1));let z7:=((q1.oJ.length:Nat):Int)-1;.br (.intro (Sx (l[q1.i]?)) fun x1=> .sZ [.el .ev x1] (.br (.br (.sZ [.as 13 z6,.at 0,.keep [0,3,4],.sel [0]] (.next)) (.sZ [.br true] (.br (.sZ [.as 38 (.v (vI z7))] (.intro (Sx (q1.oJ[Int.toNat z7]?)) fun x2=> .sZ [.el .ev x2] (.br (.sZ [.ord (os 15 [14]) [],.as 46 (.v (vI z7)),.as 49 (.v (vI z7)),.el .ev x2,.el .ev x2,.as 13 z6,.at 0,.keep [0,3,4],.sel [0]] (.next)) (.sZ [.ty .ev,.ty .ev,.as 13 z6,.at 0,.keep [0,3,4],.sel [3]] (.next))))) (.sZ [.ty .ev,.ty .ev,.as 13 z6,.at 0,.keep [0,3,4],.sel [3]] (.next))))) (.sZ [.br false,.ty .ev,.ty .ev,.as 13 z6,.at 0,.keep [0,3,4],.sel [3]] (.next)))) (.lJ () [0])),z11.Has [(0,.v (.c (.seq .ev l))),(3,.v (vO 0)),(4,.v (vI 0))] [.lst .ev ([]:List Ev)]∧∀q1,z11.inv q1→(let z8:=((q1.oJ.length:Nat):Int);let z10:=((q1.i:Nat):Int);let z9:=z10+1;Bc (decide (z10<((l.length:Nat):Int))) (El (l[q1.i]?) fun x1=>(let z4:=q1.oJ.length+List.length [x1]≤Bh;let z3:=z4∧(wI z9)∧z11.Nxt q1 [(0,.v (.c (.seq .ev l))),(3,.v (vO 0)),(4,.v (vI z9))] [.lst .ev (q1.oJ++[x1])];let z5:=decide (x1.kind=4);(l[q1.i]? =some x1)∧((0:Int)≤z10)∧Bc z5 (Bc (decide (x1.text=[])) ((wI z9)∧z11.Nxt q1 [(0,.v (.c (.seq .ev l))),(3,.v (vO 0)),(4,.v (vI z9))] [.lst .ev q1.oJ]) ((z5=true)∧Bc (decide (0<z8)) ((wI (z8-1))∧El (q1.oJ[Int.toNat (z8-1)]?) fun x2=>(let z1:=q1.oJ[Int.toNat (z8-1)]? =some x2;let z2:=((x2.text.length+x1.text.length:Nat):Int)≤Bi;(z8-1<z8)∧((0:Int)≤z8-1)∧z1∧Bc (decide (x2.kind=4)) ((wI (z8-1))∧(wI (z8-1))∧(wI (z8-1))∧(wI (z8-1))∧(z8-1<z8)∧((0:Int)≤z8-1)∧(z8-1<z8)∧((0:Int)≤z8-1)∧z1∧z1∧z2∧z2∧(z8-1<z8)∧((0:Int)≤z8-1)∧(z8-1<z8)∧((0:Int)≤z8-1)∧z1∧(wI z9)∧z11.Nxt q1 [(0,.v (.c (.seq .ev l))),(3,.v (vO 0)),(4,.v (vI z9))] [.lst .ev (List.set q1.oJ (Int.toNat (z8-1)) (⟨x2.kind,x2.field,x2.bits,x2.len,x2.text++x1.text,x2.code,x2.aJ⟩:Ev))]) z3)) z3)) ((z5=false)∧z4∧(wI z9)∧z11.Nxt q1 [(0,.v (.c (.seq .ev l))),(3,.v (vO 0)),(4,.v (vI z9))] [.lst .ev (q1.oJ++[x1])]))) (Lf (.v (vO 0)) (.v (vO 0)) [.lst .ev q1.oJ] [.lst .ev (Ca l)])))) Q4 ?_
 refine⟨Bp (j:=(⟨([]:List Ev),0⟩:Gg)) Q8 rfl (by dsimp only[Px];exact⟨by omega,rfl,by simp,by simp[tx]⟩),fun (q1:Gg) hq_q1=>?_⟩
 have hi_q1:q1.i≤l.length∧Ea q1.oJ (List.drop q1.i l)=Ca l∧q1.oJ.length≤q1.i∧tx q1.oJ+tx (List.drop q1.i l)≤tx l:=hq_q1
 obtain ⟨v1,v2,v3,v4⟩:=hi_q1
 refine dsp (fun h1 p1=>?_) fun h1 p1=>?_
 refine⟨(Bo (l:=l) (i:=q1.i) Q2),fun x1 hx1=>?_⟩
 rw[C3 hx1,E8] at v2
 rw[C3 hx1,tx] at v4
 refine⟨hx1,Q2,dsp (fun h2 p2=>?_) fun h2 p2=>?_⟩
 refine dsp (fun h3 p3=>?_) fun h3 p3=>?_
 exact⟨(Ad Q2 Q2),A6 (j:=(⟨q1.oJ,q1.i+1⟩:Gg)) Q8 rfl Q12 Q79⟩
 refine⟨h2,dsp (fun h4 p4=>?_) fun h4 p4=>?_⟩
 refine⟨(Ad Q2 Q2),(Bo (l:=q1.oJ) (i:=Int.toNat (((q1.oJ.length:Nat):Int)-1)) Q2),fun x2 hx2=>?_⟩
 refine⟨Q2,Q2,?_⟩
 have hle:=Ap5 hx2
 have hix:Int.toNat ((q1.oJ.length:Int)-1)=q1.oJ.length-1:=by omega
 have hxe:=hix▸hx2
 refine⟨hx2,dsp (fun h5 p5=>?_) fun h5 p5=>?_⟩
 have hmm:=Yw (o:=q1.oJ) (e:=x1) (x:=x2) (by assumption) (by assumption) (by omega) hxe (by assumption)
 have hms:=Akp x1.text hxe
 exact⟨(Ad Q2 Q2),(Ad Q2 Q2),(Ad Q2 Q2),(Ad Q2 Q2),Q2,Q2,Q2,Q2,hx2,hx2,Q2,Q2,Q2,Q2,Q2,Q2,hx2,(Ad Q2 Q2),A6 (j:=(⟨List.set q1.oJ (Int.toNat (((q1.oJ.length:Nat):Int)-1)) (⟨x2.kind,x2.field,x2.bits,x2.len,x2.text++x1.text,x2.code,x2.aJ⟩:Ev),q1.i+1⟩:Gg)) Q8 rfl Q12 Q79⟩
 have hse: ¬(0<q1.oJ.length∧(Pw q1.oJ).kind=4):=fun h=>by rw[Xn hxe] at h;exact absurd h.2 (by assumption)
 exact⟨Q6,(Ad Q2 Q2),A6 (j:=(⟨q1.oJ++[x1],q1.i+1⟩:Gg)) Q8 rfl Q12 Q79⟩
 have hse: ¬(0<q1.oJ.length∧(Pw q1.oJ).kind=4):=fun h=>by omega
 exact⟨Q6,(Ad Q2 Q2),A6 (j:=(⟨q1.oJ++[x1],q1.i+1⟩:Gg)) Q8 rfl Q12 Q79⟩
 exact⟨h2,Q6,(Ad Q2 Q2),A6 (j:=(⟨q1.oJ++[x1],q1.i+1⟩:Gg)) Q8 rfl Q12 Q79⟩
 rw[List.drop_eq_nil_of_le (by omega),Vo] at v2
 exact⟨rfl,(Ab (congrArg (Blk.lst .ev) W61) rfl)⟩
structure Fw where
 oJ:List Ev
 i:Nat
def Py (l:List Ev):Fam:=⟨Fw,fun q1=>[(0,.v (.c (.seq .ev l))),(3,.v (vO 0)),(4,.v (vI ((q1.i:Nat):Int)))],fun q1=>[.lst .ev q1.oJ],fun q1=>q1.i≤List.length l∧Ea q1.oJ (List.drop q1.i l)=Ca l∧List.length q1.oJ≤q1.i∧sep q1.oJ (List.drop q1.i l),fun q1=>List.length l-q1.i⟩
structure Jw where
 i:Nat
 texts:List Int
 first:Ev
 found:Bool
def Hm (l:List Ev) (q1:Fw):Fam:=⟨Jw,fun q2=>[(0,.v (.c (.seq .ev l))),(3,.v (vO 0)),(4,.v (vI ((q2.i:Nat):Int))),(6,.v (vO 1)),(7,.v (vP 2)),(8,.v (vB q2.found))],fun q2=>[.lst .ev q1.oJ,.lst .u8 q2.texts,.cells (cEv q2.first)],fun q2=>q2.i≤List.length l∧q1.i<q2.i∧Ab3 q1.oJ q2.first (List.map Bj q2.texts) q2.found (List.drop q2.i l) (Ca l)∧List.length q2.texts+tx (List.drop q2.i l)≤tx l,fun q2=>List.length l-q2.i⟩
theorem An8 (l:List Ev) (hp1:l.length≤100000000) (hp2:tx l≤100000000):Fun Tryz.prog 49 [.c (.seq .ev l)] [] (.v (vO 0)) [.lst .ev (Ca l)]:=by
 have hN:Bh=274877906944:=rfl
 refine Ar Tryz.func49 Q4 Q4 (w:=let z10:=Py l;(.sZ [.ty .ev,.at 0,.keep [0,3,4],.sel [0]] (.loop z10 fun q1=> .br (.intro (Sx (l[q1.i]?)) fun x1=> .sZ [.el .ev x1,.as 19 (.v (vI (((q1.i:Nat):Int)+1)))] (.br (.sZ [.ty .ev,.ty .ev,.at 0,.keep [0,3,4],.sel [3]] (.next)) (.sZ [.ord (os 7 [4,5]) [],.at 0,.keep [0,3,4,6,7,8],.sel [0,2,3]] (.loop (Hm l q1) fun q2=>let z4:S:= .v (vI (((q2.i:Nat):Int)+1));.br (.intro (Sx (l[q2.i]?)) fun x2=> .sZ [.el .ev x2] (.br (.br (.sZ [.el .ev x2] (.br (.sZ [.el .ev x2,.el .ev x2,.ty .u8,.as 68 z4,.at 0,.keep [0,3,4,6,7,8],.sel [0,3,2]] (.next)) (.sZ [.el .ev x2,.ty .u8,.as 68 z4,.at 0,.keep [0,3,4,6,7,8],.sel [0,3,2]] (.next)))) (.sZ [.el .ev x2,.ty .u8,.as 68 z4,.at 0,.keep [0,3,4,6,7,8],.sel [0,3,2]] (.next))) (.br (.sZ [.ty .ev,.ty .ev,.at 0,.keep [0,3,4],.sel [4]] (.next)) (.sZ [.at 0,.keep [0,3,4],.sel [0]] (.next))))) (.br (.sZ [.ty .ev,.ty .ev,.at 0,.keep [0,3,4],.sel [4]] (.next)) (.sZ [.at 0,.keep [0,3,4],.sel [0]] (.next))))))) (.lJ () [0])),z10.Has [(0,.v (.c (.seq .ev l))),(3,.v (vO 0)),(4,.v (vI 0))] [.lst .ev ([]:List Ev)]∧∀q1,z10.inv q1→(let z8:=((q1.i:Nat):Int);let z9:=Hm l q1;Bc (decide (z8<((l.length:Nat):Int))) (El (l[q1.i]?) fun x1=>((l[q1.i]? =some x1)∧((0:Int)≤z8)∧(wI (z8+1))∧Bc (!decide (x1.kind=4)) ((q1.oJ.length+List.length [x1]≤Bh)∧z10.Nxt q1 [(0,.v (.c (.seq .ev l))),(3,.v (vO 0)),(4,.v (vI (z8+1)))] [.lst .ev (q1.oJ++[x1])]) ((x1.text.length≤Bh)∧z9.Has [(0,.v (.c (.seq .ev l))),(3,.v (vO 0)),(4,.v (vI (z8+1))),(6,.v (vO 1)),(7,.v (vP 2)),(8,.v (vB (!decide (x1.text=[]))))] [.lst .ev q1.oJ,.lst .u8 (List.map (fun b=>(UInt8.toNat b:Int)) x1.text),.cells (cEv x1)]∧∀q2,z9.inv q2→(let z6:=((q2.i:Nat):Int);let z7:=(⟨q2.first.kind,q2.first.field,q2.first.bits,q2.first.len,List.map Bj q2.texts,q2.first.code,q2.first.aJ⟩:Ev);let z5:=Bc q2.found ((q1.oJ.length+List.length [z7]≤Bh)∧z10.Nxt q1 [(0,.v (.c (.seq .ev l))),(3,.v (vO 0)),(4,.v (vI z6))] [.lst .ev (q1.oJ++[z7])]) (z10.Nxt q1 [(0,.v (.c (.seq .ev l))),(3,.v (vO 0)),(4,.v (vI z6))] [.lst .ev q1.oJ]);Bc (decide (z6<((l.length:Nat):Int))) (El (l[q2.i]?) fun x2=>(let z2:=List.map (fun b=>(UInt8.toNat b:Int)) x2.text;let z3:=l[q2.i]? =some x2;let z1:=z3∧((0:Int)≤z6)∧(q2.texts.length+z2.length≤Bh)∧(wI (z6+1))∧z9.Nxt q2 [(0,.v (.c (.seq .ev l))),(3,.v (vO 0)),(4,.v (vI (z6+1))),(6,.v (vO 1)),(7,.v (vP 2)),(8,.v (vB q2.found))] [.lst .ev q1.oJ,.lst .u8 (q2.texts++z2),.cells (cEv q2.first)];z3∧((0:Int)≤z6)∧Bc (decide (x2.kind=4)) (Bc (!q2.found) (z3∧((0:Int)≤z6)∧Bc (!decide (x2.text=[])) (z3∧((0:Int)≤z6)∧z3∧((0:Int)≤z6)∧(q2.texts.length+z2.length≤Bh)∧(wI (z6+1))∧z9.Nxt q2 [(0,.v (.c (.seq .ev l))),(3,.v (vO 0)),(4,.v (vI (z6+1))),(6,.v (vO 1)),(7,.v (vP 2)),(8,.v (vB true))] [.lst .ev q1.oJ,.lst .u8 (q2.texts++z2),.cells (cEv x2)]) z1) z1) z5)) z5)))) (Lf (.v (vO 0)) (.v (vO 0)) [.lst .ev q1.oJ] [.lst .ev (Ca l)])))) Q4 ?_
 refine⟨Bp (j:=(⟨([]:List Ev),0⟩:Fw)) Q8 rfl (by dsimp only[Py];exact⟨by omega,rfl,by simp,Aq3⟩),fun (q1:Fw) hq_q1=>?_⟩
 have hi_q1:q1.i≤l.length∧Ea q1.oJ (List.drop q1.i l)=Ca l∧q1.oJ.length≤q1.i∧sep q1.oJ (List.drop q1.i l):=hq_q1
 obtain ⟨v1,v2,v3,v4⟩:=hi_q1
 refine dsp (fun h1 p1=>?_) fun h1 p1=>?_
 refine⟨(Bo (l:=l) (i:=q1.i) Q2),fun x1 hx1=>?_⟩
 rw[C3 hx1,E8] at v2
 have hdx:=C3 hx1
 have htl:tx (List.drop q1.i l)=x1.text.length+tx (List.drop (q1.i+1) l):=by rw[hdx,tx]
 have htl2:=Akr l q1.i
 have hse:=fun hk=>Aso v4 hx1 hk
 refine⟨hx1,Q2,(Ad Q2 Q2),fun h2=>have q2:=Ao h2;have p2:=of_decide_eq_false q2;?_,fun h2=>have q2:=An h2;have p2:=of_decide_eq_true q2;?_⟩
 exact⟨Q6,A6 (j:=(⟨q1.oJ++[x1],q1.i+1⟩:Fw)) Q8 rfl Q18 Q80⟩
 have hse:=hse (by assumption)
 refine⟨Q2,Bp (j:=(⟨q1.i+1,List.map (fun b=>(UInt8.toNat b:Int)) x1.text,x1,!decide (x1.text=[])⟩:Jw)) Q8 rfl (by dsimp only[Hm];exact(by first|(exact⟨by omega,by omega,by rw[F1];exact An7 (by assumption) hse v2,by simp;omega⟩))),fun (q2:Jw) hq_q2=>?_⟩
 have hi_q2:q2.i≤l.length∧q1.i<q2.i∧Ab3 q1.oJ q2.first (List.map Bj q2.texts) q2.found (List.drop q2.i l) (Ca l)∧q2.texts.length+tx (List.drop q2.i l)≤tx l:=hq_q2
 obtain ⟨w1,w2,w3,w4⟩:=hi_q2
 refine dsp (fun h3 p3=>?_) fun h3 p3=>?_
 refine⟨(Bo (l:=l) (i:=q2.i) Q2),fun x2 hx2=>?_⟩
 have hdr:=C3 hx2
 have htx:tx (List.drop q2.i l)=x2.text.length+tx (List.drop (q2.i+1) l):=by rw[hdr,tx]
 refine⟨hx2,Q2,dsp (fun h4 p4=>?_) fun h4 p4=>?_⟩
 refine⟨fun h5=>have q5:=Ao h5;?_,fun h5=>have q5:=An h5;?_⟩
 refine⟨hx2,Q2,fun h6=>have q6:=Ao h6;have p6:=of_decide_eq_false q6;?_,fun h6=>have q6:=An h6;have p6:=of_decide_eq_true q6;?_⟩
 exact⟨hx2,Q2,hx2,Q2,Q17,(Ad Q2 Q2),A6 (j:=(⟨q2.i+1,q2.texts++(List.map (fun b=>(UInt8.toNat b:Int)) x2.text),x2,true⟩:Jw)) Q8 rfl Q20 (by dsimp only[Hm];omega)⟩
 exact⟨hx2,Q2,Q17,(Ad Q2 Q2),A6 (j:=(⟨q2.i+1,q2.texts++(List.map (fun b=>(UInt8.toNat b:Int)) x2.text),q2.first,q2.found⟩:Jw)) Q8 rfl Q20 (by dsimp only[Hm];omega)⟩
 exact⟨hx2,Q2,Q17,(Ad Q2 Q2),A6 (j:=(⟨q2.i+1,q2.texts++(List.map (fun b=>(UInt8.toNat b:Int)) x2.text),q2.first,q2.found⟩:Jw)) Q8 rfl Q20 (by dsimp only[Hm];omega)⟩
 have hsp: ∀o,sep o (List.drop q2.i l):=fun o=>Agf (.inr ⟨x2,by assumption,by assumption⟩)
 refine⟨fun h5=>?_,fun h5=>?_⟩
 exact⟨(by simp only[List.length_map,List.length_cons,List.length_nil];omega),A6 (j:=(⟨q1.oJ++[(⟨q2.first.kind,q2.first.field,q2.first.bits,q2.first.len,List.map Bj q2.texts,q2.first.code,q2.first.aJ⟩:Ev)],q2.i⟩:Fw)) rfl rfl Q18 Q80⟩
 exact A6 (j:=(⟨q1.oJ,q2.i⟩:Fw)) rfl rfl Q18 Q80
 have hsp: ∀o,sep o (List.drop q2.i l):=fun o=>Agf (.inl (by omega))
 refine⟨fun h4=>?_,fun h4=>?_⟩
 exact⟨(by simp only[List.length_map,List.length_cons,List.length_nil];omega),A6 (j:=(⟨q1.oJ++[(⟨q2.first.kind,q2.first.field,q2.first.bits,q2.first.len,List.map Bj q2.texts,q2.first.code,q2.first.aJ⟩:Ev)],q2.i⟩:Fw)) rfl rfl Q18 Q80⟩
 exact A6 (j:=(⟨q1.oJ,q2.i⟩:Fw)) rfl rfl Q18 Q80
 rw[List.drop_eq_nil_of_le (by omega),Vo] at v2
 exact⟨rfl,(Ab (congrArg (Blk.lst .ev) W61) rfl)⟩
def Xo (l:List Ev):Prop:= ∀e∈l,e.text.length≤1
theorem Ab5:Xo []:=fun _ h=>by cases h
theorem Agg {a b:List Ev} (ha:Xo a) (hb:Xo b):Xo (a++b):=fun e h=>(List.mem_append.1 h).elim (ha e) (hb e)
theorem An9 {e:Ev} (h:e.text.length≤1):Xo [e]:=fun x hx=>by simp at hx;rw[hx];exact h
theorem Je {a:List Ev} {e:Ev} (ha:Xo a) (h:e.text.length≤1):Xo (a++[e]):=Agg ha (An9 h)
theorem Aks: ∀ {l:List Ev},Xo l→tx l≤l.length
 |[],_=>Nat.le_refl _
 |e::r,h=>by
  have h1:=h e (List.mem_cons_self ..)
  have h2:=Aks (l:=r) fun x hx=>h x (List.mem_cons_of_mem _ hx)
  rw[tx,List.length_cons];omega
theorem Eh {m:Mac} {c a:Int} (h:Xo m.oJ):Xo (A3 m c a).oJ:=Je h (Nat.zero_le _)
theorem Aey {m q:Mac} (h:Xo m.oJ) (hc:A1 m=some q):Xo q.oJ:=by
 unfold A1 at hc
 split at hc
 ·split at hc
  ·cases hc;exact Eh h
  ·cases hc;exact Je h (Nat.zero_le _)
 ·split at hc
  ·cases hc;exact h
  ·split at hc
   ·split at hc<;>(cases hc;exact Je h (Nat.zero_le _))
   ·cases hc
theorem Eg {m:Mac} (h:Xo m.oJ):Xo (Ae m).oJ:=by
 suffices ∀(k:Nat) (m:Mac),wM m≤k→Xo m.oJ→Xo (Ae m).oJ from this _ m (Nat.le_refl _) h
 intro k
 induction k with
 |zero=>
  intro m hk h
  cases hc:A1 m with
  |none=>rw[Bz hc];exact h
  |some q=>have:=(Ck hc).1;omega
 |succ k ih=>
  intro m hk h
  cases hc:A1 m with
  |none=>rw[Bz hc];exact h
  |some q=>rw[Cd hc];exact ih q (by have:=(Ck hc).1;omega) (Aey h hc)
theorem Tp {m:Mac} {u:Int} (h:Xo m.oJ):Xo (Bv m u).oJ:=by
 unfold Bv
 simp only
 split
 ·exact h
 ·exact Je h (Nat.zero_le _)
theorem Ahp {m:Mac} {b:Int} (h:Xo m.oJ):Xo (Dw m b).oJ:=by
 unfold Dw
 split
 ·unfold Es
  split
  ·split
   ·exact Eh h
   ·exact Eg (Je h (Nat.le_refl _))
  ·exact Eg (Je h (Nat.le_refl _))
 ·split
  ·exact Eg h
  ·split
   ·unfold D8
    split
    ·exact h
    ·split
     ·exact Eh (Tp h)
     ·exact Eg (Tp h)
   ·unfold B3
    split
    ·exact Eh h
    ·split
     ·unfold Wy
      split
      ·exact Eh h
      ·exact h
     ·split
      ·unfold C0
       split
       ·exact Eh h
       ·exact Eg (Je h (Nat.zero_le _))
      ·split
       ·unfold Ew
        split
        ·exact Eh h
        ·split
         ·exact Eh h
         ·split
          ·exact Eh h
          ·split
           ·exact Eh h
           ·exact h
       ·split
        ·unfold Cu
         split
         ·exact Eh h
         ·split
          ·exact Eg h
          ·split
           ·split
            ·exact Eh h
            ·exact Eg (Je h (Nat.zero_le _))
           ·split
            ·exact Eg (Je h (Nat.zero_le _))
            ·split
             ·exact Eh h
             ·exact Eg h
        ·exact Eg (Tp h)
theorem Ahq {m:Mac} {b:Int} (h:Xo m.oJ):Xo (Qw m b).oJ:=by
 unfold Qw
 refine Agg h ?_
 unfold Cs
 split
 ·exact Ahp Ab5
 ·exact Ab5
theorem Aax: ∀(s:List UInt8) (m:Mac),Xo m.oJ→Xo (Cb m s).oJ
 |[],m,h=>h
 |b::r,m,h=>by rw[Fh];exact Aax r _ (Ahq h)
theorem Akt (d:Dcd) (s:List UInt8):(Cb ⟨d,[]⟩ s).oJ.length≤14*s.length∧tx (Cb ⟨d,[]⟩ s).oJ≤14*s.length:=by
 have h1:=(Yu s ⟨d,[]⟩).2.2.1
 have h2:=Aks (Aax s ⟨d,[]⟩ Ab5)
 simp only[List.length_nil] at h1
 omega
def Df (d:Dcd) (s:List UInt8):Mac:=⟨(Cb ⟨d,[]⟩ s).d,Ca (Cb ⟨d,[]⟩ s).oJ⟩
theorem Yz (d:Dcd) (s:List UInt8):(Df d s).d.pJ=d.pJ∧((Df d s).d.sJ.length:Int)≤max (d.sJ.length:Int) 8∧(Df d s).oJ.length≤14*s.length∧((0≤d.sK.bits∧d.sK.bits≤18446744073709551615)→0≤(Df d s).d.sK.bits∧(Df d s).d.sK.bits≤18446744073709551615):=by
 have h:=Yu s ⟨d,[]⟩
 have h2:=Akt d s
 have h3:=Aaw (Cb ⟨d,[]⟩ s).oJ
 exact⟨h.1,h.2.1,Nat.le_trans h3 h2.1,h.2.2.2⟩
end Go.Proofs.YtphecbmdhbphgaaGreat.Ax
