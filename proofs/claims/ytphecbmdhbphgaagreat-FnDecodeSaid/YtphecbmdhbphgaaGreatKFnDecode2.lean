/- Schemas. Events. Decoders: what is valid. Decoders: what is valid, more. Decoders: what is valid, Jm. Decoders: what is valid, at last. Decoders: what is valid: both sides. -/
import Derived.Test.YtphecbmdhbphgaaGreatKFnDecode1
set_option linter.unusedSimpArgs false
set_option linter.unusedVariables false
namespace Go.Proofs.YtphecbmdhbphgaaGreat.Ax
open Go.RowKit
theorem Aqu (f:Fld) (before:Int) (n:Int) (hp1:(0:Int)≤n∧n≤1000):Fun Tryz.prog 160 [.agg (Fg f),vI before,vI n] [] (.v (vB (decide (before<(f).nJ)&&L8 f n))) []:=by
 have hN:Bh=274877906944:=rfl
 refine Ar Tryz.func160 Q4 Q4 (w:=let z1:S:= .v (vB (decide (before<(f).nJ)&&L8 f n));let z2:S:= .v (vB (Ak f.mK 0 (n-1)));let z3:=Lf (.v (vB false)) z1 [] [];let z4:=Lf (.v (vB (decide (f.mK=(-1))))) z1 [] [];let z5:=D3 f.nJ;(.sZ [.call [] (.v (vB z5)) []] (.br (.lJ () []) (.br (.lJ () []) (.sZ [.call [] (.v (vB (En f.kind))) []] (.br (.lJ () []) (.br (.br (.lJ () []) (.sZ [.call [] (.v (vB (C1 f.kind))) []] (.br (.lJ () []) (.br (.sZ [.as 45 (.v (vI (n-1))),.call [] z2 []] (.lJ () [])) (.lJ () []))))) (.br (.sZ [.as 45 (.v (vI (n-1))),.call [] z2 []] (.lJ () [])) (.lJ () []))))))),(Fp 207 [vI f.nJ] [] (.v (vB z5)) [])∧Bc (!z5) z3 (Bc (decide (f.nJ≤before)) z3 ((Fp 208 [vI f.kind] [] (.v (vB (En f.kind))) [])∧Bc (!(En f.kind)) z3 (Bc f.packed (Bc (!f.rep) z3 ((Fp 209 [vI f.kind] [] (.v (vB (C1 f.kind))) [])∧Bc (!(C1 f.kind)) z3 (Bc (decide (f.kind=8)) ((wI (n-1))∧(Fp 97 [vI f.mK,vI 0,vI (n-1)] [] z2 [])∧Lf z2 z1 [] []) z4))) (Bc (decide (f.kind=8)) ((wI (n-1))∧(Fp 97 [vI f.mK,vI 0,vI (n-1)] [] z2 [])∧Lf z2 z1 [] []) z4)))))) Q4 ?_
 refine⟨(Ahb _),fun h1=>have q1:=Ao h1;?_,fun h1=>have q1:=An h1;?_⟩
 exact⟨(sB W12),rfl⟩
 refine dsp (fun h2 p2=>?_) fun h2 p2=>?_
 exact⟨(sB W12),rfl⟩
 refine⟨(Af7 _),fun h3=>have q3:=Ao h3;have p3:=A0 q3;?_,fun h3=>have q3:=An h3;have p3:=Av q3;?_⟩
 exact⟨(sB W12),rfl⟩
 refine⟨fun h4=>?_,fun h4=>?_⟩
 refine⟨fun h5=>have q5:=Ao h5;?_,fun h5=>have q5:=An h5;?_⟩
 exact⟨(sB W12),rfl⟩
 refine⟨(Adf _),fun h6=>have q6:=Ao h6;have p6:=A0 q6;?_,fun h6=>have q6:=An h6;have p6:=Av q6;?_⟩
 exact⟨(sB W12),rfl⟩
 refine dsp (fun h7 p7=>?_) fun h7 p7=>?_
 exact⟨(Ad Q2 Q2),(Cr _ _ _),(sB W12),rfl⟩
 exact⟨(sB W12),rfl⟩
 refine dsp (fun h5 p5=>?_) fun h5 p5=>?_
 exact⟨(Ad Q2 Q2),(Cr _ _ _),(sB W12),rfl⟩
 exact⟨(sB W12),rfl⟩
theorem Vi (s:List Shp) (f:Fld) (hp1:s.length≤1000):Fun Tryz.prog 92 [.agg [.seq .shp s],.agg (Fg f)] [] (.v (vB (L8 f (s.length:Int)))) []:=by
 have hN:Bh=274877906944:=rfl
 refine Ar Tryz.func92 Q4 Q4 (w:=let z1:=(s.length:Int);let z2:S:= .v (vB (Ak f.mK 0 (z1-1)));let z4:S:= .v (vB (L8 f z1));let z3:=Lf (.v (vB false)) z4 [] [];let z5:=Lf (.v (vB (decide (f.mK=(-1))))) z4 [] [];let z6:=D3 f.nJ;(.sZ [.call [] (.v (vB z6)) []] (.br (.lJ () []) (.sZ [.call [] (.v (vB (En f.kind))) []] (.br (.lJ () []) (.br (.br (.lJ () []) (.sZ [.call [] (.v (vB (C1 f.kind))) []] (.br (.lJ () []) (.br (.sZ [.as 38 (.v (vI (z1-1))),.call [] z2 []] (.lJ () [])) (.lJ () []))))) (.br (.sZ [.as 38 (.v (vI (z1-1))),.call [] z2 []] (.lJ () [])) (.lJ () [])))))),(Fp 156 [vI f.nJ] [] (.v (vB z6)) [])∧Bc (!z6) z3 ((Fp 157 [vI f.kind] [] (.v (vB (En f.kind))) [])∧Bc (!(En f.kind)) z3 (Bc f.packed (Bc (!f.rep) z3 ((Fp 158 [vI f.kind] [] (.v (vB (C1 f.kind))) [])∧Bc (!(C1 f.kind)) z3 (Bc (decide (f.kind=8)) ((wI (z1-1))∧(Fp 44 [vI f.mK,vI 0,vI (z1-1)] [] z2 [])∧Lf z2 z4 [] []) z5))) (Bc (decide (f.kind=8)) ((wI (z1-1))∧(Fp 44 [vI f.mK,vI 0,vI (z1-1)] [] z2 [])∧Lf z2 z4 [] []) z5))))) Q4 ?_
 refine⟨(Aan _),fun h1=>have q1:=Ao h1;?_,fun h1=>have q1:=An h1;?_⟩
 exact⟨(sB W12),rfl⟩
 refine⟨(Xg _),fun h2=>have q2:=Ao h2;have p2:=A0 q2;?_,fun h2=>have q2:=An h2;have p2:=Av q2;?_⟩
 exact⟨(sB W12),rfl⟩
 refine⟨fun h3=>?_,fun h3=>?_⟩
 refine⟨fun h4=>have q4:=Ao h4;?_,fun h4=>have q4:=An h4;?_⟩
 exact⟨(sB W12),rfl⟩
 refine⟨(Nh _),fun h5=>have q5:=Ao h5;have p5:=A0 q5;?_,fun h5=>have q5:=An h5;have p5:=Av q5;?_⟩
 exact⟨(sB W12),rfl⟩
 refine dsp (fun h6 p6=>?_) fun h6 p6=>?_
 exact⟨(Ad Q2 Q2),(Bb _ _ _),(sB W12),rfl⟩
 exact⟨(sB W12),rfl⟩
 refine dsp (fun h4 p4=>?_) fun h4 p4=>?_
 exact⟨(Ad Q2 Q2),(Bb _ _ _),(sB W12),rfl⟩
 exact⟨(sB W12),rfl⟩
structure H9 where
 id:Int
 v:Nat
def Kw (s:List Shp):Fam:=⟨H9,fun q1=>[(1,.v (vP 0)),(3,.v (vI q1.id)),(14,.v (.c (.seq .shp s))),(15,.v (vI (s.length:Int))),(16,.v (vI (q1.v:Int)))],fun _=>[.cells [.seq .shp s]],fun q1=>q1.v≤s.length∧E1 (s.length:Int) q1.id (List.drop q1.v s)=E1 (s.length:Int) 0 s,fun q1=>s.length-q1.v⟩
structure Kx where
 nJ:Int
 v:Nat
def Ja (s:List Shp) (q1:H9) (x1:Shp):Fam:=⟨Kx,fun q2=>[(1,.v (vP 0)),(5,.v (vP 1)),(6,.v (vI q2.nJ)),(14,.v (.c (.seq .shp s))),(15,.v (vI (s.length:Int))),(16,.v (vI (q1.v:Int))),(36,.v (.c (.seq .fld x1.fJ))),(37,.v (vI (x1.fJ.length:Int))),(38,.v (vI (q2.v:Int)))],fun _=>[.cells [.seq .shp s],.cells (Atg x1)],fun q2=>q2.v≤x1.fJ.length∧Dm (s.length:Int) q2.nJ (List.drop q2.v x1.fJ)=Dm (s.length:Int) 0 x1.fJ,fun q2=>x1.fJ.length-q2.v⟩
theorem Ahe (s:List Shp):Fun Tryz.prog 96 [.agg [.seq .shp s]] [] (.v (vB (Du s))) []:=by
 have hN:Bh=274877906944:=rfl
 refine Ar Tryz.func96 Q4 Q4 (w:=let z7:=(s.length:Int);let z8:=Lf (.v (vB false)) (.v (vB (Du s))) [] [];let z9:=Kw s;(.br (.lJ () []) (.sZ [.at 0,.keep [1,3,14,15,16],.sel [0]] (.loop z9 fun q1=> .br (.intro (Sx (s[q1.v]?)) fun x1=> .sZ [.el .shp x1] (.br (.lJ () []) (.br (.lJ () []) (.br (.lJ () []) (.sZ [.at 0,.keep [1,5,6,14,15,16,36,37,38],.sel [0,1]] (.loop (Ja s q1 x1) fun q2=> .br (.intro (Sx (x1.fJ[q2.v]?)) fun x2=> .sZ [.el .fld x2,.call [] (.v (vB (decide (q2.nJ<(x2).nJ)&&L8 x2 z7))) []] (.br (.lJ () []) (.sZ [.as 51 (.v (vI ((q2.v:Int)+1))),.at 0,.keep [1,5,6,14,15,16,36,37,38],.sel [0,1]] (.next)))) (.sZ [.as 54 (.v (vI ((q1.v:Int)+1))),.at 0,.keep [1,3,14,15,16],.sel [0]] (.next)))))))) (.lJ () []))),Bc (decide (6<z7)) z8 (z9.Has [(1,.v (vP 0)),(3,.v (vI 0)),(14,.v (.c (.seq .shp s))),(15,.v (vI z7)),(16,.v (vI 0))] [.cells [.seq .shp s]]∧∀q1,z9.inv q1→(let z6:=(q1.v:Int);Bc (decide (z6<z7)) (El (s[q1.v]?) fun x1=>(let z3:=(x1.fJ.length:Int);let z4:=Ja s q1 x1;let z5:List Blk:=[.cells [.seq .shp s],.cells (Atg x1)];(s[q1.v]? =some x1)∧((0:Int)≤z6)∧Bc (decide (x1.id≤q1.id)) z8 (Bc (decide (99<x1.id)) z8 (Bc (decide (8<z3)) z8 (z4.Has [(1,.v (vP 0)),(5,.v (vP 1)),(6,.v (vI 0)),(14,.v (.c (.seq .shp s))),(15,.v (vI z7)),(16,.v (vI z6)),(36,.v (.c (.seq .fld x1.fJ))),(37,.v (vI z3)),(38,.v (vI 0))] z5∧∀q2,z4.inv q2→(let z2:=(q2.v:Int);Bc (decide (z2<z3)) (El (x1.fJ[q2.v]?) fun x2=>(let z1:=decide (q2.nJ<(x2).nJ)&&L8 x2 z7;(x1.fJ[q2.v]? =some x2)∧((0:Int)≤z2)∧(Fp 160 [.agg (Fg x2),vI q2.nJ,vI z7] [] (.v (vB z1)) [])∧Bc (!z1) z8 ((wI (z2+1))∧z4.Nxt q2 [(1,.v (vP 0)),(5,.v (vP 1)),(6,.v (vI x2.nJ)),(14,.v (.c (.seq .shp s))),(15,.v (vI z7)),(16,.v (vI z6)),(36,.v (.c (.seq .fld x1.fJ))),(37,.v (vI z3)),(38,.v (vI (z2+1)))] z5))) ((wI (z6+1))∧z9.Nxt q1 [(1,.v (vP 0)),(3,.v (vI x1.id)),(14,.v (.c (.seq .shp s))),(15,.v (vI z7)),(16,.v (vI (z6+1)))] [.cells [.seq .shp s]]))))))) (Lf (.v (vB true)) (.v (vB (Du s))) [] []))))) Q4 ?_
 refine dsp (fun h1 p1=>?_) fun h1 p1=>?_
 exact⟨(sB W13),rfl⟩
 refine⟨Bp (j:=(⟨0,0⟩:H9)) Q8 rfl (by dsimp only[Kw];exact⟨by omega,rfl⟩),fun (q1:H9) hq_q1=>?_⟩
 have hi_q1:q1.v≤s.length∧E1 (s.length:Int) q1.id (List.drop q1.v s)=E1 (s.length:Int) 0 s:=hq_q1
 obtain ⟨v1,v2⟩:=hi_q1
 refine dsp (fun h2 p2=>?_) fun h2 p2=>?_
 refine⟨(Bo (l:=s) (i:=q1.v) Q2),fun x1 hx1=>?_⟩
 rw[C3 hx1,E1] at v2
 refine⟨hx1,Q2,dsp (fun h3 p3=>?_) fun h3 p3=>?_⟩
 exact⟨(sB W13),rfl⟩
 refine dsp (fun h4 p4=>?_) fun h4 p4=>?_
 exact⟨(sB W13),rfl⟩
 refine dsp (fun h5 p5=>?_) fun h5 p5=>?_
 exact⟨(sB W13),rfl⟩
 refine⟨Bp (j:=(⟨0,0⟩:Kx)) Q8 rfl (by dsimp only[Ja];exact⟨by omega,rfl⟩),fun (q2:Kx) hq_q2=>?_⟩
 have hi_q2:q2.v≤x1.fJ.length∧Dm (s.length:Int) q2.nJ (List.drop q2.v x1.fJ)=Dm (s.length:Int) 0 x1.fJ:=hq_q2
 obtain ⟨w1,w2⟩:=hi_q2
 refine dsp (fun h6 p6=>?_) fun h6 p6=>?_
 refine⟨(Bo (l:=x1.fJ) (i:=q2.v) Q2),fun x2 hx2=>?_⟩
 rw[C3 hx2,Dm] at w2
 refine⟨hx2,Q2,(Aqu x2 _ _ Q2),fun h7=>have q7:=Ao h7;have p7:=(Da dT Iff.rfl).1 q7;?_,fun h7=>have q7:=An h7;have p7:=(C9 dT Iff.rfl).1 q7;?_⟩
 exact⟨(sB W13),rfl⟩
 exact⟨(Ad Q2 Q2),A6 (j:=(⟨x2.nJ,q2.v+1⟩:Kx)) Q8 rfl (by dsimp only[Ja];exact⟨by omega,by grind[Dm]⟩) (by dsimp only[Ja];omega)⟩
 rw[Mc p6] at w2
 exact⟨(Ad Q2 Q2),A6 (j:=(⟨x1.id,q1.v+1⟩:H9)) Q8 rfl (by dsimp only[Kw];exact⟨by omega,by grind[E1,Dm]⟩) (by dsimp only[Kw];omega)⟩
 rw[Mc p2] at v2
 exact⟨(sB W13),rfl⟩
structure Gu where
 i:Nat
 pv:Int
def Jb (s:List Shp):Fam:=⟨Gu,fun q1=>[(1,.v (vP 0)),(3,.v (vI (q1.i:Int)))],fun _=>[.cells [.seq .shp s]],fun q1=>q1.i≤s.length∧(0:Int)≤q1.pv∧(q1.i=0→q1.pv=0)∧(∀y,0<q1.i→s[Int.toNat ((q1.i:Int)-1)]? =some y→q1.pv=y.id)∧E1 (s.length:Int) q1.pv (List.drop q1.i s)=E1 (s.length:Int) 0 s,fun q1=>s.length-q1.i⟩
structure Eb where
 k:Nat
 pv:Int
def Do (s:List Shp) (q1:Gu) (x1:Shp):Fam:=⟨Eb,fun q2=>[(1,.v (vP 0)),(3,.v (vI (q1.i:Int))),(4,.v (vP 1)),(5,.v (vI (q2.k:Int)))],fun _=>[.cells [.seq .shp s],.cells (Atg x1)],fun q2=>q2.k≤x1.fJ.length∧(0:Int)≤q2.pv∧(q2.k=0→q2.pv=0)∧(∀y,0<q2.k→x1.fJ[Int.toNat ((q2.k:Int)-1)]? =some y→q2.pv=y.nJ)∧Dm (s.length:Int) q2.pv (List.drop q2.k x1.fJ)=Dm (s.length:Int) 0 x1.fJ,fun q2=>x1.fJ.length-q2.k⟩
theorem Ahf (s:List Shp):Fun Tryz.prog 43 [.agg [.seq .shp s]] [] (.v (vB (Du s))) []:=by
 have hN:Bh=274877906944:=rfl
 refine Ar Tryz.func43 Q4 Q4 (w:=let z25:=(s.length:Int);let z26:S:= .v (vB (Du s));let z27:S:= .v (vB false);let z24:=Lf z27 z26 [] [];let z28:=Jb s;let z29:=os 28 [6];(.br (.lJ () []) (.sZ [.at 0,.keep [1,3],.sel [0]] (.loop z28 fun q1=>let z21:=(q1.i:Int);.br (.intro (Sx (s[q1.i]?)) fun x1=>let z15:S:= .v (vB (Ak x1.id 1 99));.sZ [.el .shp x1] (.case (!(Ak x1.id 1 99)) (.sZ [.ord (os 26 [2]) [],.call [] z15 [],.br true] (.lJ () [])) (.case (decide (0<z21)) (.intro (Sx (s[Int.toNat (z21-1)]?)) fun x2=> .case (decide (x1.id≤x2.id)) (.sZ [.ord (os 26 [2]) [],.call [] z15 [],.br false,.br true,.as 33 (.v (vI (z21-1))),.el .shp x2,.br true] (.lJ () [])) (.sZ [.ord (os 26 [2]) [],.call [] z15 [],.br false,.br true,.as 33 (.v (vI (z21-1))),.el .shp x2,.br false] (.br (.lJ () []) (.sZ [.at 0,.keep [1,3,4,5],.sel [0,1]] (.loop (Do s q1 x1) fun q2=>let z5:=(q2.k:Int);.br (.intro (Sx (x1.fJ[q2.k]?)) fun x3=>let z2:=L8 x3 z25;.case (!z2) (.sZ [.ord z29 [],.el .fld x3,.call [] (.v (vB z2)) [],.br true] (.lJ () [])) (.case (decide (0<z5)) (.intro (Sx (x1.fJ[Int.toNat (z5-1)]?)) fun x4=> .sZ [.ord z29 [],.el .fld x3,.call [] (.v (vB z2)) [],.br false,.br true,.as 70 (.v (vI (z5-1))),.el .fld x4,.el .fld x3] (.br (.lJ () []) (.sZ [.as 54 (.v (vI (z5+1))),.at 0,.keep [1,3,4,5],.sel [0,1]] (.next)))) (.sZ [.ord z29 [],.el .fld x3,.call [] (.v (vB z2)) [],.br false,.br false,.as 54 (.v (vI (z5+1))),.at 0,.keep [1,3,4,5],.sel [0,1]] (.next)))) (.sZ [.as 16 (.v (vI (z21+1))),.at 0,.keep [1,3],.sel [0]] (.next))))))) (.sZ [.ord (os 26 [2]) [],.call [] z15 [],.br false,.br false] (.br (.lJ () []) (.sZ [.at 0,.keep [1,3,4,5],.sel [0,1]] (.loop (Do s q1 x1) fun q2=>let z13:=(q2.k:Int);.br (.intro (Sx (x1.fJ[q2.k]?)) fun x2=>let z10:=L8 x2 z25;.case (!z10) (.sZ [.ord z29 [],.el .fld x2,.call [] (.v (vB z10)) [],.br true] (.lJ () [])) (.case (decide (0<z13)) (.intro (Sx (x1.fJ[Int.toNat (z13-1)]?)) fun x3=> .sZ [.ord z29 [],.el .fld x2,.call [] (.v (vB z10)) [],.br false,.br true,.as 70 (.v (vI (z13-1))),.el .fld x3,.el .fld x2] (.br (.lJ () []) (.sZ [.as 54 (.v (vI (z13+1))),.at 0,.keep [1,3,4,5],.sel [0,1]] (.next)))) (.sZ [.ord z29 [],.el .fld x2,.call [] (.v (vB z10)) [],.br false,.br false,.as 54 (.v (vI (z13+1))),.at 0,.keep [1,3,4,5],.sel [0,1]] (.next)))) (.sZ [.as 16 (.v (vI (z21+1))),.at 0,.keep [1,3],.sel [0]] (.next))))))))) (.lJ () []))),Bc (decide (6<z25)) z24 (z28.Has [(1,.v (vP 0)),(3,.v (vI 0))] [.cells [.seq .shp s]]∧∀q1,z28.inv q1→(let z22:=(q1.i:Int);let z23:=(wI (z22+1))∧z28.Nxt q1 [(1,.v (vP 0)),(3,.v (vI (z22+1)))] [.cells [.seq .shp s]];Bc (decide (z22<z25)) (El (s[q1.i]?) fun x1=>(let z16:List Blk:=[.cells [.seq .shp s],.cells (Atg x1)];let z17:=Do s q1 x1;let z18:=Ak x1.id 1 99;let z19:=(x1.fJ.length:Int);let z20:List V:=[vI x1.id,vI 1,vI 99];(s[q1.i]? =some x1)∧((0:Int)≤z22)∧Bc (!z18) ((Fp 44 z20 [] (.v (vB z18)) [])∧((!z18)=true)∧Lf z27 z26 [] []) (Bc (decide (0<z22)) (El (s[Int.toNat (z22-1)]?) fun x2=>(let z7:=s[Int.toNat (z22-1)]? =some x2;let z8:=decide (x1.id≤x2.id);Bc z8 ((Fp 44 z20 [] (.v (vB z18)) [])∧((!z18)=false)∧((decide (0<z22))=true)∧(wI (z22-1))∧(wI (z22-1))∧z7∧((0:Int)≤z22-1)∧z7∧((0:Int)≤z22-1)∧(z8=true)∧Lf z27 z26 [] []) ((Fp 44 z20 [] (.v (vB z18)) [])∧((!z18)=false)∧((decide (0<z22))=true)∧(wI (z22-1))∧(wI (z22-1))∧z7∧((0:Int)≤z22-1)∧z7∧((0:Int)≤z22-1)∧(z8=false)∧Bc (decide (8<z19)) z24 (z17.Has [(1,.v (vP 0)),(3,.v (vI z22)),(4,.v (vP 1)),(5,.v (vI 0))] z16∧∀q2,z17.inv q2→(let z6:=(q2.k:Int);Bc (decide (z6<z19)) (El (x1.fJ[q2.k]?) fun x3=>(let z3:=L8 x3 z25;let z4:=x1.fJ[q2.k]? =some x3;Bc (!z3) (z4∧((0:Int)≤z6)∧z4∧((0:Int)≤z6)∧(Fp 92 [.agg [.seq .shp s],.agg (Fg x3)] [] (.v (vB z3)) [])∧((!z3)=true)∧Lf z27 z26 [] []) (Bc (decide (0<z6)) (El (x1.fJ[Int.toNat (z6-1)]?) fun x4=>(let z1:=x1.fJ[Int.toNat (z6-1)]? =some x4;z4∧((0:Int)≤z6)∧z4∧((0:Int)≤z6)∧(Fp 92 [.agg [.seq .shp s],.agg (Fg x3)] [] (.v (vB z3)) [])∧((!z3)=false)∧((decide (0<z6))=true)∧(wI (z6-1))∧(wI (z6-1))∧z1∧((0:Int)≤z6-1)∧z1∧((0:Int)≤z6-1)∧z4∧((0:Int)≤z6)∧z4∧((0:Int)≤z6)∧Bc (decide (x3.nJ≤x4.nJ)) z24 ((wI (z6+1))∧z17.Nxt q2 [(1,.v (vP 0)),(3,.v (vI z22)),(4,.v (vP 1)),(5,.v (vI (z6+1)))] z16))) (z4∧((0:Int)≤z6)∧z4∧((0:Int)≤z6)∧(Fp 92 [.agg [.seq .shp s],.agg (Fg x3)] [] (.v (vB z3)) [])∧((!z3)=false)∧((decide (0<z6))=false)∧(wI (z6+1))∧z17.Nxt q2 [(1,.v (vP 0)),(3,.v (vI z22)),(4,.v (vP 1)),(5,.v (vI (z6+1)))] z16)))) z23))))) ((Fp 44 z20 [] (.v (vB z18)) [])∧((!z18)=false)∧((decide (0<z22))=false)∧Bc (decide (8<z19)) z24 (z17.Has [(1,.v (vP 0)),(3,.v (vI z22)),(4,.v (vP 1)),(5,.v (vI 0))] z16∧∀q2,z17.inv q2→(let z14:=(q2.k:Int);Bc (decide (z14<z19)) (El (x1.fJ[q2.k]?) fun x2=>(let z11:=L8 x2 z25;let z12:=x1.fJ[q2.k]? =some x2;Bc (!z11) (z12∧((0:Int)≤z14)∧z12∧((0:Int)≤z14)∧(Fp 92 [.agg [.seq .shp s],.agg (Fg x2)] [] (.v (vB z11)) [])∧((!z11)=true)∧Lf z27 z26 [] []) (Bc (decide (0<z14)) (El (x1.fJ[Int.toNat (z14-1)]?) fun x3=>(let z9:=x1.fJ[Int.toNat (z14-1)]? =some x3;z12∧((0:Int)≤z14)∧z12∧((0:Int)≤z14)∧(Fp 92 [.agg [.seq .shp s],.agg (Fg x2)] [] (.v (vB z11)) [])∧((!z11)=false)∧((decide (0<z14))=true)∧(wI (z14-1))∧(wI (z14-1))∧z9∧((0:Int)≤z14-1)∧z9∧((0:Int)≤z14-1)∧z12∧((0:Int)≤z14)∧z12∧((0:Int)≤z14)∧Bc (decide (x2.nJ≤x3.nJ)) z24 ((wI (z14+1))∧z17.Nxt q2 [(1,.v (vP 0)),(3,.v (vI z22)),(4,.v (vP 1)),(5,.v (vI (z14+1)))] z16))) (z12∧((0:Int)≤z14)∧z12∧((0:Int)≤z14)∧(Fp 92 [.agg [.seq .shp s],.agg (Fg x2)] [] (.v (vB z11)) [])∧((!z11)=false)∧((decide (0<z14))=false)∧(wI (z14+1))∧z17.Nxt q2 [(1,.v (vP 0)),(3,.v (vI z22)),(4,.v (vP 1)),(5,.v (vI (z14+1)))] z16)))) z23)))))) (Lf (.v (vB true)) z26 [] []))))) Q4 ?_
 refine dsp (fun h1 p1=>?_) fun h1 p1=>?_
 exact⟨(congrArg S.v (congrArg V.c (congrArg C.bool Q67))),rfl⟩
 refine⟨Bp (j:=(⟨0,0⟩:Gu)) Q8 rfl (by dsimp only[Jb];exact⟨by omega,by omega,by omega,by omega,rfl⟩),fun (q1:Gu) hq_q1=>?_⟩
 have hi_q1:q1.i≤s.length∧(0:Int)≤q1.pv∧(q1.i=0→q1.pv=0)∧(∀y,0<q1.i→s[Int.toNat ((q1.i:Int)-1)]? =some y→q1.pv=y.id)∧E1 (s.length:Int) q1.pv (List.drop q1.i s)=E1 (s.length:Int) 0 s:=hq_q1
 obtain ⟨v1,v2,v3,v4,v5⟩:=hi_q1
 refine dsp (fun h2 p2=>?_) fun h2 p2=>?_
 refine⟨(Bo (l:=s) (i:=q1.i) Q2),fun x1 hx1=>?_⟩
 rw[C3 hx1,E1] at v5
 refine⟨hx1,Q2,fun h3=>have q3:=Ao h3;have p3:=A0 q3;?_,fun h3=>have q3:=An h3;have p3:=Av q3;?_⟩
 exact⟨(Bb _ _ _),h3,(congrArg S.v (congrArg V.c (congrArg C.bool Q67))),rfl⟩
 refine dsp (fun h4 p4=>?_) fun h4 p4=>?_
 refine⟨(Bo (l:=s) (i:=Int.toNat ((q1.i:Int)-1)) Q2),fun x2 hx2=>?_⟩
 have hy:=v4 _ (by omega) hx2
 refine dsp (fun h5 p5=>?_) fun h5 p5=>?_
 exact⟨(Bb _ _ _),h3,h4,(Ad Q2 Q2),(Ad Q2 Q2),hx2,Q2,hx2,Q2,h5,(congrArg S.v (congrArg V.c (congrArg C.bool Q67))),rfl⟩
 refine⟨(Bb _ _ _),h3,h4,(Ad Q2 Q2),(Ad Q2 Q2),hx2,Q2,hx2,Q2,h5,dsp (fun h6 p6=>?_) fun h6 p6=>?_⟩
 exact⟨(congrArg S.v (congrArg V.c (congrArg C.bool Q67))),rfl⟩
 refine⟨Bp (j:=(⟨0,0⟩:Eb)) Q8 rfl (by dsimp only[Do];exact⟨by omega,by omega,by omega,by omega,rfl⟩),fun (q2:Eb) hq_q2=>?_⟩
 have hi_q2:q2.k≤x1.fJ.length∧(0:Int)≤q2.pv∧(q2.k=0→q2.pv=0)∧(∀y,0<q2.k→x1.fJ[Int.toNat ((q2.k:Int)-1)]? =some y→q2.pv=y.nJ)∧Dm (s.length:Int) q2.pv (List.drop q2.k x1.fJ)=Dm (s.length:Int) 0 x1.fJ:=hq_q2
 obtain ⟨w1,w2,w3,w4,w5⟩:=hi_q2
 refine dsp (fun h7 p7=>?_) fun h7 p7=>?_
 refine⟨(Bo (l:=x1.fJ) (i:=q2.k) Q2),fun x3 hx3=>?_⟩
 rw[C3 hx3,Dm] at w5
 refine⟨fun h8=>have q8:=Ao h8;?_,fun h8=>have q8:=An h8;have p8:=Abp q8;?_⟩
 exact⟨hx3,Q2,hx3,Q2,(Vi s x3 Q2),h8,(congrArg S.v (congrArg V.c (congrArg C.bool Q67))),rfl⟩
 refine dsp (fun h9 p9=>?_) fun h9 p9=>?_
 refine⟨(Bo (l:=x1.fJ) (i:=Int.toNat ((q2.k:Int)-1)) Q2),fun x4 hx4=>?_⟩
 have hz:=w4 _ (by omega) hx4
 refine⟨hx3,Q2,hx3,Q2,(Vi s x3 Q2),h8,h9,(Ad Q2 Q2),(Ad Q2 Q2),hx4,Q2,hx4,Q2,hx3,Q2,hx3,Q2,dsp (fun h10 p10=>?_) fun h10 p10=>?_⟩
 exact⟨(congrArg S.v (congrArg V.c (congrArg C.bool Q67))),rfl⟩
 exact⟨(Ad Q2 Q2),A6 (j:=(⟨q2.k+1,x3.nJ⟩:Eb)) Q8 rfl Q57 (by dsimp only[Do];omega)⟩
 exact⟨hx3,Q2,hx3,Q2,(Vi s x3 Q2),h8,h9,(Ad Q2 Q2),A6 (j:=(⟨q2.k+1,x3.nJ⟩:Eb)) Q8 rfl Q57 (by dsimp only[Do];omega)⟩
 rw[Mc p7,Dm] at w5
 exact⟨(Ad Q2 Q2),A6 (j:=(⟨q1.i+1,x1.id⟩:Gu)) Q8 rfl Q50 (by dsimp only[Jb];omega)⟩
 refine⟨(Bb _ _ _),h3,h4,dsp (fun h5 p5=>?_) fun h5 p5=>?_⟩
 exact⟨(congrArg S.v (congrArg V.c (congrArg C.bool Q67))),rfl⟩
 refine⟨Bp (j:=(⟨0,0⟩:Eb)) Q8 rfl (by dsimp only[Do];exact⟨by omega,by omega,by omega,by omega,rfl⟩),fun (q2:Eb) hq_q2=>?_⟩
 have hi_q2:q2.k≤x1.fJ.length∧(0:Int)≤q2.pv∧(q2.k=0→q2.pv=0)∧(∀y,0<q2.k→x1.fJ[Int.toNat ((q2.k:Int)-1)]? =some y→q2.pv=y.nJ)∧Dm (s.length:Int) q2.pv (List.drop q2.k x1.fJ)=Dm (s.length:Int) 0 x1.fJ:=hq_q2
 obtain ⟨w1,w2,w3,w4,w5⟩:=hi_q2
 refine dsp (fun h6 p6=>?_) fun h6 p6=>?_
 refine⟨(Bo (l:=x1.fJ) (i:=q2.k) Q2),fun x2 hx2=>?_⟩
 rw[C3 hx2,Dm] at w5
 refine⟨fun h7=>have q7:=Ao h7;?_,fun h7=>have q7:=An h7;have p7:=Abp q7;?_⟩
 exact⟨hx2,Q2,hx2,Q2,(Vi s x2 Q2),h7,(congrArg S.v (congrArg V.c (congrArg C.bool Q67))),rfl⟩
 refine dsp (fun h8 p8=>?_) fun h8 p8=>?_
 refine⟨(Bo (l:=x1.fJ) (i:=Int.toNat ((q2.k:Int)-1)) Q2),fun x3 hx3=>?_⟩
 have hz:=w4 _ (by omega) hx3
 refine⟨hx2,Q2,hx2,Q2,(Vi s x2 Q2),h7,h8,(Ad Q2 Q2),(Ad Q2 Q2),hx3,Q2,hx3,Q2,hx2,Q2,hx2,Q2,dsp (fun h9 p9=>?_) fun h9 p9=>?_⟩
 exact⟨(congrArg S.v (congrArg V.c (congrArg C.bool Q67))),rfl⟩
 exact⟨(Ad Q2 Q2),A6 (j:=(⟨q2.k+1,x2.nJ⟩:Eb)) Q8 rfl Q58 (by dsimp only[Do];omega)⟩
 exact⟨hx2,Q2,hx2,Q2,(Vi s x2 Q2),h7,h8,(Ad Q2 Q2),A6 (j:=(⟨q2.k+1,x2.nJ⟩:Eb)) Q8 rfl Q58 (by dsimp only[Do];omega)⟩
 rw[Mc p6,Dm] at w5
 exact⟨(Ad Q2 Q2),A6 (j:=(⟨q1.i+1,x1.id⟩:Gu)) Q8 rfl Q50 (by dsimp only[Jb];omega)⟩
 rw[Mc p2,E1] at v5
 exact⟨(congrArg S.v (congrArg V.c (congrArg C.bool Q67))),rfl⟩
structure Mh where
 v:Nat
def Ka (n:Int) (x1:Shp):Fam:=⟨Mh,fun q1=>[(2,.v (vI n)),(6,.v (vP 0)),(23,.v (.c (.seq .fld x1.fJ))),(24,.v (vI (x1.fJ.length:Int))),(25,.v (vI (q1.v:Int)))],fun _=>[.cells [.int .i64 0,.int .i64 0,.bool false,.bool false,.int .i64 0]],fun q1=>q1.v≤x1.fJ.length∧H4 (List.drop q1.v x1.fJ) n=H4 x1.fJ n,fun q1=>x1.fJ.length-q1.v⟩
theorem Yq (s:List Shp) (sh:Int) (n:Int) (hp1:s.length≤1000) (hp2: ∀x∈s,x.fJ.length≤1000):Fun Tryz.prog 165 [.agg [.seq .shp s],vI sh,vI n] [] (.tup [.agg (Fg ((fieldAt s sh n).getD fld0)),vB (fieldAt s sh n).isSome]) []:=by
 have hN:Bh=274877906944:=rfl
 refine Ar Tryz.func165 Q4 Q4 (w:=let z4:List C:=[.int .i64 0,.int .i64 0,.bool false,.bool false,.int .i64 0];let z5:=(s.length:Int)-1;let z6:S:= .tup [.agg (Fg ((fieldAt s sh n).getD fld0)),vB (fieldAt s sh n).isSome];let z7:=Lf (.tup [.agg z4,vB false]) z6 [] [];(.sZ [.as 14 (.v (vI z5)),.call [] (.v (vB (Ak sh 0 z5))) []] (.br (.lJ () []) (.intro (Sx (s[sh.toNat]?)) fun x1=> .sZ [.el .shp x1,.at 0,.keep [2,6,23,24,25],.sel [1]] (.loop (Ka n x1) fun q1=> .br (.intro (Sx (x1.fJ[q1.v]?)) fun x2=> .sZ [.el .fld x2] (.br (.lJ () []) (.sZ [.as 34 (.v (vI ((q1.v:Int)+1))),.at 0,.keep [2,6,23,24,25],.sel [0]] (.next)))) (.lJ () [])))),(wI z5)∧(Fp 97 [vI sh,vI 0,vI z5] [] (.v (vB (Ak sh 0 z5))) [])∧Bc (!(Ak sh 0 z5)) z7 (El (s[sh.toNat]?) fun x1=>(let z2:=(x1.fJ.length:Int);let z3:=Ka n x1;(s[sh.toNat]? =some x1)∧((0:Int)≤sh)∧z3.Has [(2,.v (vI n)),(6,.v (vP 0)),(23,.v (.c (.seq .fld x1.fJ))),(24,.v (vI z2)),(25,.v (vI 0))] [.cells z4]∧∀q1,z3.inv q1→(let z1:=(q1.v:Int);Bc (decide (z1<z2)) (El (x1.fJ[q1.v]?) fun x2=>((x1.fJ[q1.v]? =some x2)∧((0:Int)≤z1)∧Bc (decide (x2.nJ=n)) (Lf (.tup [.agg (Fg x2),vB true]) z6 [] []) ((wI (z1+1))∧z3.Nxt q1 [(2,.v (vI n)),(6,.v (vP 0)),(23,.v (.c (.seq .fld x1.fJ))),(24,.v (vI z2)),(25,.v (vI (z1+1)))] [.cells z4]))) z7))))) Q4 ?_
 refine⟨(Ad Q2 Q2),(Cr _ _ _),fun h1=>have q1:=Ao h1;have p1:=A0 q1;?_,fun h1=>have q1:=An h1;have p1:=Av q1;?_⟩
 exact zE ((fieldAt s sh n).getD fld0) (⟨0,0,false,false,0⟩:Fld) (fun hm1=>⟨(congrArg S.tup (Ab (congrArg V.agg (Ab (cI W14) (Ab (cI W14) (Ab (congrArg C.bool W14) (Ab (congrArg C.bool W14) (Ab (cI W14) rfl)))))) (Ab (congrArg V.c (congrArg C.bool W14)) rfl))),rfl⟩) W14
 have q1_:=q1
 refine⟨(Bo (l:=s) (i:=sh.toNat) Q2),fun x1 hx1=>?_⟩
 have hfa:=Aaj (n:=n) q1_ hx1
 have hfl:=hp2 x1 (List.mem_of_getElem? hx1)
 refine⟨hx1,Q2,Bp (j:=(⟨0⟩:Mh)) Q8 rfl (by dsimp only[Ka];exact⟨by omega,by simp⟩),fun (q1:Mh) hq_q1=>?_⟩
 have hi_q1:q1.v≤x1.fJ.length∧H4 (List.drop q1.v x1.fJ) n=H4 x1.fJ n:=hq_q1
 obtain ⟨v1,v2⟩:=hi_q1
 refine dsp (fun h2 p2=>?_) fun h2 p2=>?_
 refine⟨(Bo (l:=x1.fJ) (i:=q1.v) Q2),fun x2 hx2=>?_⟩
 rw[C3 hx2,Wj] at v2
 refine⟨hx2,Q2,dsp (fun h3 p3=>?_) fun h3 p3=>?_⟩
 exact zE ((fieldAt s sh n).getD fld0) x2 (fun hm1=>⟨(congrArg S.tup (Ab (congrArg V.agg (Ab (cI W14) (Ab (cI W14) (Ab (congrArg C.bool W14) (Ab (congrArg C.bool W14) (Ab (cI W14) rfl)))))) (Ab (congrArg V.c (congrArg C.bool W14)) rfl))),rfl⟩) W14
 exact⟨(Ad Q2 Q2),A6 (j:=(⟨q1.v+1⟩:Mh)) Q8 rfl (by dsimp only[Ka];exact⟨by omega,by grind⟩) (by dsimp only[Ka];omega)⟩
 rw[Mc p2] at v2
 exact zE ((fieldAt s sh n).getD fld0) (⟨0,0,false,false,0⟩:Fld) (fun hm1=>⟨(congrArg S.tup (Ab (congrArg V.agg (Ab (cI W14) (Ab (cI W14) (Ab (congrArg C.bool W14) (Ab (congrArg C.bool W14) (Ab (cI W14) rfl)))))) (Ab (congrArg V.c (congrArg C.bool W14)) rfl))),rfl⟩) W14
structure Mi where
 i:Nat
def Kb (n:Int) (x1:Shp):Fam:=⟨Mi,fun q1=>[(2,.v (vI n)),(6,.v (vP 0)),(8,.v (.c (.seq .fld x1.fJ))),(9,.v (vI (q1.i:Int)))],fun _=>[.cells [.int .i64 0,.int .i64 0,.bool false,.bool false,.int .i64 0]],fun q1=>q1.i≤x1.fJ.length∧H4 (List.drop q1.i x1.fJ) n=H4 x1.fJ n,fun q1=>x1.fJ.length-q1.i⟩
theorem Uk (s:List Shp) (sh:Int) (n:Int) (hp1:s.length≤1000) (hp2: ∀x∈s,x.fJ.length≤1000):Fun Tryz.prog 188 [.agg [.seq .shp s],vI sh,vI n] [] (.tup [.agg (Fg ((fieldAt s sh n).getD fld0)),vB (fieldAt s sh n).isSome]) []:=by
 have hN:Bh=274877906944:=rfl
 refine Ar Tryz.func188 Q4 Q4 (w:=let z3:List C:=[.int .i64 0,.int .i64 0,.bool false,.bool false,.int .i64 0];let z4:=(s.length:Int)-1;let z5:S:= .tup [.agg (Fg ((fieldAt s sh n).getD fld0)),vB (fieldAt s sh n).isSome];let z6:=Lf (.tup [.agg z3,vB false]) z5 [] [];(.sZ [.as 14 (.v (vI z4)),.call [] (.v (vB (Ak sh 0 z4))) []] (.br (.lJ () []) (.intro (Sx (s[sh.toNat]?)) fun x1=> .sZ [.el .shp x1,.at 0,.keep [2,6,8,9],.sel [1]] (.loop (Kb n x1) fun q1=> .br (.intro (Sx (x1.fJ[q1.i]?)) fun x2=> .sZ [.el .fld x2] (.br (.sZ [.el .fld x2] (.lJ () [])) (.sZ [.as 29 (.v (vI ((q1.i:Int)+1))),.at 0,.keep [2,6,8,9],.sel [0]] (.next)))) (.lJ () [])))),(wI z4)∧(Fp 44 [vI sh,vI 0,vI z4] [] (.v (vB (Ak sh 0 z4))) [])∧Bc (!(Ak sh 0 z4)) z6 (El (s[sh.toNat]?) fun x1=>(let z2:=Kb n x1;(s[sh.toNat]? =some x1)∧((0:Int)≤sh)∧z2.Has [(2,.v (vI n)),(6,.v (vP 0)),(8,.v (.c (.seq .fld x1.fJ))),(9,.v (vI 0))] [.cells z3]∧∀q1,z2.inv q1→(let z1:=(q1.i:Int);Bc (decide (z1<(x1.fJ.length:Int))) (El (x1.fJ[q1.i]?) fun x2=>((x1.fJ[q1.i]? =some x2)∧((0:Int)≤z1)∧Bc (decide (x2.nJ=n)) ((x1.fJ[q1.i]? =some x2)∧((0:Int)≤z1)∧Lf (.tup [.agg (Fg x2),vB true]) z5 [] []) ((wI (z1+1))∧z2.Nxt q1 [(2,.v (vI n)),(6,.v (vP 0)),(8,.v (.c (.seq .fld x1.fJ))),(9,.v (vI (z1+1)))] [.cells z3]))) z6))))) Q4 ?_
 refine⟨(Ad Q2 Q2),(Bb _ _ _),fun h1=>have q1:=Ao h1;have p1:=A0 q1;?_,fun h1=>have q1:=An h1;have p1:=Av q1;?_⟩
 exact zE ((fieldAt s sh n).getD fld0) (⟨0,0,false,false,0⟩:Fld) (fun hm1=>⟨(congrArg S.tup (Ab (congrArg V.agg (Ab (cI W14) (Ab (cI W14) (Ab (congrArg C.bool W14) (Ab (congrArg C.bool W14) (Ab (cI W14) rfl)))))) (Ab (congrArg V.c (congrArg C.bool W14)) rfl))),rfl⟩) W14
 have q1_:=q1
 refine⟨(Bo (l:=s) (i:=sh.toNat) Q2),fun x1 hx1=>?_⟩
 have hfa:=Aaj (n:=n) q1_ hx1
 have hfl:=hp2 x1 (List.mem_of_getElem? hx1)
 refine⟨hx1,Q2,Bp (j:=(⟨0⟩:Mi)) Q8 rfl (by dsimp only[Kb];exact⟨by omega,by simp⟩),fun (q1:Mi) hq_q1=>?_⟩
 have hi_q1:q1.i≤x1.fJ.length∧H4 (List.drop q1.i x1.fJ) n=H4 x1.fJ n:=hq_q1
 obtain ⟨v1,v2⟩:=hi_q1
 refine dsp (fun h2 p2=>?_) fun h2 p2=>?_
 refine⟨(Bo (l:=x1.fJ) (i:=q1.i) Q2),fun x2 hx2=>?_⟩
 rw[C3 hx2,Wj] at v2
 refine⟨hx2,Q2,dsp (fun h3 p3=>?_) fun h3 p3=>?_⟩
 exact zE ((fieldAt s sh n).getD fld0) x2 (fun hm1=>⟨hx2,Q2,(congrArg S.tup (Ab (congrArg V.agg (Ab (cI W14) (Ab (cI W14) (Ab (congrArg C.bool W14) (Ab (congrArg C.bool W14) (Ab (cI W14) rfl)))))) (Ab (congrArg V.c (congrArg C.bool W14)) rfl))),rfl⟩) W14
 exact⟨(Ad Q2 Q2),A6 (j:=(⟨q1.i+1⟩:Mi)) Q8 rfl (by dsimp only[Kb];exact⟨by omega,by grind⟩) (by dsimp only[Kb];omega)⟩
 rw[Mc p2] at v2
 exact zE ((fieldAt s sh n).getD fld0) (⟨0,0,false,false,0⟩:Fld) (fun hm1=>⟨(congrArg S.tup (Ab (congrArg V.agg (Ab (cI W14) (Ab (cI W14) (Ab (congrArg C.bool W14) (Ab (congrArg C.bool W14) (Ab (cI W14) rfl)))))) (Ab (congrArg V.c (congrArg C.bool W14)) rfl))),rfl⟩) W14
theorem Af8 (p:Pln):Fun Tryz.prog 46 [.agg (G0 p)] [] (.v (vB (B2 p))) []:=by
 have hN:Bh=274877906944:=rfl
 refine Ar Tryz.func46 Q4 Q4 (w:=let z1:=(p.sQ.length:Int)-1;let z2:=Lf (.v (vB false)) (.v (vB (B2 p))) [] [];let z3:S:= .v (vB (Ak p.most 0 2000));let z4:=Ak p.rJ 0 z1;let z5:=Du p.sQ;let z6:=Ak p.dJ 1 8;(.sZ [.call [] (.v (vB z5)) []] (.br (.sZ [.as 13 (.v (vI z1)),.call [] (.v (vB z4)) []] (.br (.sZ [.call [] (.v (vB z6)) []] (.br (.sZ [.call [] z3 []] (.lJ () [])) (.lJ () []))) (.lJ () []))) (.lJ () [])),(Fp 96 [.agg [.seq .shp p.sQ]] [] (.v (vB z5)) [])∧Bc z5 ((wI z1)∧(Fp 97 [vI p.rJ,vI 0,vI z1] [] (.v (vB z4)) [])∧Bc z4 ((Fp 97 [vI p.dJ,vI 1,vI 8] [] (.v (vB z6)) [])∧Bc z6 ((Fp 97 [vI p.most,vI 0,vI 2000] [] z3 [])∧Lf z3 (.v (vB (B2 p))) [] []) z2) z2) z2)) Q4 ?_
 refine⟨(Ahe p.sQ),fun h1=>have p1:=Vc h1;?_,fun h1=>?_⟩
 refine⟨(Ad Q2 Q2),(Cr _ _ _),fun h2=>have p2:=Av h2;?_,fun h2=>have p2:=A0 h2;?_⟩
 refine⟨(Cr _ _ _),fun h3=>have p3:=Av h3;?_,fun h3=>have p3:=A0 h3;?_⟩
 exact⟨(Cr _ _ _),(congrArg S.v (congrArg V.c (congrArg C.bool Q82))),rfl⟩
 exact⟨(congrArg S.v (congrArg V.c (congrArg C.bool Q82))),rfl⟩
 exact⟨(congrArg S.v (congrArg V.c (congrArg C.bool Q82))),rfl⟩
 exact⟨(congrArg S.v (congrArg V.c (congrArg C.bool Q82))),rfl⟩
theorem Mj (p:Pln):Fun Tryz.prog 13 [.agg (G0 p)] [] (.v (vB (B2 p))) []:=by
 have hN:Bh=274877906944:=rfl
 refine Ar Tryz.func13 Q4 Q4 (w:=let z1:=(p.sQ.length:Int)-1;let z2:=Lf (.v (vB false)) (.v (vB (B2 p))) [] [];let z3:S:= .v (vB (Ak p.most 0 2000));let z4:=Ak p.rJ 0 z1;let z5:=Du p.sQ;let z6:=Ak p.dJ 1 8;(.sZ [.call [] (.v (vB z5)) []] (.br (.sZ [.as 13 (.v (vI z1)),.call [] (.v (vB z4)) []] (.br (.sZ [.call [] (.v (vB z6)) []] (.br (.sZ [.call [] z3 []] (.lJ () [])) (.lJ () []))) (.lJ () []))) (.lJ () [])),(Fp 43 [.agg [.seq .shp p.sQ]] [] (.v (vB z5)) [])∧Bc z5 ((wI z1)∧(Fp 44 [vI p.rJ,vI 0,vI z1] [] (.v (vB z4)) [])∧Bc z4 ((Fp 44 [vI p.dJ,vI 1,vI 8] [] (.v (vB z6)) [])∧Bc z6 ((Fp 44 [vI p.most,vI 0,vI 2000] [] z3 [])∧Lf z3 (.v (vB (B2 p))) [] []) z2) z2) z2)) Q4 ?_
 refine⟨(Ahf p.sQ),fun h1=>have p1:=Vc h1;?_,fun h1=>?_⟩
 refine⟨(Ad Q2 Q2),(Bb _ _ _),fun h2=>have p2:=Av h2;?_,fun h2=>have p2:=A0 h2;?_⟩
 refine⟨(Bb _ _ _),fun h3=>have p3:=Av h3;?_,fun h3=>have p3:=A0 h3;?_⟩
 exact⟨(Bb _ _ _),(congrArg S.v (congrArg V.c (congrArg C.bool Q82))),rfl⟩
 exact⟨(congrArg S.v (congrArg V.c (congrArg C.bool Q82))),rfl⟩
 exact⟨(congrArg S.v (congrArg V.c (congrArg C.bool Q82))),rfl⟩
 exact⟨(congrArg S.v (congrArg V.c (congrArg C.bool Q82))),rfl⟩
theorem Ahg (k:Int):Fun Tryz.prog 168 [vI k] [] (.v (vB (Gs k))) []:=by
 have hN:Bh=274877906944:=rfl
 refine Ar Tryz.func168 Q4 Q4 (w:=let z1:=Lf (.v (vB true)) (.v (vB (Gs k))) [] [];(.br (.lJ () []) (.br (.lJ () []) (.lJ () [])),Bc (decide (k=2)) z1 (Bc (decide (k=3)) z1 (Lf (.v (vB (decide (k=6)))) (.v (vB (Gs k))) [] [])))) Q4 ?_
 refine dsp (fun h1 p1=>?_) fun h1 p1=>?_
 exact⟨(congrArg S.v (congrArg V.c (congrArg C.bool (by grind[Gs])))),rfl⟩
 refine dsp (fun h2 p2=>?_) fun h2 p2=>?_
 exact⟨(congrArg S.v (congrArg V.c (congrArg C.bool (by grind[Gs])))),rfl⟩
 exact⟨(congrArg S.v (congrArg V.c (congrArg C.bool (by grind[Gs])))),rfl⟩
theorem Ep (d:Dcd) (hp1:List.length (d).sJ≤Bh):Fun Tryz.prog 108 [.agg (B9 d)] [] (.v (vI (D2 d))) []:=by
 have hN:Bh=274877906944:=rfl
 refine Ar Tryz.func108 Q4 Q4 (w:=let z1:=((d.sJ.length:Nat):Int);(.br (.lJ () []) (.sZ [.as 12 (.v (vI (z1-1)))] (.intro (Sx (d.sJ[Int.toNat (z1-1)]?)) fun x1=> .sZ [.el .lev x1] (.lJ () []))),Bc (decide (z1=0)) (Lf (.v (vI 0)) (.v (vI (D2 d))) [] []) ((wI (z1-1))∧El (d.sJ[Int.toNat (z1-1)]?) fun x1=>((d.sJ[Int.toNat (z1-1)]? =some x1)∧((0:Int)≤z1-1)∧Lf (.v (vI x1.left)) (.v (vI (D2 d))) [] [])))) Q4 ?_
 refine dsp (fun h1 p1=>?_) fun h1 p1=>?_
 exact⟨(sI W15),rfl⟩
 refine⟨(Ad Q2 Q2),(Bo (l:=d.sJ) (i:=Int.toNat (((d.sJ.length:Nat):Int)-1)) Q2),fun x1 hx1=>?_⟩
 have htop:D2 d=x1.left:=by unfold D2;rw[Va (by rw[←hx1];congr 1;omega)]
 exact⟨hx1,Q2,(sI W15),rfl⟩
theorem Qr (d:Dcd) (hp1:List.length (d).sJ≤Bh):Fun Tryz.prog 126 [.agg (B9 d)] [] (.v (vI (D2 d))) []:=by
 have hN:Bh=274877906944:=rfl
 refine Ar Tryz.func126 Q4 Q4 (w:=let z1:=((d.sJ.length:Nat):Int);(.br (.lJ () []) (.sZ [.as 12 (.v (vI (z1-1)))] (.intro (Sx (d.sJ[Int.toNat (z1-1)]?)) fun x1=> .sZ [.el .lev x1] (.lJ () []))),Bc (decide (z1=0)) (Lf (.v (vI 0)) (.v (vI (D2 d))) [] []) ((wI (z1-1))∧El (d.sJ[Int.toNat (z1-1)]?) fun x1=>((d.sJ[Int.toNat (z1-1)]? =some x1)∧((0:Int)≤z1-1)∧Lf (.v (vI x1.left)) (.v (vI (D2 d))) [] [])))) Q4 ?_
 refine dsp (fun h1 p1=>?_) fun h1 p1=>?_
 exact⟨(sI W15),rfl⟩
 refine⟨(Ad Q2 Q2),(Bo (l:=d.sJ) (i:=Int.toNat (((d.sJ.length:Nat):Int)-1)) Q2),fun x1 hx1=>?_⟩
 have htop:D2 d=x1.left:=by unfold D2;rw[Va (by rw[←hx1];congr 1;omega)]
 exact⟨hx1,Q2,(sI W15),rfl⟩
theorem Aj8 (p:Pln) (k:Int) (hp1:List.length (p).sQ≤Bh):Fun Tryz.prog 211 [.agg (G0 p),vI k] [] (.v (vB (Ak k 0 (((List.length (p).sQ:Nat):Int)-1)))) []:=by
 have hN:Bh=274877906944:=rfl
 refine Ar Tryz.func211 Q4 Q4 (w:=let z1:=((p.sQ.length:Nat):Int)-1;let z2:S:= .v (vB (Ak k 0 z1));(.sZ [.as 10 (.v (vI z1)),.call [] z2 []] (.lJ () []),(wI z1)∧(Fp 97 [vI k,vI 0,vI z1] [] z2 [])∧Lf z2 (.v (vB (Ak k 0 (((List.length (p).sQ:Nat):Int)-1)))) [] [])) Q4 ?_
 exact⟨(Ad Q2 Q2),(Cr _ _ _),(congrArg S.v (congrArg V.c (congrArg C.bool (by rfl)))),rfl⟩
theorem Aj9 (p:Pln) (l:Lev) (hp1:List.length (p).sQ≤Bh):Fun Tryz.prog 164 [.agg (G0 p),.agg (Ath l)] [] (.v (vB (F9 ((List.length (p).sQ:Nat):Int) l))) []:=by
 have hN:Bh=274877906944:=rfl
 refine Ar Tryz.func164 Q4 Q4 (w:=let z1:=((List.length (p).sQ:Nat):Int);let z2:S:= .v (vB (Ak l.left 0 2000));let z3:=Ak l.mK 0 (z1-1);(.sZ [.call [] (.v (vB z3)) []] (.br (.sZ [.call [] z2 []] (.lJ () [])) (.lJ () [])),(Fp 211 [.agg (G0 p),vI l.mK] [] (.v (vB z3)) [])∧Bc z3 ((Fp 97 [vI l.left,vI 0,vI 2000] [] z2 [])∧Lf z2 (.v (vB (F9 z1 l))) [] []) (Lf (.v (vB false)) (.v (vB (F9 z1 l))) [] []))) Q4 ?_
 refine⟨(Aj8 p _ Q2),fun h1=>have p1:=Av h1;?_,fun h1=>have p1:=A0 h1;?_⟩
 exact⟨(Cr _ _ _),(sB W16),rfl⟩
 exact⟨(sB W16),rfl⟩
theorem Anw (l:Lev) (d:Dcd) (hp1:List.length (d).pJ.sQ≤Bh):Fun Tryz.prog 163 [.agg (Ath l),vP 0] [.cells (B9 d)] (.v (vB (!F9 ((List.length (d).pJ.sQ:Nat):Int) l))) [.cells (B9 d)]:=by
 have hN:Bh=274877906944:=rfl
 refine Ar Tryz.func163 Q4 Q4 (w:=let z1:=F9 ((List.length (d.pJ).sQ:Nat):Int) l;(.sZ [.call [] (.v (vB z1)) []] (.lJ () [0]),(Fp 164 [.agg (G0 d.pJ),.agg (Ath l)] [] (.v (vB z1)) [])∧Lf (.v (vB (!z1))) (.v (vB (!F9 ((List.length (d).pJ.sQ:Nat):Int) l))) [.cells (B9 d)] [.cells (B9 d)])) Q4 ?_
 exact⟨(Aj9 d.pJ l Q2),(congrArg S.v (congrArg V.c (congrArg C.bool (by rfl)))),rfl⟩
structure Um where
 v:Nat
def Un (s:List Lev) (d:Dcd):Fam:=⟨Um,fun q1=>[(0,.v (.c (.seq .lev s))),(1,.v (.c (.fn 163 [0]))),(7,.v (vI ((List.length s:Nat):Int))),(8,.v (vI ((q1.v:Nat):Int)))],fun _=>[.cells (B9 d)],fun q1=>q1.v≤List.length s∧Z0 (List.length d.pJ.sQ:Int) (List.drop q1.v s)+q1.v=Z0 (List.length d.pJ.sQ:Int) s,fun q1=>List.length s-q1.v⟩
theorem Asf (s:List Lev) (d:Dcd) (hp1:List.length (d).pJ.sQ≤Bh) (hp2:s.length≤Bh):Fun Tryz.prog 210 [.c (.seq .lev s),.c (.fn 163 [0])] [.cells (B9 d)] (.v (vI (Me ((List.length (d).pJ.sQ:Nat):Int) s))) [.cells (B9 d)]:=by
 have hN:Bh=274877906944:=rfl
 refine Ar Tryz.func210 Q4 Q4 (w:=let z3:=((List.length (d).pJ.sQ:Nat):Int);let z4:List Blk:=[.cells (B9 d)];let z5:=((s.length:Nat):Int);let z6:=Un s d;(.sZ [.at 0,.keep [0,1,7,8],.sel [0]] (.loop z6 fun q1=> .br (.intro (Sx (s[q1.v]?)) fun x1=> .sZ [.el .lev x1,.call [0] (.v (vB (!F9 z3 x1))) z4] (.br (.lJ () [0]) (.sZ [.as 18 (.v (vI (((q1.v:Nat):Int)+1))),.at 0,.keep [0,1,7,8],.sel [0]] (.next)))) (.lJ () [0])),z6.Has [(0,.v (.c (.seq .lev s))),(1,.v (.c (.fn 163 [0]))),(7,.v (vI z5)),(8,.v (vI 0))] z4∧∀q1,z6.inv q1→(let z2:=((q1.v:Nat):Int);Bc (decide (z2<z5)) (El (s[q1.v]?) fun x1=>(let z1:= !F9 z3 x1;(s[q1.v]? =some x1)∧((0:Int)≤z2)∧(Fp 163 [.agg (Ath x1),vP 0] z4 (.v (vB z1)) z4)∧Bc z1 (Lf (.v (vI z2)) (.v (vI (Me z3 s))) z4 z4) ((wI (z2+1))∧z6.Nxt q1 [(0,.v (.c (.seq .lev s))),(1,.v (.c (.fn 163 [0]))),(7,.v (vI z5)),(8,.v (vI (z2+1)))] z4))) (Lf (.v (vI (-1))) (.v (vI (Me z3 s))) z4 z4)))) Q4 ?_
 refine⟨Bp (j:=(⟨0⟩:Um)) Q8 rfl (by dsimp only[Un];exact⟨by omega,rfl⟩),fun (q1:Um) hq_q1=>?_⟩
 have hi_q1:q1.v≤s.length∧Z0 (d.pJ.sQ.length:Int) (List.drop q1.v s)+q1.v=Z0 (d.pJ.sQ.length:Int) s:=hq_q1
 obtain ⟨v1,v3⟩:=hi_q1
 refine dsp (fun h1 p1=>?_) fun h1 p1=>?_
 refine⟨(Bo (l:=s) (i:=q1.v) Q2),fun x1 hx1=>?_⟩
 rw[C3 hx1,Uc] at v3
 have hll:=congrArg List.length (C3 hx1)
 rw[List.length_drop,List.length_cons,List.length_drop] at hll
 refine⟨hx1,Q2,(Anw x1 d Q2),fun h2=>have q2:=Ao h2;?_,fun h2=>have q2:=An h2;?_⟩
 rw[if_neg (by simp[q2])] at v3
 have hbl:Me (d.pJ.sQ.length:Int) s=q1.v:=by unfold Me;rw[if_neg (by omega)];omega
 exact⟨(sI W17),rfl⟩
 rw[if_pos q2] at v3
 exact⟨(Ad Q2 Q2),A6 (j:=(⟨q1.v+1⟩:Um)) Q8 rfl (by dsimp only[Un];exact⟨by omega,by omega⟩) (by dsimp only[Un];omega)⟩
 rw[List.drop_eq_nil_of_le (by omega)] at v3
 simp only[Z0] at v3
 have hbl:Me (d.pJ.sQ.length:Int) s= -1:=by unfold Me;rw[if_pos (by omega)]
 exact⟨(sI W17),rfl⟩
theorem Asg (s:List Lev) (d:Dcd) (hp1:List.length (d).pJ.sQ≤Bh) (hp2:s.length≤Bh):Fun Tryz.prog 162 [.c (.seq .lev s),.c (.fn 163 [0])] [.cells (B9 d)] (.v (vB (decide (0≤Me ((List.length (d).pJ.sQ:Nat):Int) s)))) [.cells (B9 d)]:=by
 have hN:Bh=274877906944:=rfl
 refine Ar Tryz.func162 Q4 Q4 (w:=let z1:=((List.length (d).pJ.sQ:Nat):Int);let z2:List Blk:=[.cells (B9 d)];let z3:S:= .v (vB (decide (0≤Me z1 s)));(.sZ [.call [0] (.v (vI (Me z1 s))) z2] (.lJ () [0]),(Fp 210 [.c (.seq .lev s),.c (.fn 163 [0])] z2 (.v (vI (Me z1 s))) z2)∧Lf z3 z3 z2 z2)) Q4 ?_
 exact⟨(Asf _ d Q2 Q2),rfl,rfl⟩
theorem Aap (d:Dcd) (hp1:List.length (d).sJ≤Bh) (hp2:List.length (d).pJ.sQ≤Bh):Fun Tryz.prog 102 [.agg (B9 d)] [] (.v (vB (Bn d))) []:=by
 have hN:Bh=274877906944:=rfl
 refine Ar Tryz.func102 Q4 Q4 (w:=let z1:=decide (0≤Me ((List.length (d).pJ.sQ:Nat):Int) d.sJ);let z2:=Lf (.v (vB false)) (.v (vB (Bn d))) [] [];(.sZ [.call [] (.v (vB (B2 d.pJ))) []] (.br (.br (.sZ [.call [0] (.v (vB z1)) [.cells (B9 d)]] (.lJ () [])) (.lJ () [])) (.lJ () [])),(Fp 46 [.agg (G0 d.pJ)] [] (.v (vB (B2 d.pJ))) [])∧Bc (B2 d.pJ) (Bc (decide (((d.sJ.length:Nat):Int)≤d.pJ.dJ)) ((Fp 162 [.c (.seq .lev d.sJ),.c (.fn 163 [0])] [.cells (B9 d)] (.v (vB z1)) [.cells (B9 d)])∧Lf (.v (vB (!z1))) (.v (vB (Bn d))) [] []) z2) z2)) Q4 ?_
 refine⟨(Af8 d.pJ),fun h1=>have p1:=By h1;?_,fun h1=>?_⟩
 refine dsp (fun h2 p2=>?_) fun h2 p2=>?_
 exact⟨(Asg _ d Q2 Q2),(sB W18),rfl⟩
 exact⟨(sB W18),rfl⟩
 exact⟨(sB W18),rfl⟩
theorem Uo (k:Int):Fun Tryz.prog 166 [vI k] [] (.v (vB (Tj k))) []:=by
 have hN:Bh=274877906944:=rfl
 refine Ar Tryz.func166 Q4 Q4 (w:=let z1:S:= .v (vB (Ak k 1 10));(.sZ [.call [] z1 []] (.lJ () []),(Fp 97 [vI k,vI 1,vI 10] [] z1 [])∧Lf z1 (.v (vB (Tj k))) [] [])) Q4 ?_
 exact⟨(Cr _ _ _),(congrArg S.v (congrArg V.c (congrArg C.bool (by rfl)))),rfl⟩
theorem Abz (e:Ev):Fun Tryz.prog 167 [.agg (cEv e)] [] (.v (.agg (cEv (Fb e)))) []:=by
 have hN:Bh=274877906944:=rfl
 refine Ar Tryz.func167 Q4 Q4 (w:=let zi:Int→C:= .int .i64;let z1:List C:=[.int .u64 0,zi e.len,.str [],zi 0,zi 0];let z2:S:= .v (.agg (cEv (Fb e)));let z3:S:= .v (.agg (zi e.kind::zi e.field::z1));let z4:=os 8 [5,7];(.br (.lJ () []) (.br (.sZ [.ord z4 [2]] (.lJ () [])) (.br (.sZ [.br true,.ord z4 [2]] (.lJ () [])) (.br (.sZ [.ord z4 [2]] (.lJ () [])) (.br (.lJ () []) (.br (.lJ () []) (.br (.sZ [.ord z4 [2]] (.lJ () [])) (.lJ () []))))))),Bc (decide (e.kind=1)) (Lf (.v (.agg (zi e.kind::zi 0::z1))) z2 [] []) (Bc (decide (e.kind=2)) (Lf (.v (.agg [zi e.kind,zi e.field,.int .u64 e.bits,zi 0,.str [],zi 0,zi 0])) z2 [] []) (Bc (decide (e.kind=3)) (((decide (e.kind=3))=true)∧Lf z3 z2 [] []) (Bc (decide (e.kind=6)) (Lf z3 z2 [] []) (Bc (decide (e.kind=4)) (Lf (.v (.agg [zi e.kind,zi 0,.int .u64 0,zi 0,.str e.text,zi 0,zi 0])) z2 [] []) (Bc (decide (e.kind=9)) (Lf (.v (.agg [zi e.kind,zi 0,.int .u64 0,zi 0,.str [],zi 0,zi e.aJ])) z2 [] []) (Bc (decide (e.kind=10)) (Lf (.v (.agg [zi e.kind,zi 0,.int .u64 0,zi 0,.str [],zi e.code,zi e.aJ])) z2 [] []) (Lf (.v (.agg [zi e.kind,zi 0,.int .u64 0,zi 0,.str [],zi 0,zi 0])) z2 [] []))))))))) Q4 ?_
 refine dsp (fun h1 p1=>?_) fun h1 p1=>?_
 exact zE (Fb e) (⟨e.kind,0,0,e.len,[],0,0⟩:Ev) (fun hm1=>⟨Q5,rfl⟩) W19
 refine dsp (fun h2 p2=>?_) fun h2 p2=>?_
 exact zE (Fb e) (⟨e.kind,e.field,e.bits,0,[],0,0⟩:Ev) (fun hm1=>⟨Q5,rfl⟩) W19
 refine dsp (fun h3 p3=>?_) fun h3 p3=>?_
 exact zE (Fb e) (⟨e.kind,e.field,0,e.len,[],0,0⟩:Ev) (fun hm1=>⟨h3,Q5,rfl⟩) W19
 refine dsp (fun h4 p4=>?_) fun h4 p4=>?_
 exact zE (Fb e) (⟨e.kind,e.field,0,e.len,[],0,0⟩:Ev) (fun hm1=>⟨Q5,rfl⟩) W19
 refine dsp (fun h5 p5=>?_) fun h5 p5=>?_
 exact zE (Fb e) (⟨e.kind,0,0,0,e.text,0,0⟩:Ev) (fun hm1=>⟨Q5,rfl⟩) W19
 refine dsp (fun h6 p6=>?_) fun h6 p6=>?_
 exact zE (Fb e) (⟨e.kind,0,0,0,[],0,e.aJ⟩:Ev) (fun hm1=>⟨Q5,rfl⟩) W19
 refine dsp (fun h7 p7=>?_) fun h7 p7=>?_
 exact zE (Fb e) (⟨e.kind,0,0,0,[],e.code,e.aJ⟩:Ev) (fun hm1=>⟨Q5,rfl⟩) W19
 exact zE (Fb e) (⟨e.kind,0,0,0,[],0,0⟩:Ev) (fun hm1=>⟨Q5,rfl⟩) W19
theorem Aaq (e:Ev):Fun Tryz.prog 107 [.agg (cEv e)] [] (.v (vB (Fd e))) []:=by
 have hN:Bh=274877906944:=rfl
 refine Ar Tryz.func107 Q4 Q4 (w:=(.br (.lJ () []) (.lJ () []),Bc (decide (e.kind=9)) (Lf (.v (vB true)) (.v (vB (Fd e))) [] []) (Lf (.v (vB (decide (e.kind=10)))) (.v (vB (Fd e))) [] []))) Q4 ?_
 refine dsp (fun h1 p1=>?_) fun h1 p1=>?_
 exact⟨(sB W20),rfl⟩
 exact⟨(sB W20),rfl⟩
theorem Ahh (e:Ev):Fun Tryz.prog 31 [.agg (cEv e)] [] (.v (vB (Fd e))) []:=by
 have hN:Bh=274877906944:=rfl
 refine Ar Tryz.func31 Q4 Q4 (w:=(.br (.lJ () []) (.lJ () []),Bc (decide (e.kind=9)) (Lf (.v (vB true)) (.v (vB (Fd e))) [] []) (Lf (.v (vB (decide (e.kind=10)))) (.v (vB (Fd e))) [] []))) Q4 ?_
 refine dsp (fun h1 p1=>?_) fun h1 p1=>?_
 exact⟨(sB W20),rfl⟩
 exact⟨(sB W20),rfl⟩
theorem Adg (e:Ev):Fun Tryz.prog 106 [.agg (cEv e)] [] (.v (vB (H5 e))) []:=by
 have hN:Bh=274877906944:=rfl
 refine Ar Tryz.func106 Q4 Q4 (w:=let z2:=Tj e.kind;let z3:S:= .v (vB (H5 e));let z5:S:= .v (vB (Ak e.field 1 536870911));let z6:S:= .v (vB z2);let z7:=decide (e.len<0);let z8:=Fb e;let z1:= !(decide (e.kind=z8.kind)&&(decide (e.field=z8.field)&&(decide (e.bits=z8.bits)&&(decide (e.len=z8.len)&&(decide (e.text=z8.text)&&(decide (e.code=z8.code)&&decide (e.aJ=z8.aJ)))))));let z4:S:= .v (.agg (cEv z8));let z9:S:= .v (vB false);let z10:=os 21 [2,7];(.case (!z2) (.sZ [.ord z10 [],.call [] z6 [],.br true] (.lJ () [])) (.case z1 (.sZ [.ord z10 [],.call [] z6 [],.br false,.call [] z4 [],.br true] (.lJ () [])) (.case z7 (.sZ [.ord z10 [],.call [] z6 [],.br false,.call [] z4 [],.br false,.br true] (.lJ () [])) (.sZ [.ord z10 [],.call [] z6 [],.br false,.call [] z4 [],.br false,.br false] (.br (.lJ () []) (.sZ [.call [] (.v (vB (Gs e.kind))) []] (.br (.sZ [.call [] z5 []] (.lJ () [])) (.br (.lJ () []) (.br (.lJ () []) (.lJ () []))))))))),Bc (!z2) ((Fp 166 [vI e.kind] [] z6 [])∧((!z2)=true)∧Lf z9 z3 [] []) (Bc z1 ((Fp 166 [vI e.kind] [] z6 [])∧((!z2)=false)∧(Fp 167 [.agg (cEv e)] [] z4 [])∧(z1=true)∧Lf z9 z3 [] []) (Bc z7 ((Fp 166 [vI e.kind] [] z6 [])∧((!z2)=false)∧(Fp 167 [.agg (cEv e)] [] z4 [])∧(z1=false)∧(z7=true)∧Lf z9 z3 [] []) ((Fp 166 [vI e.kind] [] z6 [])∧((!z2)=false)∧(Fp 167 [.agg (cEv e)] [] z4 [])∧(z1=false)∧(z7=false)∧Bc (decide (e.aJ<0)) (Lf z9 z3 [] []) ((Fp 168 [vI e.kind] [] (.v (vB (Gs e.kind))) [])∧Bc (Gs e.kind) ((Fp 97 [vI e.field,vI 1,vI 536870911] [] z5 [])∧Lf z5 z3 [] []) (Bc (decide (e.kind=4)) (Lf (.v (vB (!decide (e.text=[])))) z3 [] []) (Bc (decide (e.kind=10)) (Lf (.v (vB (decide (1≤e.code)))) z3 [] []) (Lf (.v (vB true)) z3 [] []))))))))) Q4 ?_
 refine⟨fun h1=>have q1:=Ao h1;?_,fun h1=>have q1:=An h1;?_⟩
 exact⟨(Uo _),h1,(sB W21),rfl⟩
 refine⟨fun h2=>have q2:=Ao h2;have p2:=(Da dT (Da dT (Da dT (Da dT (Da dT (Da dT dF)))))).1 q2;?_,fun h2=>have q2:=An h2;have p2:=(C9 dT (C9 dT (C9 dT (C9 dT (C9 dT (C9 dT dT)))))).1 q2;?_⟩
 have hib:Wm e=false:=by rw[Ud rfl];exact q2
 exact⟨(Uo _),h1,(Abz e),h2,(sB W21),rfl⟩
 have hib:Wm e=true:=by rw[Ud rfl];exact q2
 refine dsp (fun h3 p3=>?_) fun h3 p3=>?_
 exact⟨(Uo _),h1,(Abz e),h2,h3,(sB W21),rfl⟩
 refine⟨(Uo _),h1,(Abz e),h2,h3,dsp (fun h4 p4=>?_) fun h4 p4=>?_⟩
 exact⟨(sB W21),rfl⟩
 refine⟨(Ahg _),fun h5=>?_,fun h5=>?_⟩
 exact⟨(Cr _ _ _),(sB W21),rfl⟩
 refine dsp (fun h6 p6=>?_) fun h6 p6=>?_
 exact⟨(sB W21),rfl⟩
 refine dsp (fun h7 p7=>?_) fun h7 p7=>?_
 exact⟨(sB W21),rfl⟩
 exact⟨(sB W21),rfl⟩
structure Dh where
 wK:Ev
def S5 (e:Ev):Fam:=⟨Dh,fun j0=>[(1,.v (vP 0)),(3,.v (vP 1))],fun j0=>[.cells (cEv e),.cells (cEv j0.wK)],fun j0=>j0.wK=Fb e,fun _=>0⟩
theorem Aka (e:Ev):Fun Tryz.prog 125 [.agg (cEv e)] [] (.v (vB (H5 e))) []:=by
 have hN:Bh=274877906944:=rfl
 refine Ar Tryz.func125 Q4 Q4 (w:=let zi:Int→C:= .int .i64;let z1:List C:=[.int .u64 0,zi e.len,.str [],zi 0,zi 0];let z2:S:= .v (vB (Ak e.field 1 536870911));let z3:S:= .v (vB (H5 e));let z4:=S5 e;let z5:=Lf (.v (vB false)) z3 [] [];let z6:List Blk:=[.cells (cEv e),.cells (zi e.kind::zi e.field::z1)];let z7:=decide (e.kind=3);let z8:List V:=[vI e.field,vI 1,vI 536870911];let z9:=decide (e.kind=2);let z10:=Ak e.kind 1 10;(.join 0 z4 (.br (.sZ [.at 0,.keep [1,3],.sel [0,1]] (.next)) (.br (.sZ [.at 0,.keep [1,3],.sel [0,1]] (.next)) (.br (.sZ [.br true,.at 0,.keep [1,3],.sel [0,1]] (.next)) (.br (.sZ [.at 0,.keep [1,3],.sel [0,1]] (.next)) (.br (.sZ [.at 0,.keep [1,3],.sel [0,1]] (.next)) (.br (.sZ [.at 0,.keep [1,3],.sel [0,1]] (.next)) (.br (.sZ [.at 0,.keep [1,3],.sel [0,1]] (.next)) (.sZ [.at 0,.keep [1,3],.sel [0,1]] (.next))))))))) fun j0=> .br (.lJ () []) (.sZ [.call [] (.v (vB z10)) []] (.br (.lJ () []) (.br (.lJ () []) (.br (.lJ () []) (.br (.sZ [.br true,.call [] z2 []] (.lJ () [])) (.br (.sZ [.br true,.call [] z2 []] (.lJ () [])) (.br (.sZ [.call [] z2 []] (.lJ () [])) (.br (.lJ () []) (.br (.lJ () []) (.lJ () [])))))))))),(Bc (decide (e.kind=1)) (z4.Has [(1,.v (vP 0)),(3,.v (vP 1))] [.cells (cEv e),.cells (zi e.kind::zi 0::z1)]) (Bc z9 (z4.Has [(1,.v (vP 0)),(3,.v (vP 1))] [.cells (cEv e),.cells [zi e.kind,zi e.field,.int .u64 e.bits,zi 0,.str [],zi 0,zi 0]]) (Bc z7 ((z7=true)∧z4.Has [(1,.v (vP 0)),(3,.v (vP 1))] z6) (Bc (decide (e.kind=6)) (z4.Has [(1,.v (vP 0)),(3,.v (vP 1))] z6) (Bc (decide (e.kind=4)) (z4.Has [(1,.v (vP 0)),(3,.v (vP 1))] [.cells (cEv e),.cells [zi e.kind,zi 0,.int .u64 0,zi 0,.str e.text,zi 0,zi 0]]) (Bc (decide (e.kind=9)) (z4.Has [(1,.v (vP 0)),(3,.v (vP 1))] [.cells (cEv e),.cells [zi e.kind,zi 0,.int .u64 0,zi 0,.str [],zi 0,zi e.aJ]]) (Bc (decide (e.kind=10)) (z4.Has [(1,.v (vP 0)),(3,.v (vP 1))] [.cells (cEv e),.cells [zi e.kind,zi 0,.int .u64 0,zi 0,.str [],zi e.code,zi e.aJ]]) (z4.Has [(1,.v (vP 0)),(3,.v (vP 1))] [.cells (cEv e),.cells [zi e.kind,zi 0,.int .u64 0,zi 0,.str [],zi 0,zi 0]]))))))))∧∀j0,z4.inv j0→(Bc (!(decide (e.kind=j0.wK.kind)&&(decide (e.field=j0.wK.field)&&(decide (e.bits=j0.wK.bits)&&(decide (e.len=j0.wK.len)&&(decide (e.text=j0.wK.text)&&(decide (e.code=j0.wK.code)&&decide (e.aJ=j0.wK.aJ)))))))) z5 ((Fp 44 [vI e.kind,vI 1,vI 10] [] (.v (vB z10)) [])∧Bc (!z10) z5 (Bc (decide (e.len<0)) z5 (Bc (decide (e.aJ<0)) z5 (Bc z9 ((z9=true)∧(Fp 44 z8 [] z2 [])∧Lf z2 z3 [] []) (Bc z7 ((z7=true)∧(Fp 44 z8 [] z2 [])∧Lf z2 z3 [] []) (Bc (decide (e.kind=6)) ((Fp 44 z8 [] z2 [])∧Lf z2 z3 [] []) (Bc (decide (e.kind=4)) (Lf (.v (vB (!decide (e.text=[])))) z3 [] []) (Bc (decide (e.kind=10)) (Lf (.v (vB (decide (1≤e.code)))) z3 [] []) (Lf (.v (vB true)) z3 [] [])))))))))))) Q4 ?_
 refine⟨?_,fun (j0:Dh) hq_j0=>?_⟩
 refine dsp (fun h2 p2=>?_) fun h2 p2=>?_
 exact Bp (j:=(⟨(⟨e.kind,0,0,e.len,[],0,0⟩:Ev)⟩:Dh)) rfl Q8 Q36
 refine dsp (fun h3 p3=>?_) fun h3 p3=>?_
 exact Bp (j:=(⟨(⟨e.kind,e.field,e.bits,0,[],0,0⟩:Ev)⟩:Dh)) rfl Q8 Q36
 refine dsp (fun h4 p4=>?_) fun h4 p4=>?_
 exact⟨h4,Bp (j:=(⟨(⟨e.kind,e.field,0,e.len,[],0,0⟩:Ev)⟩:Dh)) rfl Q8 Q36⟩
 refine dsp (fun h5 p5=>?_) fun h5 p5=>?_
 exact Bp (j:=(⟨(⟨e.kind,e.field,0,e.len,[],0,0⟩:Ev)⟩:Dh)) rfl Q8 Q36
 refine dsp (fun h6 p6=>?_) fun h6 p6=>?_
 exact Bp (j:=(⟨(⟨e.kind,0,0,0,e.text,0,0⟩:Ev)⟩:Dh)) rfl Q8 Q36
 refine dsp (fun h7 p7=>?_) fun h7 p7=>?_
 exact Bp (j:=(⟨(⟨e.kind,0,0,0,[],0,e.aJ⟩:Ev)⟩:Dh)) rfl Q8 Q36
 refine dsp (fun h8 p8=>?_) fun h8 p8=>?_
 exact Bp (j:=(⟨(⟨e.kind,0,0,0,[],e.code,e.aJ⟩:Ev)⟩:Dh)) rfl Q8 Q36
 exact Bp (j:=(⟨(⟨e.kind,0,0,0,[],0,0⟩:Ev)⟩:Dh)) rfl Q8 Q36
 have hi_j0:j0.wK=Fb e:=hq_j0
 refine⟨fun h2=>have q2:=Ao h2;have p2:=(Da dT (Da dT (Da dT (Da dT (Da dT (Da dT dF)))))).1 q2;?_,fun h2=>have q2:=An h2;have p2:=(C9 dT (C9 dT (C9 dT (C9 dT (C9 dT (C9 dT dT)))))).1 q2;?_⟩
 have hib:Wm e=false:=by rw[Ud hi_j0.symm];exact q2
 exact⟨(sB W21),rfl⟩
 have hib:Wm e=true:=by rw[Ud hi_j0.symm];exact q2
 refine⟨(Bb _ _ _),fun h3=>have q3:=Ao h3;have p3:=A0 q3;?_,fun h3=>have q3:=An h3;have p3:=Av q3;?_⟩
 exact⟨(sB W21),rfl⟩
 refine dsp (fun h4 p4=>?_) fun h4 p4=>?_
 exact⟨(sB W21),rfl⟩
 refine dsp (fun h5 p5=>?_) fun h5 p5=>?_
 exact⟨(sB W21),rfl⟩
 refine dsp (fun h6 p6=>?_) fun h6 p6=>?_
 exact⟨h6,(Bb _ _ _),(sB W21),rfl⟩
 refine dsp (fun h7 p7=>?_) fun h7 p7=>?_
 exact⟨h7,(Bb _ _ _),(sB W21),rfl⟩
 refine dsp (fun h8 p8=>?_) fun h8 p8=>?_
 exact⟨(Bb _ _ _),(sB W21),rfl⟩
 refine dsp (fun h9 p9=>?_) fun h9 p9=>?_
 exact⟨(sB W21),rfl⟩
 refine dsp (fun h10 p10=>?_) fun h10 p10=>?_
 exact⟨(sB W21),rfl⟩
 exact⟨(sB W21),rfl⟩
theorem Af9 (s:Scn):Fun Tryz.prog 172 [.agg (Qx s)] [] (.v (vB (D4 s))) []:=by
 have hN:Bh=274877906944:=rfl
 refine Ar Tryz.func172 Q4 Q4 (w:=let z1:=7*s.hJ;let z2:=Ak s.hJ 0 9;(.sZ [.call [] (.v (vB z2)) []] (.br (.sZ [.as 11 (.v (vI z1)),.as 12 (.v (.c (.int .u64 z1)))] (.lJ () [])) (.lJ () [])),(Fp 97 [vI s.hJ,vI 0,vI 9] [] (.v (vB z2)) [])∧Bc z2 ((wI z1)∧(wU z1)∧((0:Int)≤7*s.hJ)∧Lf (.v (vB (decide (Int.fdiv s.bits (2 ^ min (Int.toNat z1) 64)=0)))) (.v (vB (D4 s))) [] []) (Lf (.v (vB false)) (.v (vB (D4 s))) [] []))) Q4 ?_
 refine⟨(Cr _ _ _),fun h1=>have p1:=Av h1;?_,fun h1=>have p1:=A0 h1;?_⟩
 exact⟨(Ad Q2 Q2),(Bu Q2 Q2),Q2,(sB W22),rfl⟩
 exact⟨(sB W22),rfl⟩
theorem Xi (s:Scn):Fun Tryz.prog 189 [.agg (Qx s)] [] (.v (vB (D4 s))) []:=by
 have hN:Bh=274877906944:=rfl
 refine Ar Tryz.func189 Q4 Q4 (w:=let z1:=7*s.hJ;let z2:=Ak s.hJ 0 9;(.sZ [.call [] (.v (vB z2)) []] (.br (.sZ [.as 11 (.v (vI z1)),.as 12 (.v (.c (.int .u64 z1)))] (.lJ () [])) (.lJ () [])),(Fp 44 [vI s.hJ,vI 0,vI 9] [] (.v (vB z2)) [])∧Bc z2 ((wI z1)∧(wU z1)∧((0:Int)≤7*s.hJ)∧Lf (.v (vB (decide (Int.fdiv s.bits (2 ^ min (Int.toNat z1) 64)=0)))) (.v (vB (D4 s))) [] []) (Lf (.v (vB false)) (.v (vB (D4 s))) [] []))) Q4 ?_
 refine⟨(Bb _ _ _),fun h1=>have p1:=Av h1;?_,fun h1=>have p1:=A0 h1;?_⟩
 exact⟨(Ad Q2 Q2),(Bu Q2 Q2),Q2,(sB W22),rfl⟩
 exact⟨(sB W22),rfl⟩
theorem Sf (d:Dcd):Fun Tryz.prog 118 [.agg (B9 d)] [] (.v (vI (Bw d))) []:=by
 have hN:Bh=274877906944:=rfl
 refine Ar Tryz.func118 Q4 Q4 (w:=let z1:=Be d.field.kind;let z2:S:= .v (vI (Aq d.wJ));let z3:S:= .v (vI (Aq z1));let z4:S:= .v (vI (Bw d));(.br (.sZ [.call [] z2 []] (.lJ () [])) (.br (.sZ [.call [] (.v (vI z1)) [],.call [] z3 []] (.lJ () [])) (.lJ () [])),Bc (decide (d.mJ=5)) ((Fp 171 [vI d.wJ] [] z2 [])∧Lf z2 z4 [] []) (Bc (decide (d.mJ=8)) ((Fp 181 [vI d.field.kind] [] (.v (vI z1)) [])∧(Fp 171 [vI z1] [] z3 [])∧Lf z3 z4 [] []) (Lf (.v (vI 0)) z4 [] [])))) Q4 ?_
 refine dsp (fun h1 p1=>?_) fun h1 p1=>?_
 exact⟨(Gd _),(sI W23),rfl⟩
 refine dsp (fun h2 p2=>?_) fun h2 p2=>?_
 exact⟨(Aby _),(Gd _),(sI W23),rfl⟩
 exact⟨(sI W23),rfl⟩
theorem Ky (d:Dcd):Fun Tryz.prog 61 [.agg (B9 d)] [] (.v (vI (Bw d))) []:=by
 have hN:Bh=274877906944:=rfl
 refine Ar Tryz.func61 Q4 Q4 (w:=let z1:=Be d.field.kind;let z2:S:= .v (vI (Aq d.wJ));let z3:S:= .v (vI (Aq z1));let z4:S:= .v (vI (Bw d));(.br (.sZ [.call [] z2 []] (.lJ () [])) (.br (.sZ [.call [] (.v (vI z1)) [],.call [] z3 []] (.lJ () [])) (.lJ () [])),Bc (decide (d.mJ=5)) ((Fp 127 [vI d.wJ] [] z2 [])∧Lf z2 z4 [] []) (Bc (decide (d.mJ=8)) ((Fp 131 [vI d.field.kind] [] (.v (vI z1)) [])∧(Fp 127 [vI z1] [] z3 [])∧Lf z3 z4 [] []) (Lf (.v (vI 0)) z4 [] [])))) Q4 ?_
 refine dsp (fun h1 p1=>?_) fun h1 p1=>?_
 exact⟨(D9 _),(sI W23),rfl⟩
 refine dsp (fun h2 p2=>?_) fun h2 p2=>?_
 exact⟨(Pp _),(D9 _),(sI W23),rfl⟩
 exact⟨(sI W23),rfl⟩
structure Nj where
 v:Nat
def K9 (p:Pln) (f:Fld):Fam:=⟨Nj,fun q1=>[(2,.v (vP 0)),(3,.v (vP 1)),(11,.v (vI ((List.length p.sQ:Nat):Int))),(12,.v (vI ((q1.v:Nat):Int)))],fun _=>[.cells (G0 p),.cells (Fg f)],fun q1=>q1.v≤List.length p.sQ∧G4 p.sQ f q1.v=false,fun q1=>List.length p.sQ-q1.v⟩
theorem Aqv (p:Pln) (f:Fld) (hp1:List.length (p).sQ≤1000) (hp2: ∀x∈(p).sQ,x.fJ.length≤1000):Fun Tryz.prog 105 [.agg (G0 p),.agg (Fg f)] [] (.v (vB (known (p).sQ f))) []:=by
 have hN:Bh=274877906944:=rfl
 refine Ar Tryz.func105 Q4 Q4 (w:=let z5:=((p.sQ.length:Nat):Int);let z6:=K9 p f;(.sZ [.at 0,.keep [2,3,11,12],.sel [0,1]] (.loop z6 fun q1=>let z1:=((q1.v:Nat):Int);.br (.sZ [.call [] (.tup [.agg (Fg ((fieldAt p.sQ z1 f.nJ).getD fld0)),vB (fieldAt p.sQ z1 f.nJ).isSome]) []] (.br (.br (.lJ () []) (.sZ [.as 30 (.v (vI (z1+1))),.at 0,.keep [2,3,11,12],.sel [0,1]] (.next))) (.sZ [.as 30 (.v (vI (z1+1))),.at 0,.keep [2,3,11,12],.sel [0,1]] (.next)))) (.lJ () [])),z6.Has [(2,.v (vP 0)),(3,.v (vP 1)),(11,.v (vI z5)),(12,.v (vI 0))] [.cells (G0 p),.cells (Fg f)]∧∀q1,z6.inv q1→(let z4:=((q1.v:Nat):Int);let z2:=fieldAt p.sQ z4 f.nJ;let z3:=(wI (z4+1))∧z6.Nxt q1 [(2,.v (vP 0)),(3,.v (vP 1)),(11,.v (vI z5)),(12,.v (vI (z4+1)))] [.cells (G0 p),.cells (Fg f)];Bc (decide (z4<z5)) ((Fp 165 [.agg [.seq .shp p.sQ],vI z4,vI f.nJ] [] (.tup [.agg (Fg (z2.getD fld0)),vB z2.isSome]) [])∧Bc (z2.isSome) (Bc (decide ((z2.getD fld0).nJ=f.nJ)&&(decide ((z2.getD fld0).kind=f.kind)&&(decide ((z2.getD fld0).rep=f.rep)&&(decide ((z2.getD fld0).packed=f.packed)&&decide ((z2.getD fld0).mK=f.mK))))) (Lf (.v (vB true)) (.v (vB (known (p).sQ f))) [] []) z3) z3) (Lf (.v (vB false)) (.v (vB (known (p).sQ f))) [] [])))) Q4 ?_
 refine⟨Bp (j:=(⟨0⟩:Nj)) Q8 rfl (by dsimp only[K9];exact⟨by omega,rfl⟩),fun (q1:Nj) hq_q1=>?_⟩
 have hi_q1:q1.v≤p.sQ.length∧G4 p.sQ f q1.v=false:=hq_q1
 obtain ⟨v1,v2⟩:=hi_q1
 refine dsp (fun h1 p1=>?_) fun h1 p1=>?_
 refine⟨(Yq p.sQ _ _ Q2 Q2),fun h2=>?_,fun h2=>?_⟩
 obtain ⟨o,ho⟩:=Option.isSome_iff_exists.1 h2
 have hg:(fieldAt p.sQ (q1.v:Int) f.nJ).getD fld0=o:=by rw[ho];rfl
 refine⟨fun h3=>have p3:=(C9 dT (C9 dT (C9 dT (C9 dT dT)))).1 h3;?_,fun h3=>have p3:=(Da dT (Da dT (Da dT (Da dT dF)))).1 h3;?_⟩
 rw[hg] at p3
 have hkk:=Abr (by omega) (show (fieldAt p.sQ (q1.v:Int) f.nJ)=some f by rw[ho,Ajt p3])
 exact⟨(sB W24),rfl⟩
 rw[hg] at p3
 have hkn:G4 p.sQ f (q1.v+1)=false:=Pn v2 (by rw[ho];intro e;exact Aju p3 (Option.some.inj e))
 exact⟨(Ad Q2 Q2),A6 (j:=(⟨q1.v+1⟩:Nj)) Q8 rfl (by dsimp only[K9];exact⟨by omega,hkn⟩) (by dsimp only[K9];omega)⟩
 have hkn:G4 p.sQ f (q1.v+1)=false:=Pn v2 (by intro e;rw[e] at h2;simp at h2)
 exact⟨(Ad Q2 Q2),A6 (j:=(⟨q1.v+1⟩:Nj)) Q8 rfl (by dsimp only[K9];exact⟨by omega,hkn⟩) (by dsimp only[K9];omega)⟩
 have hkk:=Af2 v2 (by omega)
 exact⟨(sB W24),rfl⟩
structure Jc where
 i:Nat
def Gv (d:Dcd):Fam:=⟨Jc,fun q1=>[(1,.v (vP 0)),(3,.v (vI ((q1.i:Nat):Int)))],fun _=>[.cells (B9 d)],fun q1=>q1.i≤List.length d.pJ.sQ∧G4 d.pJ.sQ d.field q1.i=false,fun q1=>List.length d.pJ.sQ-q1.i⟩
theorem Ahi (d:Dcd) (hp1:List.length (d).pJ.sQ≤1000) (hp2: ∀x∈(d).pJ.sQ,x.fJ.length≤1000):Fun Tryz.prog 123 [.agg (B9 d)] [] (.v (vB (decide ((d).field=fld0)||known (d).pJ.sQ (d).field))) []:=by
 have hN:Bh=274877906944:=rfl
 refine Ar Tryz.func123 Q4 Q4 (w:=let z6:S:= .v (vB (decide ((d).field=fld0)||known (d).pJ.sQ (d).field));let z7:=Gv d;(.br (.lJ () []) (.sZ [.at 0,.keep [1,3],.sel [0]] (.loop z7 fun q1=>let z2:=((q1.i:Nat):Int);let z1:=fieldAt d.pJ.sQ z2 d.field.nJ;.br (.sZ [.call [] (.tup [.agg (Fg (z1.getD fld0)),vB z1.isSome]) []] (.br (.br (.lJ () []) (.sZ [.as 18 (.v (vI (z2+1))),.at 0,.keep [1,3],.sel [0]] (.next))) (.sZ [.as 18 (.v (vI (z2+1))),.at 0,.keep [1,3],.sel [0]] (.next)))) (.lJ () []))),Bc (decide (d.field.nJ=0)&&(decide (d.field.kind=0)&&(decide (d.field.rep=false)&&(decide (d.field.packed=false)&&decide (d.field.mK=0))))) (Lf (.v (vB true)) z6 [] []) (z7.Has [(1,.v (vP 0)),(3,.v (vI 0))] [.cells (B9 d)]∧∀q1,z7.inv q1→(let z5:=((q1.i:Nat):Int);let z3:=fieldAt d.pJ.sQ z5 d.field.nJ;let z4:=(wI (z5+1))∧z7.Nxt q1 [(1,.v (vP 0)),(3,.v (vI (z5+1)))] [.cells (B9 d)];Bc (decide (z5<((d.pJ.sQ.length:Nat):Int))) ((Fp 188 [.agg [.seq .shp d.pJ.sQ],vI z5,vI d.field.nJ] [] (.tup [.agg (Fg (z3.getD fld0)),vB z3.isSome]) [])∧Bc (z3.isSome) (Bc (decide ((z3.getD fld0).nJ=d.field.nJ)&&(decide ((z3.getD fld0).kind=d.field.kind)&&(decide ((z3.getD fld0).rep=d.field.rep)&&(decide ((z3.getD fld0).packed=d.field.packed)&&decide ((z3.getD fld0).mK=d.field.mK))))) (Lf (.v (vB true)) z6 [] []) z4) z4) (Lf (.v (vB false)) z6 [] []))))) Q4 ?_
 refine⟨fun h1=>have p1:=(C9 dT (C9 dT (C9 dT (C9 dT dT)))).1 h1;?_,fun h1=>have p1:=(Da dT (Da dT (Da dT (Da dT dF)))).1 h1;?_⟩
 exact⟨(sB W25),rfl⟩
 refine⟨Bp (j:=(⟨0⟩:Jc)) Q8 rfl (by dsimp only[Gv];exact⟨by omega,rfl⟩),fun (q1:Jc) hq_q1=>?_⟩
 have hi_q1:q1.i≤d.pJ.sQ.length∧G4 d.pJ.sQ d.field q1.i=false:=hq_q1
 obtain ⟨v1,v2⟩:=hi_q1
 refine dsp (fun h2 p2=>?_) fun h2 p2=>?_
 refine⟨(Uk d.pJ.sQ _ _ Q2 Q2),fun h3=>?_,fun h3=>?_⟩
 obtain ⟨o,ho⟩:=Option.isSome_iff_exists.1 h3
 have hg:(fieldAt d.pJ.sQ (q1.i:Int) d.field.nJ).getD fld0=o:=by rw[ho];rfl
 refine⟨fun h4=>have p4:=(C9 dT (C9 dT (C9 dT (C9 dT dT)))).1 h4;?_,fun h4=>have p4:=(Da dT (Da dT (Da dT (Da dT dF)))).1 h4;?_⟩
 rw[hg] at p4
 have hkk:=Abr (by omega) (show (fieldAt d.pJ.sQ (q1.i:Int) d.field.nJ)=some d.field by rw[ho,Ajt p4])
 exact⟨(sB W25),rfl⟩
 rw[hg] at p4
 have hkn:G4 d.pJ.sQ d.field (q1.i+1)=false:=Pn v2 (by rw[ho];intro e;exact Aju p4 (Option.some.inj e))
 exact⟨(Ad Q2 Q2),A6 (j:=(⟨q1.i+1⟩:Jc)) Q8 rfl (by dsimp only[Gv];exact⟨by omega,hkn⟩) (by dsimp only[Gv];omega)⟩
 have hkn:G4 d.pJ.sQ d.field (q1.i+1)=false:=Pn v2 (by intro e;rw[e] at h3;simp at h3)
 exact⟨(Ad Q2 Q2),A6 (j:=(⟨q1.i+1⟩:Jc)) Q8 rfl (by dsimp only[Gv];exact⟨by omega,hkn⟩) (by dsimp only[Gv];omega)⟩
 have hkk:=Af2 v2 (by omega)
 exact⟨(sB W25),rfl⟩
theorem Xj {s:Scn} :s=scn0↔s.bits=0∧s.hJ=0:=⟨fun h=>by subst h;exact⟨rfl,rfl⟩,fun h=>by cases s;simp_all[scn0]⟩
theorem Dc {f:Fld} :f=fld0↔f.nJ=0∧f.kind=0∧f.rep=false∧f.packed=false∧f.mK=0:=⟨fun h=>by subst h;exact⟨rfl,rfl,rfl,rfl,rfl⟩,Abs⟩
theorem Vj {e:Ev} :e=ev0↔e.kind=0∧e.field=0∧e.bits=0∧e.len=0∧e.text=[]∧e.code=0∧e.aJ=0:=⟨fun h=>by subst h;exact⟨rfl,rfl,rfl,rfl,rfl,rfl,rfl⟩,fun h=>Asd h⟩
theorem Kz (d:Dcd):0≤Bw d∧Bw d≤8:=by
 unfold Bw
 have h1:=Dv d.wJ
 have h2:=Dv (Be d.field.kind)
 split
 ·exact h1
 ·split
  ·exact h2
  ·omega
structure Ps where
 i:Nat
def Pt (d:Dcd):Fam:=⟨Ps,fun q1=>[(1,.v (vP 0)),(3,.v (vI ((List.length d.sJ:Nat):Int))),(4,.v (vI ((q1.i:Nat):Int)))],fun _=>[.cells (B9 d)],fun q1=>q1.i≤List.length d.sJ∧Z0 (List.length d.pJ.sQ:Int) (List.drop q1.i d.sJ)+q1.i=Z0 (List.length d.pJ.sQ:Int) d.sJ,fun q1=>List.length d.sJ-q1.i⟩
theorem Anx (d:Dcd) (hp1:List.length (d).sJ≤Bh) (hp2:List.length (d).pJ.sQ≤1000):Fun Tryz.prog 124 [.agg (B9 d)] [] (.v (vB (S3 d))) []:=by
 have hN:Bh=274877906944:=rfl
 refine Ar Tryz.func124 Q4 Q4 (w:=let z7:=((d.pJ.sQ.length:Nat):Int)-1;let z8:=((d.sJ.length:Nat):Int);let z9:S:= .v (vB (S3 d));let z10:=Ak z8 1 d.pJ.dJ;let z11:=Pt d;(.sZ [.at 0,.keep [1,3,4],.sel [0]] (.loop z11 fun q1=> .br (.intro (Sx (d.sJ[q1.i]?)) fun x1=>let z1:=Ak x1.mK 0 z7;.case (!z1) (.sZ [.ord (os 24 [12,21]) [],.el .lev x1,.as 24 (.v (vI z7)),.call [] (.v (vB z1)) [],.br true] (.lJ () [])) (.sZ [.ord (os 24 [12,21]) [],.el .lev x1,.as 24 (.v (vI z7)),.call [] (.v (vB z1)) [],.br false,.el .lev x1,.call [] (.v (vB (Ak x1.left 0 2000))) []] (.br (.lJ () []) (.sZ [.as 12 (.v (vI (((q1.i:Nat):Int)+1))),.at 0,.keep [1,3,4],.sel [0]] (.next))))) (.br (.lJ () []) (.br (.lJ () []) (.sZ [.call [] (.v (vB z10)) []] (.br (.sZ [.call [] (.v (vI (D2 d))) []] (.lJ () [])) (.lJ () [])))))),z11.Has [(1,.v (vP 0)),(3,.v (vI z8)),(4,.v (vI 0))] [.cells (B9 d)]∧∀q1,z11.inv q1→(let z6:=((q1.i:Nat):Int);let z5:=(0:Int)≤z6;Bc (decide (z6<z8)) (El (d.sJ[q1.i]?) fun x1=>(let z2:=Ak x1.mK 0 z7;let z3:=d.sJ[q1.i]? =some x1;let z4:List V:=[vI x1.mK,vI 0,vI z7];Bc (!z2) (z3∧z5∧z3∧z5∧(wI z7)∧(wI z7)∧(Fp 44 z4 [] (.v (vB z2)) [])∧((!z2)=true)∧Lf (.v (vB false)) z9 [] []) (z3∧z5∧z3∧z5∧(wI z7)∧(wI z7)∧(Fp 44 z4 [] (.v (vB z2)) [])∧((!z2)=false)∧z3∧z5∧z3∧z5∧(Fp 44 [vI x1.left,vI 0,vI 2000] [] (.v (vB (Ak x1.left 0 2000))) [])∧Bc (!(Ak x1.left 0 2000)) (Lf (.v (vB false)) z9 [] []) ((wI (z6+1))∧z11.Nxt q1 [(1,.v (vP 0)),(3,.v (vI z8)),(4,.v (vI (z6+1)))] [.cells (B9 d)])))) (Bc (decide (d.mJ=1)) (Lf (.v (vB (decide (z8=0)))) z9 [] []) (Bc (decide (d.mJ=9)) (Lf (.v (vB (decide (z8≤d.pJ.dJ)))) z9 [] []) ((Fp 44 [vI z8,vI 1,vI d.pJ.dJ] [] (.v (vB z10)) [])∧Bc z10 ((Fp 126 [.agg (B9 d)] [] (.v (vI (D2 d))) [])∧Lf (.v (vB (decide (1≤D2 d)))) z9 [] []) (Lf (.v (vB false)) z9 [] []))))))) Q4 ?_
 refine⟨Bp (j:=(⟨0⟩:Ps)) Q8 rfl (by dsimp only[Pt];exact⟨by omega,rfl⟩),fun (q1:Ps) hq_q1=>?_⟩
 have hi_q1:q1.i≤d.sJ.length∧Z0 (d.pJ.sQ.length:Int) (List.drop q1.i d.sJ)+q1.i=Z0 (d.pJ.sQ.length:Int) d.sJ:=hq_q1
 obtain ⟨v1,v2⟩:=hi_q1
 refine dsp (fun h1 p1=>?_) fun h1 p1=>?_
 refine⟨(Bo (l:=d.sJ) (i:=q1.i) Q2),fun x1 hx1=>?_⟩
 rw[C3 hx1,Uc] at v2
 refine⟨fun h2=>have q2:=Ao h2;have p2:=A0 q2;?_,fun h2=>have q2:=An h2;have p2:=Av q2;?_⟩
 exact⟨hx1,Q2,hx1,Q2,(Ad Q2 Q2),(Ad Q2 Q2),(Bb _ _ _),h2,(sB W26),rfl⟩
 refine⟨hx1,Q2,hx1,Q2,(Ad Q2 Q2),(Ad Q2 Q2),(Bb _ _ _),h2,hx1,Q2,hx1,Q2,(Bb _ _ _),fun h3=>have q3:=Ao h3;have p3:=A0 q3;?_,fun h3=>have q3:=An h3;have p3:=Av q3;?_⟩
 exact⟨(sB W26),rfl⟩
 exact⟨(Ad Q2 Q2),A6 (j:=(⟨q1.i+1⟩:Ps)) Q8 rfl (by dsimp only[Pt];exact⟨by omega,by simp_all[F9];omega⟩) (by dsimp only[Pt];omega)⟩
 have hal:List.all d.sJ (F9 (d.pJ.sQ.length:Int))=true:=by rw[Pm];rw[List.drop_eq_nil_of_le (by omega)] at v2;simp only[Z0] at v2;exact decide_eq_true (by omega)
 refine dsp (fun h2 p2=>?_) fun h2 p2=>?_
 exact⟨(sB W26),rfl⟩
 refine dsp (fun h3 p3=>?_) fun h3 p3=>?_
 exact⟨(sB W26),rfl⟩
 refine⟨(Bb _ _ _),fun h4=>have p4:=Av h4;?_,fun h4=>have p4:=A0 h4;?_⟩
 exact⟨(Qr d Q2),(sB W26),rfl⟩
 exact⟨(sB W26),rfl⟩
theorem Rs (d:Dcd) (hp1:List.length (d).sJ≤Bh):Fun Tryz.prog 130 [.agg (B9 d)] [] (.v (vB (Aes d))) []:=by
 have hN:Bh=274877906944:=rfl
 have hwd:=Kz d
 refine Ar Tryz.func130 Q4 Q4 (w:=let z3:S:= .v (vB (Aes d));let z4:S:= .v (vB (D4 d.sK));let z5:=8*d.sK.hJ;let z7:S:= .v (vB (decide (d.sK.bits=0)&&decide (d.sK.hJ=0)));let z8:=Lf (.v (vB false)) z3 [] [];let z10:=decide (d.mJ=8);let z11:=Bw d-1;let z2:=Ak d.sK.hJ 0 z11;let z12:S:= .v (vI (D2 d));let z13:=decide (Int.fdiv d.sK.bits (2 ^ min (Int.toNat z5) 64)=0);let z14:List V:=[vI d.sK.hJ,vI 0,vI z11];let z15:S:= .v (vB z2);let z16:S:= .v (.c (.int .u64 z5));let z17:=Bw d;let z6:=(.v (vI (IntKind.i64.wrap (z17-1))):S)= .v (vI z11);let z9:=z17-d.sK.hJ;let z1:=(wI z5)∧(wU z5)∧((0:Int)≤8*d.sK.hJ)∧Bc z13 ((wI z9)∧Lf (.v (vB (decide (z17-d.sK.hJ≤d.wK)))) z3 [] []) z8;(.sZ [.call [] (.v (vI z17)) []] (.br (.sZ [.br true] (.lJ () [])) (.br (.sZ [.br true] (.lJ () [])) (.br (.lJ () []) (.br (.sZ [.br true] (.br (.br (.sZ [.call [] z4 []] (.lJ () [])) (.sZ [.call [] z12 [],.br true,.as 41 (.v (vI z11)),.call [] z15 []] (.br (.sZ [.as 50 (.v (vI z5)),.as 51 z16] (.br (.sZ [.as 60 (.v (vI z9))] (.lJ () [])) (.lJ () []))) (.lJ () [])))) (.sZ [.call [] z12 [],.br false,.as 41 (.v (vI z11)),.call [] z15 []] (.br (.sZ [.as 50 (.v (vI z5)),.as 51 z16] (.br (.sZ [.as 60 (.v (vI z9))] (.lJ () [])) (.lJ () []))) (.lJ () []))))) (.br (.sZ [.br true] (.br (.sZ [.call [] z4 []] (.lJ () [])) (.sZ [.call [] z12 [],.br true,.as 41 (.v (vI z11)),.call [] z15 []] (.br (.sZ [.as 50 (.v (vI z5)),.as 51 z16] (.br (.sZ [.as 60 (.v (vI z9))] (.lJ () [])) (.lJ () []))) (.lJ () []))))) (.sZ [.call [] z4 []] (.lJ () []))))))),(Fp 61 [.agg (B9 d)] [] (.v (vI z17)) [])∧Bc (decide (d.mJ=6)) (((decide (d.mJ=6))=true)∧Lf z7 z3 [] []) (Bc (decide (d.mJ=7)) (((decide (d.mJ=7))=true)∧Lf z7 z3 [] []) (Bc (decide (d.mJ=9)) (Lf z7 z3 [] []) (Bc (decide (d.mJ=5)) (((decide (d.mJ=5))=true)∧Bc z10 (Bc (decide (Bw d=0)) ((Fp 189 [.agg (Qx d.sK)] [] z4 [])∧Lf z4 z3 [] []) ((Fp 126 [.agg (B9 d)] [] z12 [])∧(z10=true)∧z6∧(Fp 44 z14 [] z15 [])∧Bc z2 z1 z8)) ((Fp 126 [.agg (B9 d)] [] z12 [])∧(z10=false)∧z6∧(Fp 44 z14 [] z15 [])∧Bc z2 ((wI z5)∧(wU z5)∧((0:Int)≤8*d.sK.hJ)∧Bc z13 ((wI z9)∧Lf (.v (vB (decide (z17-d.sK.hJ≤D2 d)))) z3 [] []) z8) z8)) (Bc z10 ((z10=true)∧Bc (decide (Bw d=0)) ((Fp 189 [.agg (Qx d.sK)] [] z4 [])∧Lf z4 z3 [] []) ((Fp 126 [.agg (B9 d)] [] z12 [])∧(z10=true)∧z6∧(Fp 44 z14 [] z15 [])∧Bc z2 z1 z8)) ((Fp 189 [.agg (Qx d.sK)] [] z4 [])∧Lf z4 z3 [] []))))))) Q4 ?_
 refine⟨(Ky d),dsp (fun h1 p1=>?_) fun h1 p1=>?_⟩
 exact⟨h1,(sB W27),rfl⟩
 refine dsp (fun h2 p2=>?_) fun h2 p2=>?_
 exact⟨h2,(sB W27),rfl⟩
 refine dsp (fun h3 p3=>?_) fun h3 p3=>?_
 exact⟨(sB W27),rfl⟩
 refine dsp (fun h4 p4=>?_) fun h4 p4=>?_
 refine⟨h4,dsp (fun h5 p5=>?_) fun h5 p5=>?_⟩
 refine dsp (fun h6 p6=>?_) fun h6 p6=>?_
 exact⟨(Xi d.sK),(sB W27),rfl⟩
 refine⟨(Qr d Q2),h5,(Ad Q2 Q2),(Bb _ _ _),fun h7=>have p7:=Av h7;?_,fun h7=>have p7:=A0 h7;?_⟩
 refine⟨(Ad Q2 Q2),(Bu Q2 Q2),Q2,dsp (fun h8 p8=>?_) fun h8 p8=>?_⟩
 exact⟨(Ad Q2 Q2),(sB W27),rfl⟩
 exact⟨(sB W27),rfl⟩
 exact⟨(sB W27),rfl⟩
 refine⟨(Qr d Q2),h5,(Ad Q2 Q2),(Bb _ _ _),fun h6=>have p6:=Av h6;?_,fun h6=>have p6:=A0 h6;?_⟩
 refine⟨(Ad Q2 Q2),(Bu Q2 Q2),Q2,dsp (fun h7 p7=>?_) fun h7 p7=>?_⟩
 exact⟨(Ad Q2 Q2),(sB W27),rfl⟩
 exact⟨(sB W27),rfl⟩
 exact⟨(sB W27),rfl⟩
 refine dsp (fun h5 p5=>?_) fun h5 p5=>?_
 refine⟨h5,dsp (fun h6 p6=>?_) fun h6 p6=>?_⟩
 exact⟨(Xi d.sK),(sB W27),rfl⟩
 refine⟨(Qr d Q2),h5,(Ad Q2 Q2),(Bb _ _ _),fun h7=>have p7:=Av h7;?_,fun h7=>have p7:=A0 h7;?_⟩
 refine⟨(Ad Q2 Q2),(Bu Q2 Q2),Q2,dsp (fun h8 p8=>?_) fun h8 p8=>?_⟩
 exact⟨(Ad Q2 Q2),(sB W27),rfl⟩
 exact⟨(sB W27),rfl⟩
 exact⟨(sB W27),rfl⟩
 exact⟨(Xi d.sK),(sB W27),rfl⟩
theorem C6 (d:Dcd) (hp1:List.length (d).sJ≤Bh):Fun Tryz.prog 110 [.agg (B9 d)] [] (.v (vB (Ku d))) []:=by
 have hN:Bh=274877906944:=rfl
 have hwd:=Kz d
 refine Ar Tryz.func110 Q4 Q4 (w:=let z3:=8*d.sK.hJ;let z7:S:= .v (vB (Ku d));let z1:=Lf (.v (vB (decide (d.sK.bits=0)&&decide (d.sK.hJ=0)))) z7 [] [];let z4:=Lf (.v (vB false)) z7 [] [];let z8:=decide (Int.fdiv d.sK.bits (2 ^ min (Int.toNat z3) 64)=0);let z9:=Bw d-1;let z2:=Ak d.sK.hJ 0 z9;let z10:S:= .v (vB (D4 d.sK));let z11:=Bw d;let z5:=(.v (vI (IntKind.i64.wrap (z11-1))):S)= .v (vI z9);let z6:=z11-d.sK.hJ;(.sZ [.call [] (.v (vI z11)) []] (.br (.sZ [.call [] (.v (vI (D2 d))) []] (.br (.sZ [.as 21 (.v (vI z9)),.call [] (.v (vB z2)) []] (.br (.sZ [.as 30 (.v (vI z3)),.as 31 (.v (.c (.int .u64 z3)))] (.br (.sZ [.as 40 (.v (vI z6))] (.lJ () [])) (.lJ () []))) (.lJ () []))) (.sZ [.as 21 (.v (vI z9)),.call [] (.v (vB z2)) []] (.br (.sZ [.as 30 (.v (vI z3)),.as 31 (.v (.c (.int .u64 z3)))] (.br (.sZ [.as 40 (.v (vI z6))] (.lJ () [])) (.lJ () []))) (.lJ () []))))) (.br (.lJ () []) (.br (.lJ () []) (.br (.lJ () []) (.sZ [.call [] z10 []] (.lJ () [])))))),(Fp 118 [.agg (B9 d)] [] (.v (vI z11)) [])∧Bc (decide (0<Bw d)) ((Fp 108 [.agg (B9 d)] [] (.v (vI (D2 d))) [])∧Bc (decide (d.mJ=8)) (z5∧(Fp 97 [vI d.sK.hJ,vI 0,vI z9] [] (.v (vB z2)) [])∧Bc z2 ((wI z3)∧(wU z3)∧((0:Int)≤8*d.sK.hJ)∧Bc z8 ((wI z6)∧Lf (.v (vB (decide (z11-d.sK.hJ≤d.wK)))) z7 [] []) z4) z4) (z5∧(Fp 97 [vI d.sK.hJ,vI 0,vI z9] [] (.v (vB z2)) [])∧Bc z2 ((wI z3)∧(wU z3)∧((0:Int)≤8*d.sK.hJ)∧Bc z8 ((wI z6)∧Lf (.v (vB (decide (z11-d.sK.hJ≤D2 d)))) z7 [] []) z4) z4)) (Bc (decide (d.mJ=6)) z1 (Bc (decide (d.mJ=7)) z1 (Bc (decide (d.mJ=9)) z1 ((Fp 172 [.agg (Qx d.sK)] [] z10 [])∧Lf z10 z7 [] [])))))) Q4 ?_
 refine⟨(Sf d),dsp (fun h1 p1=>?_) fun h1 p1=>?_⟩
 refine⟨(Ep d Q2),dsp (fun h2 p2=>?_) fun h2 p2=>?_⟩
 refine⟨(Ad Q2 Q2),(Cr _ _ _),fun h3=>have p3:=Av h3;?_,fun h3=>have p3:=A0 h3;?_⟩
 refine⟨(Ad Q2 Q2),(Bu Q2 Q2),Q2,dsp (fun h4 p4=>?_) fun h4 p4=>?_⟩
 exact⟨(Ad Q2 Q2),(sB W28),rfl⟩
 exact⟨(sB W28),rfl⟩
 exact⟨(sB W28),rfl⟩
 refine⟨(Ad Q2 Q2),(Cr _ _ _),fun h3=>have p3:=Av h3;?_,fun h3=>have p3:=A0 h3;?_⟩
 refine⟨(Ad Q2 Q2),(Bu Q2 Q2),Q2,dsp (fun h4 p4=>?_) fun h4 p4=>?_⟩
 exact⟨(Ad Q2 Q2),(sB W28),rfl⟩
 exact⟨(sB W28),rfl⟩
 exact⟨(sB W28),rfl⟩
 refine dsp (fun h2 p2=>?_) fun h2 p2=>?_
 exact⟨(sB W28),rfl⟩
 refine dsp (fun h3 p3=>?_) fun h3 p3=>?_
 exact⟨(sB W28),rfl⟩
 refine dsp (fun h4 p4=>?_) fun h4 p4=>?_
 exact⟨(sB W28),rfl⟩
 exact⟨(Af9 d.sK),(sB W28),rfl⟩
theorem C7 (d:Dcd) (hp1:List.length (d).sJ≤Bh):Fun Tryz.prog 109 [.agg (B9 d)] [] (.v (vB (J8 d&&J9 d))) []:=by
 have hN:Bh=274877906944:=rfl
 have hww:Aq d.wJ=0∨0≤d.wJ:=by unfold Aq;split<;>(try split)<;>omega
 refine Ar Tryz.func109 Q4 Q4 (w:=let z1:= !(!(decide (d.field.nJ=0)&&(decide (d.field.kind=0)&&(decide (d.field.rep=false)&&(decide (d.field.packed=false)&&decide (d.field.mK=0))))));let z2:S:= .v (vB (J8 d&&J9 d));let z3:S:= .v (vB (Dk d.field d.wJ));let z4:=Lf (.v (vB false)) z2 [] [];let z5:=Lf (.v (vB true)) z2 [] [];let z6:=Ak d.wK 1 (D2 d);let z7:S:= .v (vB (U3 d.field));let z8:=decide (d.mJ=6);let z9:=Fg d.field;let z10:S:= .v (vI (D2 d));let z11:S:= .v (vI (Aq d.wJ));let z12:=decide (d.mJ=8);let z13:List V:=[vI d.wK,vI 1,vI (D2 d)];let z14:S:= .v (vB z6);(.br (.sZ [.br true,.ord (os 6 [3,4]) [],.call [] z10 [],.call [] z14 []] (.br (.lJ () []) (.sZ [.br true] (.br (.lJ () []) (.lJ () []))))) (.br (.sZ [.br true,.ord (os 6 [3,4]) [],.call [] z10 [],.call [] z14 []] (.br (.lJ () []) (.sZ [.br false] (.br (.sZ [.call [] z7 []] (.lJ () [])) (.br (.br (.br (.lJ () []) (.sZ [.call [] z3 []] (.lJ () []))) (.lJ () [])) (.br (.br (.br (.lJ () []) (.sZ [.call [] z3 []] (.lJ () []))) (.lJ () [])) (.br (.sZ [.call [] z11 []] (.br (.br (.lJ () []) (.sZ [.call [] z3 []] (.lJ () []))) (.lJ () []))) (.lJ () [])))))))) (.br (.sZ [.ord (os 6 [3,4]) [],.call [] z10 [],.call [] z14 []] (.br (.lJ () []) (.sZ [.br false,.br true,.call [] z7 []] (.lJ () [])))) (.br (.lJ () []) (.sZ [.br false,.br false] (.br (.br (.br (.lJ () []) (.sZ [.call [] z3 []] (.lJ () []))) (.lJ () [])) (.br (.br (.br (.lJ () []) (.sZ [.call [] z3 []] (.lJ () []))) (.lJ () [])) (.br (.sZ [.call [] z11 []] (.br (.br (.lJ () []) (.sZ [.call [] z3 []] (.lJ () []))) (.lJ () []))) (.lJ () [])))))))),Bc z8 ((z8=true)∧(Fp 108 [.agg (B9 d)] [] z10 [])∧(Fp 97 z13 [] z14 [])∧Bc (!z6) z4 ((z8=true)∧Bc (decide (d.field.kind=6)) z5 (Lf (.v (vB (decide (d.field.kind=7)))) z2 [] []))) (Bc (decide (d.mJ=7)) (((decide (d.mJ=7))=true)∧(Fp 108 [.agg (B9 d)] [] z10 [])∧(Fp 97 z13 [] z14 [])∧Bc (!z6) z4 ((z8=false)∧Bc z12 ((Fp 169 [.agg z9] [] z7 [])∧Lf z7 z2 [] []) (Bc (decide (d.mJ=3)) (Bc (decide (d.wJ=0)) (Bc z1 z5 ((Fp 170 [.agg z9,vI d.wJ] [] z3 [])∧Lf z3 z2 [] [])) z4) (Bc (decide (d.mJ=4)) (Bc (decide (d.wJ=2)) (Bc z1 z5 ((Fp 170 [.agg z9,vI d.wJ] [] z3 [])∧Lf z3 z2 [] [])) z4) (Bc (decide (d.mJ=5)) ((Fp 171 [vI d.wJ] [] z11 [])∧Bc (decide (0<Aq d.wJ)) (Bc z1 z5 ((Fp 170 [.agg z9,vI d.wJ] [] z3 [])∧Lf z3 z2 [] [])) z4) z5))))) (Bc z12 ((Fp 108 [.agg (B9 d)] [] z10 [])∧(Fp 97 z13 [] z14 [])∧Bc (!z6) z4 ((z8=false)∧(z12=true)∧(Fp 169 [.agg z9] [] z7 [])∧Lf z7 z2 [] [])) (Bc (!decide (d.wK=0)) z4 ((z8=false)∧(z12=false)∧Bc (decide (d.mJ=3)) (Bc (decide (d.wJ=0)) (Bc z1 z5 ((Fp 170 [.agg z9,vI d.wJ] [] z3 [])∧Lf z3 z2 [] [])) z4) (Bc (decide (d.mJ=4)) (Bc (decide (d.wJ=2)) (Bc z1 z5 ((Fp 170 [.agg z9,vI d.wJ] [] z3 [])∧Lf z3 z2 [] [])) z4) (Bc (decide (d.mJ=5)) ((Fp 171 [vI d.wJ] [] z11 [])∧Bc (decide (0<Aq d.wJ)) (Bc z1 z5 ((Fp 170 [.agg z9,vI d.wJ] [] z3 [])∧Lf z3 z2 [] [])) z4) z5)))))))) Q4 ?_
 refine dsp (fun h1 p1=>?_) fun h1 p1=>?_
 refine⟨h1,(Ep d Q2),(Cr _ _ _),fun h2=>have q2:=Ao h2;have p2:=A0 q2;?_,fun h2=>have q2:=An h2;have p2:=Av q2;?_⟩
 exact⟨(sB W29),rfl⟩
 refine⟨h1,dsp (fun h3 p3=>?_) fun h3 p3=>?_⟩
 exact⟨(sB W29),rfl⟩
 exact⟨(sB W29),rfl⟩
 refine dsp (fun h2 p2=>?_) fun h2 p2=>?_
 refine⟨h2,(Ep d Q2),(Cr _ _ _),fun h3=>have q3:=Ao h3;have p3:=A0 q3;?_,fun h3=>have q3:=An h3;have p3:=Av q3;?_⟩
 exact⟨(sB W29),rfl⟩
 refine⟨h1,dsp (fun h4 p4=>?_) fun h4 p4=>?_⟩
 exact⟨(Aj0 d.field),(sB W29),rfl⟩
 refine dsp (fun h5 p5=>?_) fun h5 p5=>?_
 refine dsp (fun h6 p6=>?_) fun h6 p6=>?_
 refine⟨fun h7=>have q7:=Ao h7;have q7':=An q7;have p7:=(C9 dT (C9 dT (C9 dT (C9 dT dT)))).1 q7';?_,fun h7=>have q7:=An h7;have q7':=Ao q7;have p7:=(Da dT (Da dT (Da dT (Da dT dF)))).1 q7';?_⟩
 exact⟨(sB W29),rfl⟩
 exact⟨(Lq d.field _ Q2),(sB W29),rfl⟩
 exact⟨(sB W29),rfl⟩
 refine dsp (fun h6 p6=>?_) fun h6 p6=>?_
 refine dsp (fun h7 p7=>?_) fun h7 p7=>?_
 refine⟨fun h8=>have q8:=Ao h8;have q8':=An q8;have p8:=(C9 dT (C9 dT (C9 dT (C9 dT dT)))).1 q8';?_,fun h8=>have q8:=An h8;have q8':=Ao q8;have p8:=(Da dT (Da dT (Da dT (Da dT dF)))).1 q8';?_⟩
 exact⟨(sB W29),rfl⟩
 exact⟨(Lq d.field _ Q2),(sB W29),rfl⟩
 exact⟨(sB W29),rfl⟩
 refine dsp (fun h7 p7=>?_) fun h7 p7=>?_
 refine⟨(Gd _),dsp (fun h8 p8=>?_) fun h8 p8=>?_⟩
 refine⟨fun h9=>have q9:=Ao h9;have q9':=An q9;have p9:=(C9 dT (C9 dT (C9 dT (C9 dT dT)))).1 q9';?_,fun h9=>have q9:=An h9;have q9':=Ao q9;have p9:=(Da dT (Da dT (Da dT (Da dT dF)))).1 q9';?_⟩
 exact⟨(sB W29),rfl⟩
 exact⟨(Lq d.field _ Q2),(sB W29),rfl⟩
 exact⟨(sB W29),rfl⟩
 exact⟨(sB W29),rfl⟩
 refine dsp (fun h3 p3=>?_) fun h3 p3=>?_
 refine⟨(Ep d Q2),(Cr _ _ _),fun h4=>have q4:=Ao h4;have p4:=A0 q4;?_,fun h4=>have q4:=An h4;have p4:=Av q4;?_⟩
 exact⟨(sB W29),rfl⟩
 exact⟨h1,h3,(Aj0 d.field),(sB W29),rfl⟩
 refine⟨fun h4=>have q4:=Ao h4;have p4:=of_decide_eq_false q4;?_,fun h4=>have q4:=An h4;have p4:=of_decide_eq_true q4;?_⟩
 exact⟨(sB W29),rfl⟩
 refine⟨h1,h3,dsp (fun h5 p5=>?_) fun h5 p5=>?_⟩
 refine dsp (fun h6 p6=>?_) fun h6 p6=>?_
 refine⟨fun h7=>have q7:=Ao h7;have q7':=An q7;have p7:=(C9 dT (C9 dT (C9 dT (C9 dT dT)))).1 q7';?_,fun h7=>have q7:=An h7;have q7':=Ao q7;have p7:=(Da dT (Da dT (Da dT (Da dT dF)))).1 q7';?_⟩
 exact⟨(sB W29),rfl⟩
 exact⟨(Lq d.field _ Q2),(sB W29),rfl⟩
 exact⟨(sB W29),rfl⟩
 refine dsp (fun h6 p6=>?_) fun h6 p6=>?_
 refine dsp (fun h7 p7=>?_) fun h7 p7=>?_
 refine⟨fun h8=>have q8:=Ao h8;have q8':=An q8;have p8:=(C9 dT (C9 dT (C9 dT (C9 dT dT)))).1 q8';?_,fun h8=>have q8:=An h8;have q8':=Ao q8;have p8:=(Da dT (Da dT (Da dT (Da dT dF)))).1 q8';?_⟩
 exact⟨(sB W29),rfl⟩
 exact⟨(Lq d.field _ Q2),(sB W29),rfl⟩
 exact⟨(sB W29),rfl⟩
 refine dsp (fun h7 p7=>?_) fun h7 p7=>?_
 refine⟨(Gd _),dsp (fun h8 p8=>?_) fun h8 p8=>?_⟩
 refine⟨fun h9=>have q9:=Ao h9;have q9':=An q9;have p9:=(C9 dT (C9 dT (C9 dT (C9 dT dT)))).1 q9';?_,fun h9=>have q9:=An h9;have q9':=Ao q9;have p9:=(Da dT (Da dT (Da dT (Da dT dF)))).1 q9';?_⟩
 exact⟨(sB W29),rfl⟩
 exact⟨(Lq d.field _ Q2),(sB W29),rfl⟩
 exact⟨(sB W29),rfl⟩
 exact⟨(sB W29),rfl⟩
theorem Aga {w:Int} (h:C4 w=true):0≤w∧w≤5:=by simp[C4] at h;omega
theorem Ahj {d:Dcd} (h:Bn d=true):B2 d.pJ=true:=by simp only[Bn,Bool.and_eq_true] at h;exact h.1.1
theorem Aeu (d:Dcd) (hp1:List.length (d).sJ≤Bh) (hp2:List.length (d).pJ.sQ≤Bh):Fun Tryz.prog 51 [.agg (B9 d)] [] (.v (vB (Ce d))) []:=by
 have hN:Bh=274877906944:=rfl
 refine Ar Tryz.func51 Q4 Q4 (w:=let z3:S:= .v (vB (Ku d));let z4:= !(decide (d.eJ.kind=0)&&(decide (d.eJ.field=0)&&(decide (d.eJ.bits=0)&&(decide (d.eJ.len=0)&&(decide (d.eJ.text=[])&&(decide (d.eJ.code=0)&&decide (d.eJ.aJ=0)))))));let z5:=J8 d&&J9 d;let z2:S:= .v (vB z5);let z6:S:= .v (vB (Ce d));let z1:=Lf (.v (vB false)) z6 [] [];let z7:= !decide (d.mJ=9);let z8:=decide (0<((d.sJ.length:Nat):Int));let z9:= !decide (d.mJ=1);let z10:S:= .v (vI (D2 d));let z11:=decide (d.mJ=1);let z12:=decide (D2 d<1);let z13:S:= .v (vB (Fd d.eJ));let z14:S:= .v (vB (H5 d.eJ));let z15:=z7=false;let z16:=known (d.pJ).sQ d.field;let z17:=z7=true;let z18:=Ak d.aJ 0 1000000000;let z19:=Ak d.sX 0 d.aJ;let z20:=Ak d.mJ 1 9;(.sZ [.call [] (.v (vB (Bn d))) []] (.br (.lJ () []) (.sZ [.call [] (.v (vB z20)) []] (.br (.lJ () []) (.sZ [.call [] (.v (vB z18)) []] (.br (.lJ () []) (.sZ [.call [] (.v (vB z19)) []] (.br (.lJ () []) (.sZ [.call [] (.v (vB (Fe d.uJ))) []] (.br (.lJ () []) (.sZ [.call [] (.v (vB (C4 d.wJ))) []] (.br (.lJ () []) (.br (.sZ [.call [] (.v (vB z16)) []] (.br (.lJ () []) (.br (.sZ [.call [] z14 []] (.br (.lJ () []) (.sZ [.call [] z13 []] (.br (.lJ () []) (.br (.br (.lJ () []) (.br (.br (.lJ () []) (.br (.sZ [.br true,.call [] z10 []] (.br (.lJ () []) (.sZ [.call [] z2 []] (.br (.sZ [.call [] z3 []] (.lJ () [])) (.lJ () []))))) (.sZ [.call [] z2 []] (.br (.sZ [.call [] z3 []] (.lJ () [])) (.lJ () []))))) (.br (.sZ [.br true,.call [] z10 []] (.br (.lJ () []) (.sZ [.call [] z2 []] (.br (.sZ [.call [] z3 []] (.lJ () [])) (.lJ () []))))) (.sZ [.call [] z2 []] (.br (.sZ [.call [] z3 []] (.lJ () [])) (.lJ () [])))))) (.br (.br (.lJ () []) (.br (.sZ [.br false,.call [] z2 []] (.br (.sZ [.call [] z3 []] (.lJ () [])) (.lJ () []))) (.sZ [.call [] z2 []] (.br (.sZ [.call [] z3 []] (.lJ () [])) (.lJ () []))))) (.br (.sZ [.br false,.call [] z2 []] (.br (.sZ [.call [] z3 []] (.lJ () [])) (.lJ () []))) (.sZ [.call [] z2 []] (.br (.sZ [.call [] z3 []] (.lJ () [])) (.lJ () [])))))))))) (.br (.br (.lJ () []) (.br (.br (.lJ () []) (.br (.sZ [.br true,.call [] z10 []] (.br (.lJ () []) (.sZ [.call [] z2 []] (.br (.sZ [.call [] z3 []] (.lJ () [])) (.lJ () []))))) (.sZ [.call [] z2 []] (.br (.sZ [.call [] z3 []] (.lJ () [])) (.lJ () []))))) (.br (.sZ [.br true,.call [] z10 []] (.br (.lJ () []) (.sZ [.call [] z2 []] (.br (.sZ [.call [] z3 []] (.lJ () [])) (.lJ () []))))) (.sZ [.call [] z2 []] (.br (.sZ [.call [] z3 []] (.lJ () [])) (.lJ () [])))))) (.br (.br (.lJ () []) (.br (.sZ [.br false,.call [] z2 []] (.br (.sZ [.call [] z3 []] (.lJ () [])) (.lJ () []))) (.sZ [.call [] z2 []] (.br (.sZ [.call [] z3 []] (.lJ () [])) (.lJ () []))))) (.br (.sZ [.br false,.call [] z2 []] (.br (.sZ [.call [] z3 []] (.lJ () [])) (.lJ () []))) (.sZ [.call [] z2 []] (.br (.sZ [.call [] z3 []] (.lJ () [])) (.lJ () []))))))))) (.br (.sZ [.call [] z14 []] (.br (.lJ () []) (.sZ [.call [] z13 []] (.br (.lJ () []) (.br (.br (.lJ () []) (.br (.br (.lJ () []) (.br (.sZ [.br true,.call [] z10 []] (.br (.lJ () []) (.sZ [.call [] z2 []] (.br (.sZ [.call [] z3 []] (.lJ () [])) (.lJ () []))))) (.sZ [.call [] z2 []] (.br (.sZ [.call [] z3 []] (.lJ () [])) (.lJ () []))))) (.br (.sZ [.br true,.call [] z10 []] (.br (.lJ () []) (.sZ [.call [] z2 []] (.br (.sZ [.call [] z3 []] (.lJ () [])) (.lJ () []))))) (.sZ [.call [] z2 []] (.br (.sZ [.call [] z3 []] (.lJ () [])) (.lJ () [])))))) (.br (.br (.lJ () []) (.br (.sZ [.br false,.call [] z2 []] (.br (.sZ [.call [] z3 []] (.lJ () [])) (.lJ () []))) (.sZ [.call [] z2 []] (.br (.sZ [.call [] z3 []] (.lJ () [])) (.lJ () []))))) (.br (.sZ [.br false,.call [] z2 []] (.br (.sZ [.call [] z3 []] (.lJ () [])) (.lJ () []))) (.sZ [.call [] z2 []] (.br (.sZ [.call [] z3 []] (.lJ () [])) (.lJ () [])))))))))) (.br (.br (.lJ () []) (.br (.br (.lJ () []) (.br (.sZ [.br true,.call [] z10 []] (.br (.lJ () []) (.sZ [.call [] z2 []] (.br (.sZ [.call [] z3 []] (.lJ () [])) (.lJ () []))))) (.sZ [.call [] z2 []] (.br (.sZ [.call [] z3 []] (.lJ () [])) (.lJ () []))))) (.br (.sZ [.br true,.call [] z10 []] (.br (.lJ () []) (.sZ [.call [] z2 []] (.br (.sZ [.call [] z3 []] (.lJ () [])) (.lJ () []))))) (.sZ [.call [] z2 []] (.br (.sZ [.call [] z3 []] (.lJ () [])) (.lJ () [])))))) (.br (.br (.lJ () []) (.br (.sZ [.br false,.call [] z2 []] (.br (.sZ [.call [] z3 []] (.lJ () [])) (.lJ () []))) (.sZ [.call [] z2 []] (.br (.sZ [.call [] z3 []] (.lJ () [])) (.lJ () []))))) (.br (.sZ [.br false,.call [] z2 []] (.br (.sZ [.call [] z3 []] (.lJ () [])) (.lJ () []))) (.sZ [.call [] z2 []] (.br (.sZ [.call [] z3 []] (.lJ () [])) (.lJ () []))))))))))))))))))),(Fp 102 [.agg (B9 d)] [] (.v (vB (Bn d))) [])∧Bc (!(Bn d)) z1 ((Fp 97 [vI d.mJ,vI 1,vI 9] [] (.v (vB z20)) [])∧Bc (!z20) z1 ((Fp 97 [vI d.aJ,vI 0,vI 1000000000] [] (.v (vB z18)) [])∧Bc (!z18) z1 ((Fp 97 [vI d.sX,vI 0,vI d.aJ] [] (.v (vB z19)) [])∧Bc (!z19) z1 ((Fp 103 [.agg (Pk d.uJ)] [] (.v (vB (Fe d.uJ))) [])∧Bc (!(Fe d.uJ)) z1 ((Fp 104 [vI d.wJ] [] (.v (vB (C4 d.wJ))) [])∧Bc (!(C4 d.wJ)) z1 (Bc (!(decide (d.field.nJ=0)&&(decide (d.field.kind=0)&&(decide (d.field.rep=false)&&(decide (d.field.packed=false)&&decide (d.field.mK=0)))))) ((Fp 105 [.agg (G0 d.pJ),.agg (Fg d.field)] [] (.v (vB z16)) [])∧Bc (!z16) z1 (Bc (decide (d.mJ=9)) ((Fp 106 [.agg (cEv d.eJ)] [] z14 [])∧Bc (!(H5 d.eJ)) z1 ((Fp 107 [.agg (cEv d.eJ)] [] z13 [])∧Bc (!(Fd d.eJ)) z1 (Bc z7 (Bc z4 z1 (Bc z11 (Bc z8 z1 (Bc z9 (z17∧(Fp 108 [.agg (B9 d)] [] z10 [])∧Bc z12 z1 ((Fp 109 [.agg (B9 d)] [] z2 [])∧Bc z5 ((Fp 110 [.agg (B9 d)] [] z3 [])∧Lf z3 z6 [] []) z1)) ((Fp 109 [.agg (B9 d)] [] z2 [])∧Bc z5 ((Fp 110 [.agg (B9 d)] [] z3 [])∧Lf z3 z6 [] []) z1))) (Bc z9 (z17∧(Fp 108 [.agg (B9 d)] [] z10 [])∧Bc z12 z1 ((Fp 109 [.agg (B9 d)] [] z2 [])∧Bc z5 ((Fp 110 [.agg (B9 d)] [] z3 [])∧Lf z3 z6 [] []) z1)) ((Fp 109 [.agg (B9 d)] [] z2 [])∧Bc z5 ((Fp 110 [.agg (B9 d)] [] z3 [])∧Lf z3 z6 [] []) z1)))) (Bc z11 (Bc z8 z1 (Bc z9 (z15∧(Fp 109 [.agg (B9 d)] [] z2 [])∧Bc z5 ((Fp 110 [.agg (B9 d)] [] z3 [])∧Lf z3 z6 [] []) z1) ((Fp 109 [.agg (B9 d)] [] z2 [])∧Bc z5 ((Fp 110 [.agg (B9 d)] [] z3 [])∧Lf z3 z6 [] []) z1))) (Bc z9 (z15∧(Fp 109 [.agg (B9 d)] [] z2 [])∧Bc z5 ((Fp 110 [.agg (B9 d)] [] z3 [])∧Lf z3 z6 [] []) z1) ((Fp 109 [.agg (B9 d)] [] z2 [])∧Bc z5 ((Fp 110 [.agg (B9 d)] [] z3 [])∧Lf z3 z6 [] []) z1)))))) (Bc z7 (Bc z4 z1 (Bc z11 (Bc z8 z1 (Bc z9 (z17∧(Fp 108 [.agg (B9 d)] [] z10 [])∧Bc z12 z1 ((Fp 109 [.agg (B9 d)] [] z2 [])∧Bc z5 ((Fp 110 [.agg (B9 d)] [] z3 [])∧Lf z3 z6 [] []) z1)) ((Fp 109 [.agg (B9 d)] [] z2 [])∧Bc z5 ((Fp 110 [.agg (B9 d)] [] z3 [])∧Lf z3 z6 [] []) z1))) (Bc z9 (z17∧(Fp 108 [.agg (B9 d)] [] z10 [])∧Bc z12 z1 ((Fp 109 [.agg (B9 d)] [] z2 [])∧Bc z5 ((Fp 110 [.agg (B9 d)] [] z3 [])∧Lf z3 z6 [] []) z1)) ((Fp 109 [.agg (B9 d)] [] z2 [])∧Bc z5 ((Fp 110 [.agg (B9 d)] [] z3 [])∧Lf z3 z6 [] []) z1)))) (Bc z11 (Bc z8 z1 (Bc z9 (z15∧(Fp 109 [.agg (B9 d)] [] z2 [])∧Bc z5 ((Fp 110 [.agg (B9 d)] [] z3 [])∧Lf z3 z6 [] []) z1) ((Fp 109 [.agg (B9 d)] [] z2 [])∧Bc z5 ((Fp 110 [.agg (B9 d)] [] z3 [])∧Lf z3 z6 [] []) z1))) (Bc z9 (z15∧(Fp 109 [.agg (B9 d)] [] z2 [])∧Bc z5 ((Fp 110 [.agg (B9 d)] [] z3 [])∧Lf z3 z6 [] []) z1) ((Fp 109 [.agg (B9 d)] [] z2 [])∧Bc z5 ((Fp 110 [.agg (B9 d)] [] z3 [])∧Lf z3 z6 [] []) z1)))))) (Bc (decide (d.mJ=9)) ((Fp 106 [.agg (cEv d.eJ)] [] z14 [])∧Bc (!(H5 d.eJ)) z1 ((Fp 107 [.agg (cEv d.eJ)] [] z13 [])∧Bc (!(Fd d.eJ)) z1 (Bc z7 (Bc z4 z1 (Bc z11 (Bc z8 z1 (Bc z9 (z17∧(Fp 108 [.agg (B9 d)] [] z10 [])∧Bc z12 z1 ((Fp 109 [.agg (B9 d)] [] z2 [])∧Bc z5 ((Fp 110 [.agg (B9 d)] [] z3 [])∧Lf z3 z6 [] []) z1)) ((Fp 109 [.agg (B9 d)] [] z2 [])∧Bc z5 ((Fp 110 [.agg (B9 d)] [] z3 [])∧Lf z3 z6 [] []) z1))) (Bc z9 (z17∧(Fp 108 [.agg (B9 d)] [] z10 [])∧Bc z12 z1 ((Fp 109 [.agg (B9 d)] [] z2 [])∧Bc z5 ((Fp 110 [.agg (B9 d)] [] z3 [])∧Lf z3 z6 [] []) z1)) ((Fp 109 [.agg (B9 d)] [] z2 [])∧Bc z5 ((Fp 110 [.agg (B9 d)] [] z3 [])∧Lf z3 z6 [] []) z1)))) (Bc z11 (Bc z8 z1 (Bc z9 (z15∧(Fp 109 [.agg (B9 d)] [] z2 [])∧Bc z5 ((Fp 110 [.agg (B9 d)] [] z3 [])∧Lf z3 z6 [] []) z1) ((Fp 109 [.agg (B9 d)] [] z2 [])∧Bc z5 ((Fp 110 [.agg (B9 d)] [] z3 [])∧Lf z3 z6 [] []) z1))) (Bc z9 (z15∧(Fp 109 [.agg (B9 d)] [] z2 [])∧Bc z5 ((Fp 110 [.agg (B9 d)] [] z3 [])∧Lf z3 z6 [] []) z1) ((Fp 109 [.agg (B9 d)] [] z2 [])∧Bc z5 ((Fp 110 [.agg (B9 d)] [] z3 [])∧Lf z3 z6 [] []) z1)))))) (Bc z7 (Bc z4 z1 (Bc z11 (Bc z8 z1 (Bc z9 (z17∧(Fp 108 [.agg (B9 d)] [] z10 [])∧Bc z12 z1 ((Fp 109 [.agg (B9 d)] [] z2 [])∧Bc z5 ((Fp 110 [.agg (B9 d)] [] z3 [])∧Lf z3 z6 [] []) z1)) ((Fp 109 [.agg (B9 d)] [] z2 [])∧Bc z5 ((Fp 110 [.agg (B9 d)] [] z3 [])∧Lf z3 z6 [] []) z1))) (Bc z9 (z17∧(Fp 108 [.agg (B9 d)] [] z10 [])∧Bc z12 z1 ((Fp 109 [.agg (B9 d)] [] z2 [])∧Bc z5 ((Fp 110 [.agg (B9 d)] [] z3 [])∧Lf z3 z6 [] []) z1)) ((Fp 109 [.agg (B9 d)] [] z2 [])∧Bc z5 ((Fp 110 [.agg (B9 d)] [] z3 [])∧Lf z3 z6 [] []) z1)))) (Bc z11 (Bc z8 z1 (Bc z9 (z15∧(Fp 109 [.agg (B9 d)] [] z2 [])∧Bc z5 ((Fp 110 [.agg (B9 d)] [] z3 [])∧Lf z3 z6 [] []) z1) ((Fp 109 [.agg (B9 d)] [] z2 [])∧Bc z5 ((Fp 110 [.agg (B9 d)] [] z3 [])∧Lf z3 z6 [] []) z1))) (Bc z9 (z15∧(Fp 109 [.agg (B9 d)] [] z2 [])∧Bc z5 ((Fp 110 [.agg (B9 d)] [] z3 [])∧Lf z3 z6 [] []) z1) ((Fp 109 [.agg (B9 d)] [] z2 [])∧Bc z5 ((Fp 110 [.agg (B9 d)] [] z3 [])∧Lf z3 z6 [] []) z1))))))))))))) Q4 ?_
 refine⟨(Aap d Q2 Q2),fun h1=>have q1:=Ao h1;?_,fun h1=>have q1:=An h1;?_⟩
 exact⟨(sB W30),rfl⟩
 have hpt:=By (Ahj q1)
 refine⟨(Cr _ _ _),fun h2=>have q2:=Ao h2;have p2:=A0 q2;?_,fun h2=>have q2:=An h2;have p2:=Av q2;?_⟩
 exact⟨(sB W30),rfl⟩
 refine⟨(Cr _ _ _),fun h3=>have q3:=Ao h3;have p3:=A0 q3;?_,fun h3=>have q3:=An h3;have p3:=Av q3;?_⟩
 exact⟨(sB W30),rfl⟩
 refine⟨(Cr _ _ _),fun h4=>have q4:=Ao h4;have p4:=A0 q4;?_,fun h4=>have q4:=An h4;have p4:=Av q4;?_⟩
 exact⟨(sB W30),rfl⟩
 refine⟨(Aj3 d.uJ),fun h5=>have q5:=Ao h5;?_,fun h5=>have q5:=An h5;have p5:=Jt q5;?_⟩
 exact⟨(sB W30),rfl⟩
 refine⟨(Af6 _),fun h6=>have q6:=Ao h6;?_,fun h6=>have q6:=An h6;?_⟩
 exact⟨(sB W30),rfl⟩
 have hwk:=Aga (w:=d.wJ) q6
 refine⟨fun h7=>have q7:=Ao h7;have p7:=(Da dT (Da dT (Da dT (Da dT dF)))).1 q7;?_,fun h7=>have q7:=An h7;have p7:=(C9 dT (C9 dT (C9 dT (C9 dT dT)))).1 q7;?_⟩
 refine⟨(Aqv d.pJ d.field Q2 (D1 hpt.2.1)),fun h8=>have q8:=Ao h8;?_,fun h8=>have q8:=An h8;?_⟩
 exact⟨(sB W30),rfl⟩
 refine dsp (fun h9 p9=>?_) fun h9 p9=>?_
 refine⟨(Adg d.eJ),fun h10=>have q10:=Ao h10;?_,fun h10=>have q10:=An h10;?_⟩
 exact⟨(sB W30),rfl⟩
 refine⟨(Aaq d.eJ),fun h11=>have q11:=Ao h11;?_,fun h11=>have q11:=An h11;?_⟩
 exact⟨(sB W30),rfl⟩
 refine⟨fun h12=>have q12:=Ao h12;have p12:=of_decide_eq_false q12;?_,fun h12=>have q12:=An h12;have p12:=of_decide_eq_true q12;?_⟩
 refine⟨fun h13=>have q13:=Ao h13;have p13:=(Da dT (Da dT (Da dT (Da dT (Da dT (Da dT dF)))))).1 q13;?_,fun h13=>have q13:=An h13;have p13:=(C9 dT (C9 dT (C9 dT (C9 dT (C9 dT (C9 dT dT)))))).1 q13;?_⟩
 exact⟨(sB W30),rfl⟩
 refine dsp (fun h14 p14=>?_) fun h14 p14=>?_
 refine dsp (fun h15 p15=>?_) fun h15 p15=>?_
 exact⟨(sB W30),rfl⟩
 refine⟨fun h16=>have q16:=Ao h16;have p16:=of_decide_eq_false q16;?_,fun h16=>have q16:=An h16;have p16:=of_decide_eq_true q16;?_⟩
 refine⟨h12,(Ep d Q2),dsp (fun h17 p17=>?_) fun h17 p17=>?_⟩
 exact⟨(sB W30),rfl⟩
 refine⟨(C7 d Q2),fun h18=>?_,fun h18=>?_⟩
 exact⟨(C6 d Q2),(sB W30),rfl⟩
 exact⟨(sB W30),rfl⟩
 refine⟨(C7 d Q2),fun h17=>?_,fun h17=>?_⟩
 exact⟨(C6 d Q2),(sB W30),rfl⟩
 exact⟨(sB W30),rfl⟩
 refine⟨fun h15=>have q15:=Ao h15;have p15:=of_decide_eq_false q15;?_,fun h15=>have q15:=An h15;have p15:=of_decide_eq_true q15;?_⟩
 refine⟨h12,(Ep d Q2),dsp (fun h16 p16=>?_) fun h16 p16=>?_⟩
 exact⟨(sB W30),rfl⟩
 refine⟨(C7 d Q2),fun h17=>?_,fun h17=>?_⟩
 exact⟨(C6 d Q2),(sB W30),rfl⟩
 exact⟨(sB W30),rfl⟩
 refine⟨(C7 d Q2),fun h16=>?_,fun h16=>?_⟩
 exact⟨(C6 d Q2),(sB W30),rfl⟩
 exact⟨(sB W30),rfl⟩
 refine dsp (fun h13 p13=>?_) fun h13 p13=>?_
 refine dsp (fun h14 p14=>?_) fun h14 p14=>?_
 exact⟨(sB W30),rfl⟩
 refine⟨fun h15=>have q15:=Ao h15;have p15:=of_decide_eq_false q15;?_,fun h15=>have q15:=An h15;have p15:=of_decide_eq_true q15;?_⟩
 refine⟨h12,(C7 d Q2),fun h16=>?_,fun h16=>?_⟩
 exact⟨(C6 d Q2),(sB W30),rfl⟩
 exact⟨(sB W30),rfl⟩
 refine⟨(C7 d Q2),fun h16=>?_,fun h16=>?_⟩
 exact⟨(C6 d Q2),(sB W30),rfl⟩
 exact⟨(sB W30),rfl⟩
 refine⟨fun h14=>have q14:=Ao h14;have p14:=of_decide_eq_false q14;?_,fun h14=>have q14:=An h14;have p14:=of_decide_eq_true q14;?_⟩
 refine⟨h12,(C7 d Q2),fun h15=>?_,fun h15=>?_⟩
 exact⟨(C6 d Q2),(sB W30),rfl⟩
 exact⟨(sB W30),rfl⟩
 refine⟨(C7 d Q2),fun h15=>?_,fun h15=>?_⟩
 exact⟨(C6 d Q2),(sB W30),rfl⟩
 exact⟨(sB W30),rfl⟩
 refine⟨fun h10=>have q10:=Ao h10;have p10:=of_decide_eq_false q10;?_,fun h10=>have q10:=An h10;have p10:=of_decide_eq_true q10;?_⟩
 refine⟨fun h11=>have q11:=Ao h11;have p11:=(Da dT (Da dT (Da dT (Da dT (Da dT (Da dT dF)))))).1 q11;?_,fun h11=>have q11:=An h11;have p11:=(C9 dT (C9 dT (C9 dT (C9 dT (C9 dT (C9 dT dT)))))).1 q11;?_⟩
 exact⟨(sB W30),rfl⟩
 refine dsp (fun h12 p12=>?_) fun h12 p12=>?_
 refine dsp (fun h13 p13=>?_) fun h13 p13=>?_
 exact⟨(sB W30),rfl⟩
 refine⟨fun h14=>have q14:=Ao h14;have p14:=of_decide_eq_false q14;?_,fun h14=>have q14:=An h14;have p14:=of_decide_eq_true q14;?_⟩
 refine⟨h10,(Ep d Q2),dsp (fun h15 p15=>?_) fun h15 p15=>?_⟩
 exact⟨(sB W30),rfl⟩
 refine⟨(C7 d Q2),fun h16=>?_,fun h16=>?_⟩
 exact⟨(C6 d Q2),(sB W30),rfl⟩
 exact⟨(sB W30),rfl⟩
 refine⟨(C7 d Q2),fun h15=>?_,fun h15=>?_⟩
 exact⟨(C6 d Q2),(sB W30),rfl⟩
 exact⟨(sB W30),rfl⟩
 refine⟨fun h13=>have q13:=Ao h13;have p13:=of_decide_eq_false q13;?_,fun h13=>have q13:=An h13;have p13:=of_decide_eq_true q13;?_⟩
 refine⟨h10,(Ep d Q2),dsp (fun h14 p14=>?_) fun h14 p14=>?_⟩
 exact⟨(sB W30),rfl⟩
 refine⟨(C7 d Q2),fun h15=>?_,fun h15=>?_⟩
 exact⟨(C6 d Q2),(sB W30),rfl⟩
 exact⟨(sB W30),rfl⟩
 refine⟨(C7 d Q2),fun h14=>?_,fun h14=>?_⟩
 exact⟨(C6 d Q2),(sB W30),rfl⟩
 exact⟨(sB W30),rfl⟩
 refine dsp (fun h11 p11=>?_) fun h11 p11=>?_
 refine dsp (fun h12 p12=>?_) fun h12 p12=>?_
 exact⟨(sB W30),rfl⟩
 refine⟨fun h13=>have q13:=Ao h13;have p13:=of_decide_eq_false q13;?_,fun h13=>have q13:=An h13;have p13:=of_decide_eq_true q13;?_⟩
 refine⟨h10,(C7 d Q2),fun h14=>?_,fun h14=>?_⟩
 exact⟨(C6 d Q2),(sB W30),rfl⟩
 exact⟨(sB W30),rfl⟩
 refine⟨(C7 d Q2),fun h14=>?_,fun h14=>?_⟩
 exact⟨(C6 d Q2),(sB W30),rfl⟩
 exact⟨(sB W30),rfl⟩
 refine⟨fun h12=>have q12:=Ao h12;have p12:=of_decide_eq_false q12;?_,fun h12=>have q12:=An h12;have p12:=of_decide_eq_true q12;?_⟩
 refine⟨h10,(C7 d Q2),fun h13=>?_,fun h13=>?_⟩
 exact⟨(C6 d Q2),(sB W30),rfl⟩
 exact⟨(sB W30),rfl⟩
 refine⟨(C7 d Q2),fun h13=>?_,fun h13=>?_⟩
 exact⟨(C6 d Q2),(sB W30),rfl⟩
 exact⟨(sB W30),rfl⟩
 refine dsp (fun h8 p8=>?_) fun h8 p8=>?_
 refine⟨(Adg d.eJ),fun h9=>have q9:=Ao h9;?_,fun h9=>have q9:=An h9;?_⟩
 exact⟨(sB W30),rfl⟩
 refine⟨(Aaq d.eJ),fun h10=>have q10:=Ao h10;?_,fun h10=>have q10:=An h10;?_⟩
 exact⟨(sB W30),rfl⟩
 refine⟨fun h11=>have q11:=Ao h11;have p11:=of_decide_eq_false q11;?_,fun h11=>have q11:=An h11;have p11:=of_decide_eq_true q11;?_⟩
 refine⟨fun h12=>have q12:=Ao h12;have p12:=(Da dT (Da dT (Da dT (Da dT (Da dT (Da dT dF)))))).1 q12;?_,fun h12=>have q12:=An h12;have p12:=(C9 dT (C9 dT (C9 dT (C9 dT (C9 dT (C9 dT dT)))))).1 q12;?_⟩
 exact⟨(sB W30),rfl⟩
 refine dsp (fun h13 p13=>?_) fun h13 p13=>?_
 refine dsp (fun h14 p14=>?_) fun h14 p14=>?_
 exact⟨(sB W30),rfl⟩
 refine⟨fun h15=>have q15:=Ao h15;have p15:=of_decide_eq_false q15;?_,fun h15=>have q15:=An h15;have p15:=of_decide_eq_true q15;?_⟩
 refine⟨h11,(Ep d Q2),dsp (fun h16 p16=>?_) fun h16 p16=>?_⟩
 exact⟨(sB W30),rfl⟩
 refine⟨(C7 d Q2),fun h17=>?_,fun h17=>?_⟩
 exact⟨(C6 d Q2),(sB W30),rfl⟩
 exact⟨(sB W30),rfl⟩
 refine⟨(C7 d Q2),fun h16=>?_,fun h16=>?_⟩
 exact⟨(C6 d Q2),(sB W30),rfl⟩
 exact⟨(sB W30),rfl⟩
 refine⟨fun h14=>have q14:=Ao h14;have p14:=of_decide_eq_false q14;?_,fun h14=>have q14:=An h14;have p14:=of_decide_eq_true q14;?_⟩
 refine⟨h11,(Ep d Q2),dsp (fun h15 p15=>?_) fun h15 p15=>?_⟩
 exact⟨(sB W30),rfl⟩
 refine⟨(C7 d Q2),fun h16=>?_,fun h16=>?_⟩
 exact⟨(C6 d Q2),(sB W30),rfl⟩
 exact⟨(sB W30),rfl⟩
 refine⟨(C7 d Q2),fun h15=>?_,fun h15=>?_⟩
 exact⟨(C6 d Q2),(sB W30),rfl⟩
 exact⟨(sB W30),rfl⟩
 refine dsp (fun h12 p12=>?_) fun h12 p12=>?_
 refine dsp (fun h13 p13=>?_) fun h13 p13=>?_
 exact⟨(sB W30),rfl⟩
 refine⟨fun h14=>have q14:=Ao h14;have p14:=of_decide_eq_false q14;?_,fun h14=>have q14:=An h14;have p14:=of_decide_eq_true q14;?_⟩
 refine⟨h11,(C7 d Q2),fun h15=>?_,fun h15=>?_⟩
 exact⟨(C6 d Q2),(sB W30),rfl⟩
 exact⟨(sB W30),rfl⟩
 refine⟨(C7 d Q2),fun h15=>?_,fun h15=>?_⟩
 exact⟨(C6 d Q2),(sB W30),rfl⟩
 exact⟨(sB W30),rfl⟩
 refine⟨fun h13=>have q13:=Ao h13;have p13:=of_decide_eq_false q13;?_,fun h13=>have q13:=An h13;have p13:=of_decide_eq_true q13;?_⟩
 refine⟨h11,(C7 d Q2),fun h14=>?_,fun h14=>?_⟩
 exact⟨(C6 d Q2),(sB W30),rfl⟩
 exact⟨(sB W30),rfl⟩
 refine⟨(C7 d Q2),fun h14=>?_,fun h14=>?_⟩
 exact⟨(C6 d Q2),(sB W30),rfl⟩
 exact⟨(sB W30),rfl⟩
 refine⟨fun h9=>have q9:=Ao h9;have p9:=of_decide_eq_false q9;?_,fun h9=>have q9:=An h9;have p9:=of_decide_eq_true q9;?_⟩
 refine⟨fun h10=>have q10:=Ao h10;have p10:=(Da dT (Da dT (Da dT (Da dT (Da dT (Da dT dF)))))).1 q10;?_,fun h10=>have q10:=An h10;have p10:=(C9 dT (C9 dT (C9 dT (C9 dT (C9 dT (C9 dT dT)))))).1 q10;?_⟩
 exact⟨(sB W30),rfl⟩
 refine dsp (fun h11 p11=>?_) fun h11 p11=>?_
 refine dsp (fun h12 p12=>?_) fun h12 p12=>?_
 exact⟨(sB W30),rfl⟩
 refine⟨fun h13=>have q13:=Ao h13;have p13:=of_decide_eq_false q13;?_,fun h13=>have q13:=An h13;have p13:=of_decide_eq_true q13;?_⟩
 refine⟨h9,(Ep d Q2),dsp (fun h14 p14=>?_) fun h14 p14=>?_⟩
 exact⟨(sB W30),rfl⟩
 refine⟨(C7 d Q2),fun h15=>?_,fun h15=>?_⟩
 exact⟨(C6 d Q2),(sB W30),rfl⟩
 exact⟨(sB W30),rfl⟩
 refine⟨(C7 d Q2),fun h14=>?_,fun h14=>?_⟩
 exact⟨(C6 d Q2),(sB W30),rfl⟩
 exact⟨(sB W30),rfl⟩
 refine⟨fun h12=>have q12:=Ao h12;have p12:=of_decide_eq_false q12;?_,fun h12=>have q12:=An h12;have p12:=of_decide_eq_true q12;?_⟩
 refine⟨h9,(Ep d Q2),dsp (fun h13 p13=>?_) fun h13 p13=>?_⟩
 exact⟨(sB W30),rfl⟩
 refine⟨(C7 d Q2),fun h14=>?_,fun h14=>?_⟩
 exact⟨(C6 d Q2),(sB W30),rfl⟩
 exact⟨(sB W30),rfl⟩
 refine⟨(C7 d Q2),fun h13=>?_,fun h13=>?_⟩
 exact⟨(C6 d Q2),(sB W30),rfl⟩
 exact⟨(sB W30),rfl⟩
 refine dsp (fun h10 p10=>?_) fun h10 p10=>?_
 refine dsp (fun h11 p11=>?_) fun h11 p11=>?_
 exact⟨(sB W30),rfl⟩
 refine⟨fun h12=>have q12:=Ao h12;have p12:=of_decide_eq_false q12;?_,fun h12=>have q12:=An h12;have p12:=of_decide_eq_true q12;?_⟩
 refine⟨h9,(C7 d Q2),fun h13=>?_,fun h13=>?_⟩
 exact⟨(C6 d Q2),(sB W30),rfl⟩
 exact⟨(sB W30),rfl⟩
 refine⟨(C7 d Q2),fun h13=>?_,fun h13=>?_⟩
 exact⟨(C6 d Q2),(sB W30),rfl⟩
 exact⟨(sB W30),rfl⟩
 refine⟨fun h11=>have q11:=Ao h11;have p11:=of_decide_eq_false q11;?_,fun h11=>have q11:=An h11;have p11:=of_decide_eq_true q11;?_⟩
 refine⟨h9,(C7 d Q2),fun h12=>?_,fun h12=>?_⟩
 exact⟨(C6 d Q2),(sB W30),rfl⟩
 exact⟨(sB W30),rfl⟩
 refine⟨(C7 d Q2),fun h12=>?_,fun h12=>?_⟩
 exact⟨(C6 d Q2),(sB W30),rfl⟩
 exact⟨(sB W30),rfl⟩
structure C2 where
 v:Bool
def Mk (d:Dcd):Fam:=⟨C2,fun j1000003=>[(1,.v (vP 0)),(76,.v (vB j1000003.v))],fun _=>[.cells (B9 d)],fun j1000003=>j1000003.v= !Abq d,fun _=>0⟩
structure Hq where
 u_:Nat
def Mm (d:Dcd):Fam:=⟨Hq,fun j0=>[(1,.v (vP 0))],fun _=>[.cells (B9 d)],fun _=>J8 d=true,fun _=>0⟩
structure B0 where
 wires:Bool
def Mn (d:Dcd):Fam:=⟨B0,fun j1000013=>[(1,.v (vP 0)),(3,.v (vB j1000013.wires))],fun _=>[.cells (B9 d)],fun j1000013=>j1000013.wires=Wn d,fun _=>0⟩
structure D5 where
 v:Bool
def Jd (d:Dcd) (j1000013:B0):Fam:=⟨D5,fun j1000014=>[(1,.v (vP 0)),(140,.v (vB j1000014.v))],fun _=>[.cells (B9 d)],fun j1000014=>j1000014.v=(j1000013.wires||(Ak d.mJ 3 5&&(!decide (d.field=fld0)&& !Dk d.field d.wJ))),fun _=>0⟩
theorem Aev (d:Dcd) (hp1:List.length (d).sJ≤Bh) (hp2:List.length (d).pJ.sQ≤Bh):Fun Tryz.prog 60 [.agg (B9 d)] [] (.v (vB (Ce d))) []:=by
 have hN:Bh=274877906944:=rfl
 refine Ar Tryz.func60 Q4 Q4 (w:=let z4:S:= .v (vB (Aes d));let z5:List Blk:=[.cells (B9 d)];let z6:=Mn d;let z7:=Ak d.wK 1 (D2 d);let z8:S:= .v (vI (Aq d.wJ));let z10:=z6.Has [(1,.v (vP 0)),(3,.v (vB false))] z5;let z11:S:= .v (vB (Ce d));let z2:=Lf (.v (vB false)) z11 [] [];let z12:=decide ((d).field=fld0)||known (d).pJ.sQ (d).field;let z13:=(Mm d).Has [(1,.v (vP 0))] z5;let z14:=Mk d;let z3:=Bc (!decide (d.mJ=9)) (z14.Has [(1,.v (vP 0)),(76,.v (vB (!(decide (d.eJ.kind=0)&&(decide (d.eJ.field=0)&&(decide (d.eJ.bits=0)&&(decide (d.eJ.len=0)&&(decide (d.eJ.text=[])&&(decide (d.eJ.code=0)&&decide (d.eJ.aJ=0))))))))))] z5) (z14.Has [(1,.v (vP 0)),(76,.v (vB false))] z5);let z15:=vB (decide (Aq d.wJ=0));let z16:=z6.Has [(1,.v (vP 0)),(3,.v (vB true))] z5;let z17:S:= .v (vI (D2 d));let z18:= !decide (d.mJ=8);let z19:=decide (d.mJ=5);let z20:=Ak d.aJ 0 1000000000;let z21:List V:=[vI d.wK,vI 1,vI (D2 d)];let z22:=z14.Has [(1,.v (vP 0)),(76,.v (vB true))] z5;let z23:S:= .v (vB z7);let z24:=Fg d.field;let z25:=U3 d.field;let z9:S:= .v (vB z25);let z26:=Ak d.sX 0 d.aJ;let z27:=Dk d.field d.wJ;let z28:=Ak d.mJ 1 9;let z29:=Ak d.mJ 3 5;(.sZ [.call [] (.v (vB (B2 d.pJ))) []] (.br (.lJ () []) (.sZ [.call [] (.v (vB z28)) []] (.br (.lJ () []) (.sZ [.call [] (.v (vB z20)) []] (.br (.lJ () []) (.sZ [.call [] (.v (vB z26)) []] (.br (.lJ () []) (.sZ [.call [] (.v (vB (Fe d.uJ))) []] (.br (.lJ () []) (.sZ [.call [] (.v (vB (C4 d.wJ))) []] (.br (.lJ () []) (.sZ [.call [] (.v (vB z12)) []] (.br (.lJ () []) (.sZ [.call [] (.v (vB (S3 d))) []] (.br (.lJ () []) (.join 1000003 z14 (.br (.sZ [.call [] (.v (vB (H5 d.eJ))) []] (.br (.sZ [.at 0,.keep [1,76],.sel [0]] (.next)) (.sZ [.call [] (.v (vB (Fd d.eJ))) []] (.br (.sZ [.at 0,.keep [1,76],.sel [0]] (.next)) (.br (.sZ [.at 0,.keep [1,76],.sel [0]] (.next)) (.sZ [.at 0,.keep [1,76],.sel [0]] (.next))))))) (.br (.sZ [.at 0,.keep [1,76],.sel [0]] (.next)) (.sZ [.at 0,.keep [1,76],.sel [0]] (.next)))) fun j1000003=> .br (.lJ () []) (.join 0 (Mm d) (.br (.sZ [.br true,.ord (os 6 [3,4]) [],.call [] z17 [],.call [] z23 []] (.br (.lJ () []) (.sZ [.at 0,.keep [1],.sel [0]] (.next)))) (.br (.sZ [.br true,.ord (os 6 [3,4]) [],.call [] z17 [],.call [] z23 []] (.br (.lJ () []) (.sZ [.at 0,.keep [1],.sel [0]] (.next)))) (.br (.sZ [.ord (os 6 [3,4]) [],.call [] z17 [],.call [] z23 []] (.br (.lJ () []) (.sZ [.at 0,.keep [1],.sel [0]] (.next)))) (.br (.lJ () []) (.sZ [.at 0,.keep [1],.sel [0]] (.next)))))) fun j0=> .join 1000013 z6 (.br (.br (.sZ [.at 0,.keep [1,3],.sel [0]] (.next)) (.br (.br (.sZ [.at 0,.keep [1,3],.sel [0]] (.next)) (.br (.sZ [.call [] z8 [],.at 0,.keep [1,3],.sel [0]] (.next)) (.sZ [.at 0,.keep [1,3],.sel [0]] (.next)))) (.br (.sZ [.call [] z8 [],.at 0,.keep [1,3],.sel [0]] (.next)) (.sZ [.at 0,.keep [1,3],.sel [0]] (.next))))) (.br (.br (.sZ [.at 0,.keep [1,3],.sel [0]] (.next)) (.br (.sZ [.call [] z8 [],.at 0,.keep [1,3],.sel [0]] (.next)) (.sZ [.at 0,.keep [1,3],.sel [0]] (.next)))) (.br (.sZ [.call [] z8 [],.at 0,.keep [1,3],.sel [0]] (.next)) (.sZ [.at 0,.keep [1,3],.sel [0]] (.next))))) fun j1000013=> .join 1000014 (Jd d j1000013) (.br (.sZ [.at 0,.keep [1,140],.sel [0]] (.next)) (.sZ [.call [] (.v (vB z29)) []] (.br (.br (.sZ [.call [] (.v (vB z27)) [],.at 0,.keep [1,140],.sel [0]] (.next)) (.sZ [.at 0,.keep [1,140],.sel [0]] (.next))) (.sZ [.at 0,.keep [1,140],.sel [0]] (.next))))) fun j1000014=> .br (.lJ () []) (.br (.br (.br (.sZ [.call [] z4 []] (.lJ () [])) (.sZ [.call [] z9 []] (.br (.sZ [.call [] z4 []] (.lJ () [])) (.lJ () [])))) (.br (.sZ [.call [] z4 []] (.lJ () [])) (.sZ [.call [] z9 []] (.br (.sZ [.call [] z4 []] (.lJ () [])) (.lJ () []))))) (.br (.br (.sZ [.call [] z4 []] (.lJ () [])) (.sZ [.call [] z9 []] (.br (.sZ [.call [] z4 []] (.lJ () [])) (.lJ () [])))) (.br (.br (.sZ [.call [] z4 []] (.lJ () [])) (.sZ [.call [] z9 []] (.br (.sZ [.call [] z4 []] (.lJ () [])) (.lJ () [])))) (.lJ () []))))))))))))))))))))),(Fp 13 [.agg (G0 d.pJ)] [] (.v (vB (B2 d.pJ))) [])∧Bc (!(B2 d.pJ)) z2 ((Fp 44 [vI d.mJ,vI 1,vI 9] [] (.v (vB z28)) [])∧Bc (!z28) z2 ((Fp 44 [vI d.aJ,vI 0,vI 1000000000] [] (.v (vB z20)) [])∧Bc (!z20) z2 ((Fp 44 [vI d.sX,vI 0,vI d.aJ] [] (.v (vB z26)) [])∧Bc (!z26) z2 ((Fp 121 [.agg (Pk d.uJ)] [] (.v (vB (Fe d.uJ))) [])∧Bc (!(Fe d.uJ)) z2 ((Fp 122 [vI d.wJ] [] (.v (vB (C4 d.wJ))) [])∧Bc (!(C4 d.wJ)) z2 ((Fp 123 [.agg (B9 d)] [] (.v (vB z12)) [])∧Bc (!z12) z2 ((Fp 124 [.agg (B9 d)] [] (.v (vB (S3 d))) [])∧Bc (!(S3 d)) z2 ((Bc (decide (d.mJ=9)) ((Fp 125 [.agg (cEv d.eJ)] [] (.v (vB (H5 d.eJ))) [])∧Bc (!(H5 d.eJ)) z22 ((Fp 31 [.agg (cEv d.eJ)] [] (.v (vB (Fd d.eJ))) [])∧Bc (!(Fd d.eJ)) z22 z3)) z3)∧∀j1000003,z14.inv j1000003→(Bc j1000003.v z2 ((Bc (decide (d.mJ=6)) (((decide (d.mJ=6))=true)∧(Fp 126 [.agg (B9 d)] [] z17 [])∧(Fp 44 z21 [] z23 [])∧Bc (!z7) z2 z13) (Bc (decide (d.mJ=7)) (((decide (d.mJ=7))=true)∧(Fp 126 [.agg (B9 d)] [] z17 [])∧(Fp 44 z21 [] z23 [])∧Bc (!z7) z2 z13) (Bc (decide (d.mJ=8)) ((Fp 126 [.agg (B9 d)] [] z17 [])∧(Fp 44 z21 [] z23 [])∧Bc (!z7) z2 z13) (Bc (!decide (d.wK=0)) z2 z13))))∧∀j0,(Mm d).inv j0→((Bc (decide (d.mJ=3)) (Bc (!decide (d.wJ=0)) z16 (Bc (decide (d.mJ=4)) (Bc (!decide (d.wJ=2)) z16 (Bc z19 ((Fp 127 [vI d.wJ] [] z8 [])∧z6.Has [(1,.v (vP 0)),(3,.v z15)] z5) z10)) (Bc z19 ((Fp 127 [vI d.wJ] [] z8 [])∧z6.Has [(1,.v (vP 0)),(3,.v z15)] z5) z10))) (Bc (decide (d.mJ=4)) (Bc (!decide (d.wJ=2)) z16 (Bc z19 ((Fp 127 [vI d.wJ] [] z8 [])∧z6.Has [(1,.v (vP 0)),(3,.v z15)] z5) z10)) (Bc z19 ((Fp 127 [vI d.wJ] [] z8 [])∧z6.Has [(1,.v (vP 0)),(3,.v z15)] z5) z10)))∧∀j1000013,z6.inv j1000013→(let z1:=Jd d j1000013;(Bc j1000013.wires (z1.Has [(1,.v (vP 0)),(140,.v (vB true))] z5) ((Fp 44 [vI d.mJ,vI 3,vI 5] [] (.v (vB z29)) [])∧Bc z29 (Bc (!(decide (d.field.nJ=0)&&(decide (d.field.kind=0)&&(decide (d.field.rep=false)&&(decide (d.field.packed=false)&&decide (d.field.mK=0)))))) ((Fp 128 [.agg z24,vI d.wJ] [] (.v (vB z27)) [])∧z1.Has [(1,.v (vP 0)),(140,.v (vB (!z27)))] z5) (z1.Has [(1,.v (vP 0)),(140,.v (vB false))] z5)) (z1.Has [(1,.v (vP 0)),(140,.v (vB false))] z5)))∧∀j1000014,z1.inv j1000014→(Bc j1000014.v z2 (Bc (decide (d.field.kind=6)) (Bc (!decide (d.mJ=6)) (Bc z18 ((Fp 130 [.agg (B9 d)] [] z4 [])∧Lf z4 z11 [] []) ((Fp 129 [.agg z24] [] z9 [])∧Bc z25 ((Fp 130 [.agg (B9 d)] [] z4 [])∧Lf z4 z11 [] []) z2)) (Bc z18 ((Fp 130 [.agg (B9 d)] [] z4 [])∧Lf z4 z11 [] []) ((Fp 129 [.agg z24] [] z9 [])∧Bc z25 ((Fp 130 [.agg (B9 d)] [] z4 [])∧Lf z4 z11 [] []) z2))) (Bc (!decide (d.mJ=6)) (Bc z18 ((Fp 130 [.agg (B9 d)] [] z4 [])∧Lf z4 z11 [] []) ((Fp 129 [.agg z24] [] z9 [])∧Bc z25 ((Fp 130 [.agg (B9 d)] [] z4 [])∧Lf z4 z11 [] []) z2)) (Bc (decide (d.field.kind=7)) (Bc z18 ((Fp 130 [.agg (B9 d)] [] z4 [])∧Lf z4 z11 [] []) ((Fp 129 [.agg z24] [] z9 [])∧Bc z25 ((Fp 130 [.agg (B9 d)] [] z4 [])∧Lf z4 z11 [] []) z2)) z2)))))))))))))))))) Q4 ?_
 refine⟨(Mj d.pJ),fun h1=>have q1:=Ao h1;?_,fun h1=>have q1:=An h1;have p1:=By q1;?_⟩
 exact⟨(sB W31),rfl⟩
 have hpt:=By q1
 refine⟨(Bb _ _ _),fun h2=>have q2:=Ao h2;have p2:=A0 q2;?_,fun h2=>have q2:=An h2;have p2:=Av q2;?_⟩
 exact⟨(sB W31),rfl⟩
 refine⟨(Bb _ _ _),fun h3=>have q3:=Ao h3;have p3:=A0 q3;?_,fun h3=>have q3:=An h3;have p3:=Av q3;?_⟩
 exact⟨(sB W31),rfl⟩
 refine⟨(Bb _ _ _),fun h4=>have q4:=Ao h4;have p4:=A0 q4;?_,fun h4=>have q4:=An h4;have p4:=Av q4;?_⟩
 exact⟨(sB W31),rfl⟩
 refine⟨(Aj4 d.uJ),fun h5=>have q5:=Ao h5;?_,fun h5=>have q5:=An h5;have p5:=Jt q5;?_⟩
 exact⟨(sB W31),rfl⟩
 refine⟨(Abx _),fun h6=>have q6:=Ao h6;?_,fun h6=>have q6:=An h6;?_⟩
 exact⟨(sB W31),rfl⟩
 have hwk:=Aga (w:=d.wJ) q6
 refine⟨(Ahi d Q2 (D1 hpt.2.1)),fun h7=>have q7:=Ao h7;have p7:=(orF dF Iff.rfl).1 q7;?_,fun h7=>have q7:=An h7;have p7:=(orT dT Iff.rfl).1 q7;?_⟩
 exact⟨(sB W31),rfl⟩
 refine⟨(Anx d Q2 Q2),fun h8=>have q8:=Ao h8;?_,fun h8=>have q8:=An h8;?_⟩
 exact⟨(sB W31),rfl⟩
 refine⟨?_,fun (j1000003:C2) hq_j1000003=>?_⟩
 refine dsp (fun h10 p10=>?_) fun h10 p10=>?_
 refine⟨(Aka d.eJ),fun h11=>have q11:=Ao h11;?_,fun h11=>have q11:=An h11;?_⟩
 exact Bp (j:=(⟨true⟩:C2)) rfl rfl Q41
 refine⟨(Ahh d.eJ),fun h12=>have q12:=Ao h12;?_,fun h12=>have q12:=An h12;?_⟩
 exact Bp (j:=(⟨true⟩:C2)) rfl rfl Q41
 refine⟨fun h13=>have q13:=Ao h13;have p13:=of_decide_eq_false q13;?_,fun h13=>have q13:=An h13;have p13:=of_decide_eq_true q13;?_⟩
 exact Bp (j:=(⟨!(decide (d.eJ.kind=0)&&(decide (d.eJ.field=0)&&(decide (d.eJ.bits=0)&&(decide (d.eJ.len=0)&&(decide (d.eJ.text=[])&&(decide (d.eJ.code=0)&&decide (d.eJ.aJ=0)))))))⟩:C2)) rfl rfl Q41
 exact Bp (j:=(⟨false⟩:C2)) rfl rfl Q41
 refine⟨fun h11=>have q11:=Ao h11;have p11:=of_decide_eq_false q11;?_,fun h11=>have q11:=An h11;have p11:=of_decide_eq_true q11;?_⟩
 exact Bp (j:=(⟨!(decide (d.eJ.kind=0)&&(decide (d.eJ.field=0)&&(decide (d.eJ.bits=0)&&(decide (d.eJ.len=0)&&(decide (d.eJ.text=[])&&(decide (d.eJ.code=0)&&decide (d.eJ.aJ=0)))))))⟩:C2)) rfl rfl Q41
 exact Bp (j:=(⟨false⟩:C2)) rfl rfl Q41
 have hi_j1000003:j1000003.v= !Abq d:=hq_j1000003
 refine⟨fun h10=>?_,fun h10=>?_⟩
 exact⟨(sB W31),rfl⟩
 refine⟨?_,fun (j0:Hq) hq_j0=>?_⟩
 refine dsp (fun h12 p12=>?_) fun h12 p12=>?_
 refine⟨h12,(Qr d Q2),(Bb _ _ _),fun h13=>have q13:=Ao h13;have p13:=A0 q13;?_,fun h13=>have q13:=An h13;have p13:=Av q13;?_⟩
 exact⟨(sB W31),rfl⟩
 exact Bp (j:=(⟨0⟩:Hq)) rfl rfl Q64
 refine dsp (fun h13 p13=>?_) fun h13 p13=>?_
 refine⟨h13,(Qr d Q2),(Bb _ _ _),fun h14=>have q14:=Ao h14;have p14:=A0 q14;?_,fun h14=>have q14:=An h14;have p14:=Av q14;?_⟩
 exact⟨(sB W31),rfl⟩
 exact Bp (j:=(⟨0⟩:Hq)) rfl rfl Q64
 refine dsp (fun h14 p14=>?_) fun h14 p14=>?_
 refine⟨(Qr d Q2),(Bb _ _ _),fun h15=>have q15:=Ao h15;have p15:=A0 q15;?_,fun h15=>have q15:=An h15;have p15:=Av q15;?_⟩
 exact⟨(sB W31),rfl⟩
 exact Bp (j:=(⟨0⟩:Hq)) rfl rfl Q64
 refine⟨fun h15=>have q15:=Ao h15;have p15:=of_decide_eq_false q15;?_,fun h15=>have q15:=An h15;have p15:=of_decide_eq_true q15;?_⟩
 exact⟨(sB W31),rfl⟩
 exact Bp (j:=(⟨0⟩:Hq)) rfl rfl Q64
 have hi_j0:J8 d=true:=hq_j0
 refine⟨?_,fun (j1000013:B0) hq_j1000013=>?_⟩
 refine dsp (fun h13 p13=>?_) fun h13 p13=>?_
 refine⟨fun h14=>have q14:=Ao h14;have p14:=of_decide_eq_false q14;?_,fun h14=>have q14:=An h14;have p14:=of_decide_eq_true q14;?_⟩
 exact Bp (j:=(⟨true⟩:B0)) rfl rfl Q25
 refine dsp (fun h15 p15=>?_) fun h15 p15=>?_
 refine⟨fun h16=>have q16:=Ao h16;have p16:=of_decide_eq_false q16;?_,fun h16=>have q16:=An h16;have p16:=of_decide_eq_true q16;?_⟩
 exact Bp (j:=(⟨true⟩:B0)) rfl rfl Q25
 refine dsp (fun h17 p17=>?_) fun h17 p17=>?_
 exact⟨(D9 _),Bp (j:=(⟨decide (Aq d.wJ=0)⟩:B0)) rfl rfl Q25⟩
 exact Bp (j:=(⟨false⟩:B0)) rfl rfl Q25
 refine dsp (fun h16 p16=>?_) fun h16 p16=>?_
 exact⟨(D9 _),Bp (j:=(⟨decide (Aq d.wJ=0)⟩:B0)) rfl rfl Q25⟩
 exact Bp (j:=(⟨false⟩:B0)) rfl rfl Q25
 refine dsp (fun h14 p14=>?_) fun h14 p14=>?_
 refine⟨fun h15=>have q15:=Ao h15;have p15:=of_decide_eq_false q15;?_,fun h15=>have q15:=An h15;have p15:=of_decide_eq_true q15;?_⟩
 exact Bp (j:=(⟨true⟩:B0)) rfl rfl Q25
 refine dsp (fun h16 p16=>?_) fun h16 p16=>?_
 exact⟨(D9 _),Bp (j:=(⟨decide (Aq d.wJ=0)⟩:B0)) rfl rfl Q25⟩
 exact Bp (j:=(⟨false⟩:B0)) rfl rfl Q25
 refine dsp (fun h15 p15=>?_) fun h15 p15=>?_
 exact⟨(D9 _),Bp (j:=(⟨decide (Aq d.wJ=0)⟩:B0)) rfl rfl Q25⟩
 exact Bp (j:=(⟨false⟩:B0)) rfl rfl Q25
 have hi_j1000013:j1000013.wires=Wn d:=hq_j1000013
 refine⟨?_,fun (j1000014:D5) hq_j1000014=>?_⟩
 refine⟨fun h14=>?_,fun h14=>?_⟩
 exact Bp (j:=(⟨true⟩:D5)) rfl rfl Q59
 refine⟨(Bb _ _ _),fun h15=>have p15:=Av h15;?_,fun h15=>have p15:=A0 h15;?_⟩
 refine⟨fun h16=>have q16:=Ao h16;have p16:=(Da dT (Da dT (Da dT (Da dT dF)))).1 q16;?_,fun h16=>have q16:=An h16;have p16:=(C9 dT (C9 dT (C9 dT (C9 dT dT)))).1 q16;?_⟩
 exact⟨(Yo d.field _ Q2),Bp (j:=(⟨!(Dk d.field d.wJ)⟩:D5)) rfl rfl Q59⟩
 exact Bp (j:=(⟨false⟩:D5)) rfl rfl Q59
 exact Bp (j:=(⟨false⟩:D5)) rfl rfl Q59
 have hi_j1000014:j1000014.v=(j1000013.wires||(Ak d.mJ 3 5&&(!decide (d.field=fld0)&& !Dk d.field d.wJ))):=hq_j1000014
 refine⟨fun h14=>?_,fun h14=>?_⟩
 exact⟨(sB W31),rfl⟩
 refine dsp (fun h15 p15=>?_) fun h15 p15=>?_
 refine⟨fun h16=>have q16:=Ao h16;have p16:=of_decide_eq_false q16;?_,fun h16=>have q16:=An h16;have p16:=of_decide_eq_true q16;?_⟩
 refine⟨fun h17=>have q17:=Ao h17;have p17:=of_decide_eq_false q17;?_,fun h17=>have q17:=An h17;have p17:=of_decide_eq_true q17;?_⟩
 exact⟨(Rs d Q2),(sB W31),rfl⟩
 refine⟨(Yn d.field),fun h18=>?_,fun h18=>?_⟩
 exact⟨(Rs d Q2),(sB W31),rfl⟩
 exact⟨(sB W31),rfl⟩
 refine⟨fun h17=>have q17:=Ao h17;have p17:=of_decide_eq_false q17;?_,fun h17=>have q17:=An h17;have p17:=of_decide_eq_true q17;?_⟩
 exact⟨(Rs d Q2),(sB W31),rfl⟩
 refine⟨(Yn d.field),fun h18=>?_,fun h18=>?_⟩
 exact⟨(Rs d Q2),(sB W31),rfl⟩
 exact⟨(sB W31),rfl⟩
 refine⟨fun h16=>have q16:=Ao h16;have p16:=of_decide_eq_false q16;?_,fun h16=>have q16:=An h16;have p16:=of_decide_eq_true q16;?_⟩
 refine⟨fun h17=>have q17:=Ao h17;have p17:=of_decide_eq_false q17;?_,fun h17=>have q17:=An h17;have p17:=of_decide_eq_true q17;?_⟩
 exact⟨(Rs d Q2),(sB W31),rfl⟩
 refine⟨(Yn d.field),fun h18=>?_,fun h18=>?_⟩
 exact⟨(Rs d Q2),(sB W31),rfl⟩
 exact⟨(sB W31),rfl⟩
 refine dsp (fun h17 p17=>?_) fun h17 p17=>?_
 refine⟨fun h18=>have q18:=Ao h18;have p18:=of_decide_eq_false q18;?_,fun h18=>have q18:=An h18;have p18:=of_decide_eq_true q18;?_⟩
 exact⟨(Rs d Q2),(sB W31),rfl⟩
 refine⟨(Yn d.field),fun h19=>?_,fun h19=>?_⟩
 exact⟨(Rs d Q2),(sB W31),rfl⟩
 exact⟨(sB W31),rfl⟩
 exact⟨(sB W31),rfl⟩
end Go.Proofs.YtphecbmdhbphgaaGreat.Ax
