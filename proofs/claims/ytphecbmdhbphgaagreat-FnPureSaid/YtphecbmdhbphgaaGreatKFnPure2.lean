/- Schemas. Events. Decoders: what is valid. Decoders: what is valid, more. Decoders: what is valid, whole. Decoders: what is valid, at last. Decoders: what is valid: both sides. -/
import Derived.Test.YtphecbmdhbphgaaGreatKFnPure1
set_option linter.unusedSimpArgs false
set_option linter.unusedVariables false
namespace Go.Proofs.YtphecbmdhbphgaaGreat.Ax
open Go.RowKit
theorem Afq (f:Fld) (before:Int) (n:Int) (hp1:(0:Int)≤n∧n≤1000):Fun Tryz.prog 160 [.agg (E6 f),vI before,vI n] [] (.v (vB (decide (before<(f).number)&&G2 f n))) []:=by
 have hN:Bj=274877906944:=rfl
 refine Ar Tryz.func160 Q4 Q4 (w:=let z1:S:= .v (vB (decide (before<(f).number)&&G2 f n));let z2:S:= .v (vB (Ak f.msg 0 (n-1)));let z3:=Lf (.v (vB false)) z1 [] [];let z4:=Lf (.v (vB (decide (f.msg=(-1))))) z1 [] [];let z5:=C7 f.number;(.seg [.call [] (.v (vB z5)) []] (.br (.leaf () []) (.br (.leaf () []) (.seg [.call [] (.v (vB (D4 f.kind))) []] (.br (.leaf () []) (.br (.br (.leaf () []) (.seg [.call [] (.v (vB (Cw f.kind))) []] (.br (.leaf () []) (.br (.seg [.as 45 (.v (vI (n-1))),.call [] z2 []] (.leaf () [])) (.leaf () []))))) (.br (.seg [.as 45 (.v (vI (n-1))),.call [] z2 []] (.leaf () [])) (.leaf () []))))))),(Fp 207 [vI f.number] [] (.v (vB z5)) [])∧Bc (!z5) z3 (Bc (decide (f.number≤before)) z3 ((Fp 208 [vI f.kind] [] (.v (vB (D4 f.kind))) [])∧Bc (!(D4 f.kind)) z3 (Bc f.packed (Bc (!f.rep) z3 ((Fp 209 [vI f.kind] [] (.v (vB (Cw f.kind))) [])∧Bc (!(Cw f.kind)) z3 (Bc (decide (f.kind=8)) ((wI (n-1))∧(Fp 97 [vI f.msg,vI 0,vI (n-1)] [] z2 [])∧Lf z2 z1 [] []) z4))) (Bc (decide (f.kind=8)) ((wI (n-1))∧(Fp 97 [vI f.msg,vI 0,vI (n-1)] [] z2 [])∧Lf z2 z1 [] []) z4)))))) Q4 ?_
 refine⟨(Z1 _),fun h1=>have q1:=Ao h1;?_,fun h1=>have q1:=An h1;?_⟩
 refine⟨(sB ?_),rfl⟩
 rotate_left
 refine dsp (fun h2 p2=>?_) fun h2 p2=>?_
 refine⟨(sB ?_),rfl⟩
 rotate_left
 refine⟨(Zc _),fun h3=>have q3:=Ao h3;have p3:=Aw q3;?_,fun h3=>have q3:=An h3;have p3:=Aq q3;?_⟩
 refine⟨(sB ?_),rfl⟩
 rotate_left
 refine⟨fun h4=>?_,fun h4=>?_⟩
 refine⟨fun h5=>have q5:=Ao h5;?_,fun h5=>have q5:=An h5;?_⟩
 refine⟨(sB ?_),rfl⟩
 rotate_left
 refine⟨(Xa _),fun h6=>have q6:=Ao h6;have p6:=Aw q6;?_,fun h6=>have q6:=An h6;have p6:=Aq q6;?_⟩
 refine⟨(sB ?_),rfl⟩
 rotate_left
 refine dsp (fun h7 p7=>?_) fun h7 p7=>?_
 refine⟨(Ac Q2 Q2),(B8 _ _ _),(sB ?_),rfl⟩
 rotate_left
 refine⟨(sB ?_),rfl⟩
 rotate_left
 refine dsp (fun h5 p5=>?_) fun h5 p5=>?_
 refine⟨(Ac Q2 Q2),(B8 _ _ _),(sB ?_),rfl⟩
 rotate_left
 refine⟨(sB ?_),rfl⟩
 rotate_left
 all_goals first|(simp[G2, *];done)|(simp_all[G2];done)|(simp_all[G2];omega)|(rw[Bool.eq_iff_iff];simp_all[G2];omega)
theorem Rc (s:List Shp) (f:Fld) (hp1:s.length≤1000):Fun Tryz.prog 92 [.agg [.seq .shp s],.agg (E6 f)] [] (.v (vB (G2 f (s.length:Int)))) []:=by
 have hN:Bj=274877906944:=rfl
 refine Ar Tryz.func92 Q4 Q4 (w:=let z1:=(s.length:Int);let z2:S:= .v (vB (Ak f.msg 0 (z1-1)));let z4:S:= .v (vB (G2 f z1));let z3:=Lf (.v (vB false)) z4 [] [];let z5:=Lf (.v (vB (decide (f.msg=(-1))))) z4 [] [];let z6:=C7 f.number;(.seg [.call [] (.v (vB z6)) []] (.br (.leaf () []) (.seg [.call [] (.v (vB (D4 f.kind))) []] (.br (.leaf () []) (.br (.br (.leaf () []) (.seg [.call [] (.v (vB (Cw f.kind))) []] (.br (.leaf () []) (.br (.seg [.as 38 (.v (vI (z1-1))),.call [] z2 []] (.leaf () [])) (.leaf () []))))) (.br (.seg [.as 38 (.v (vI (z1-1))),.call [] z2 []] (.leaf () [])) (.leaf () [])))))),(Fp 156 [vI f.number] [] (.v (vB z6)) [])∧Bc (!z6) z3 ((Fp 157 [vI f.kind] [] (.v (vB (D4 f.kind))) [])∧Bc (!(D4 f.kind)) z3 (Bc f.packed (Bc (!f.rep) z3 ((Fp 158 [vI f.kind] [] (.v (vB (Cw f.kind))) [])∧Bc (!(Cw f.kind)) z3 (Bc (decide (f.kind=8)) ((wI (z1-1))∧(Fp 44 [vI f.msg,vI 0,vI (z1-1)] [] z2 [])∧Lf z2 z4 [] []) z5))) (Bc (decide (f.kind=8)) ((wI (z1-1))∧(Fp 44 [vI f.msg,vI 0,vI (z1-1)] [] z2 [])∧Lf z2 z4 [] []) z5))))) Q4 ?_
 refine⟨(U8 _),fun h1=>have q1:=Ao h1;?_,fun h1=>have q1:=An h1;?_⟩
 refine⟨(sB ?_),rfl⟩
 rotate_left
 refine⟨(Sn _),fun h2=>have q2:=Ao h2;have p2:=Aw q2;?_,fun h2=>have q2:=An h2;have p2:=Aq q2;?_⟩
 refine⟨(sB ?_),rfl⟩
 rotate_left
 refine⟨fun h3=>?_,fun h3=>?_⟩
 refine⟨fun h4=>have q4:=Ao h4;?_,fun h4=>have q4:=An h4;?_⟩
 refine⟨(sB ?_),rfl⟩
 rotate_left
 refine⟨(Kr _),fun h5=>have q5:=Ao h5;have p5:=Aw q5;?_,fun h5=>have q5:=An h5;have p5:=Aq q5;?_⟩
 refine⟨(sB ?_),rfl⟩
 rotate_left
 refine dsp (fun h6 p6=>?_) fun h6 p6=>?_
 refine⟨(Ac Q2 Q2),(Ba _ _ _),(sB ?_),rfl⟩
 rotate_left
 refine⟨(sB ?_),rfl⟩
 rotate_left
 refine dsp (fun h4 p4=>?_) fun h4 p4=>?_
 refine⟨(Ac Q2 Q2),(Ba _ _ _),(sB ?_),rfl⟩
 rotate_left
 refine⟨(sB ?_),rfl⟩
 rotate_left
 all_goals first|(simp[G2, *];done)|(simp_all[G2];done)|(simp_all[G2];omega)|(rw[Bool.eq_iff_iff];simp_all[G2];omega)
structure F3 where
 id:Int
 v:Nat
def Hm (s:List Shp):Fam:=⟨F3,fun q1=>[(1,.v (vP 0)),(3,.v (vI q1.id)),(14,.v (.c (.seq .shp s))),(15,.v (vI (s.length:Int))),(16,.v (vI (q1.v:Int)))],fun _=>[.cells [.seq .shp s]],fun q1=>q1.v≤s.length∧Dy (s.length:Int) q1.id (List.drop q1.v s)=Dy (s.length:Int) 0 s,fun q1=>s.length-q1.v⟩
structure Hn where
 number:Int
 v:Nat
def F4 (s:List Shp) (q1:F3) (x1:Shp):Fam:=⟨Hn,fun q2=>[(1,.v (vP 0)),(5,.v (vP 1)),(6,.v (vI q2.number)),(14,.v (.c (.seq .shp s))),(15,.v (vI (s.length:Int))),(16,.v (vI (q1.v:Int))),(36,.v (.c (.seq .fld x1.fields))),(37,.v (vI (x1.fields.length:Int))),(38,.v (vI (q2.v:Int)))],fun _=>[.cells [.seq .shp s],.cells (Aew x1)],fun q2=>q2.v≤x1.fields.length∧Cx (s.length:Int) q2.number (List.drop q2.v x1.fields)=Cx (s.length:Int) 0 x1.fields,fun q2=>x1.fields.length-q2.v⟩
theorem Z4 (s:List Shp):Fun Tryz.prog 96 [.agg [.seq .shp s]] [] (.v (vB (Dc s))) []:=by
 have hN:Bj=274877906944:=rfl
 refine Ar Tryz.func96 Q4 Q4 (w:=let z7:=(s.length:Int);let z8:=Lf (.v (vB false)) (.v (vB (Dc s))) [] [];let z9:=Hm s;(.br (.leaf () []) (.seg [.at 0,.keep [1,3,14,15,16],.sel [0]] (.loop z9 fun q1=> .br (.intro (Sx (s[q1.v]?)) fun x1=> .seg [.el .shp x1] (.br (.leaf () []) (.br (.leaf () []) (.br (.leaf () []) (.seg [.at 0,.keep [1,5,6,14,15,16,36,37,38],.sel [0,1]] (.loop (F4 s q1 x1) fun q2=> .br (.intro (Sx (x1.fields[q2.v]?)) fun x2=> .seg [.el .fld x2,.call [] (.v (vB (decide (q2.number<(x2).number)&&G2 x2 z7))) []] (.br (.leaf () []) (.seg [.as 51 (.v (vI ((q2.v:Int)+1))),.at 0,.keep [1,5,6,14,15,16,36,37,38],.sel [0,1]] (.next)))) (.seg [.as 54 (.v (vI ((q1.v:Int)+1))),.at 0,.keep [1,3,14,15,16],.sel [0]] (.next)))))))) (.leaf () []))),Bc (decide (6<z7)) z8 (z9.Has [(1,.v (vP 0)),(3,.v (vI 0)),(14,.v (.c (.seq .shp s))),(15,.v (vI z7)),(16,.v (vI 0))] [.cells [.seq .shp s]]∧∀q1,z9.inv q1→(let z6:=(q1.v:Int);Bc (decide (z6<z7)) (El (s[q1.v]?) fun x1=>(let z3:=(x1.fields.length:Int);let z4:=F4 s q1 x1;let z5:List Blk:=[.cells [.seq .shp s],.cells (Aew x1)];(s[q1.v]? =some x1)∧((0:Int)≤z6)∧Bc (decide (x1.id≤q1.id)) z8 (Bc (decide (99<x1.id)) z8 (Bc (decide (8<z3)) z8 (z4.Has [(1,.v (vP 0)),(5,.v (vP 1)),(6,.v (vI 0)),(14,.v (.c (.seq .shp s))),(15,.v (vI z7)),(16,.v (vI z6)),(36,.v (.c (.seq .fld x1.fields))),(37,.v (vI z3)),(38,.v (vI 0))] z5∧∀q2,z4.inv q2→(let z2:=(q2.v:Int);Bc (decide (z2<z3)) (El (x1.fields[q2.v]?) fun x2=>(let z1:=decide (q2.number<(x2).number)&&G2 x2 z7;(x1.fields[q2.v]? =some x2)∧((0:Int)≤z2)∧(Fp 160 [.agg (E6 x2),vI q2.number,vI z7] [] (.v (vB z1)) [])∧Bc (!z1) z8 ((wI (z2+1))∧z4.Nxt q2 [(1,.v (vP 0)),(5,.v (vP 1)),(6,.v (vI x2.number)),(14,.v (.c (.seq .shp s))),(15,.v (vI z7)),(16,.v (vI z6)),(36,.v (.c (.seq .fld x1.fields))),(37,.v (vI z3)),(38,.v (vI (z2+1)))] z5))) ((wI (z6+1))∧z9.Nxt q1 [(1,.v (vP 0)),(3,.v (vI x1.id)),(14,.v (.c (.seq .shp s))),(15,.v (vI z7)),(16,.v (vI (z6+1)))] [.cells [.seq .shp s]]))))))) (Lf (.v (vB true)) (.v (vB (Dc s))) [] []))))) Q4 ?_
 refine dsp (fun h1 p1=>?_) fun h1 p1=>?_
 refine⟨(sB ?_),rfl⟩
 rotate_left
 refine⟨Bh (j:=(⟨0,0⟩:F3)) Q9 rfl (by dsimp only[Hm];exact⟨by omega,rfl⟩),fun (q1:F3) hq_q1=>?_⟩
 have hi_q1:q1.v≤s.length∧Dy (s.length:Int) q1.id (List.drop q1.v s)=Dy (s.length:Int) 0 s:=hq_q1
 obtain ⟨v1,v2⟩:=hi_q1
 refine dsp (fun h2 p2=>?_) fun h2 p2=>?_
 refine⟨(Bg (l:=s) (i:=q1.v) Q2),fun x1 hx1=>?_⟩
 rw[Ff hx1,Dy] at v2
 refine⟨hx1,Q2,dsp (fun h3 p3=>?_) fun h3 p3=>?_⟩
 refine⟨(sB ?_),rfl⟩
 rotate_left
 refine dsp (fun h4 p4=>?_) fun h4 p4=>?_
 refine⟨(sB ?_),rfl⟩
 rotate_left
 refine dsp (fun h5 p5=>?_) fun h5 p5=>?_
 refine⟨(sB ?_),rfl⟩
 rotate_left
 refine⟨Bh (j:=(⟨0,0⟩:Hn)) Q9 rfl (by dsimp only[F4];exact⟨by omega,rfl⟩),fun (q2:Hn) hq_q2=>?_⟩
 have hi_q2:q2.v≤x1.fields.length∧Cx (s.length:Int) q2.number (List.drop q2.v x1.fields)=Cx (s.length:Int) 0 x1.fields:=hq_q2
 obtain ⟨w1,w2⟩:=hi_q2
 refine dsp (fun h6 p6=>?_) fun h6 p6=>?_
 refine⟨(Bg (l:=x1.fields) (i:=q2.v) Q2),fun x2 hx2=>?_⟩
 rw[Ff hx2,Cx] at w2
 refine⟨hx2,Q2,(Afq x2 _ _ Q2),fun h7=>have q7:=Ao h7;have p7:=(Cc dT Iff.rfl).1 q7;?_,fun h7=>have q7:=An h7;have p7:=(Cb dT Iff.rfl).1 q7;?_⟩
 refine⟨(sB ?_),rfl⟩
 rotate_left
 exact⟨(Ac Q2 Q2),Bb (j:=(⟨x2.number,q2.v+1⟩:Hn)) Q9 rfl (by dsimp only[F4];exact⟨by omega,by grind[Cx]⟩) (by dsimp only[F4];omega)⟩
 rw[Jx p6] at w2
 exact⟨(Ac Q2 Q2),Bb (j:=(⟨x1.id,q1.v+1⟩:F3)) Q9 rfl (by dsimp only[Hm];exact⟨by omega,by grind[Dy,Cx]⟩) (by dsimp only[Hm];omega)⟩
 rw[Jx p2] at v2
 refine⟨(sB ?_),rfl⟩
 rotate_left
 all_goals grind[Dc,Dy,Cx]
structure Ey where
 i:Nat
 pv:Int
def F5 (s:List Shp):Fam:=⟨Ey,fun q1=>[(1,.v (vP 0)),(3,.v (vI (q1.i:Int)))],fun _=>[.cells [.seq .shp s]],fun q1=>q1.i≤s.length∧(0:Int)≤q1.pv∧(q1.i=0→q1.pv=0)∧(∀y,0<q1.i→s[Int.toNat ((q1.i:Int)-1)]? =some y→q1.pv=y.id)∧Dy (s.length:Int) q1.pv (List.drop q1.i s)=Dy (s.length:Int) 0 s,fun q1=>s.length-q1.i⟩
structure Dd where
 k:Nat
 pv:Int
def Cy (s:List Shp) (q1:Ey) (x1:Shp):Fam:=⟨Dd,fun q2=>[(1,.v (vP 0)),(3,.v (vI (q1.i:Int))),(4,.v (vP 1)),(5,.v (vI (q2.k:Int)))],fun _=>[.cells [.seq .shp s],.cells (Aew x1)],fun q2=>q2.k≤x1.fields.length∧(0:Int)≤q2.pv∧(q2.k=0→q2.pv=0)∧(∀y,0<q2.k→x1.fields[Int.toNat ((q2.k:Int)-1)]? =some y→q2.pv=y.number)∧Cx (s.length:Int) q2.pv (List.drop q2.k x1.fields)=Cx (s.length:Int) 0 x1.fields,fun q2=>x1.fields.length-q2.k⟩
theorem Z5 (s:List Shp):Fun Tryz.prog 43 [.agg [.seq .shp s]] [] (.v (vB (Dc s))) []:=by
 have hN:Bj=274877906944:=rfl
 refine Ar Tryz.func43 Q4 Q4 (w:=let z25:=(s.length:Int);let z26:S:= .v (vB (Dc s));let z27:S:= .v (vB false);let z24:=Lf z27 z26 [] [];let z28:=F5 s;let z29:=os 28 [6];(.br (.leaf () []) (.seg [.at 0,.keep [1,3],.sel [0]] (.loop z28 fun q1=>let z21:=(q1.i:Int);.br (.intro (Sx (s[q1.i]?)) fun x1=>let z15:S:= .v (vB (Ak x1.id 1 99));.seg [.el .shp x1] (.case (!(Ak x1.id 1 99)) (.seg [.ord (os 26 [2]) [],.call [] z15 [],.br true] (.leaf () [])) (.case (decide (0<z21)) (.intro (Sx (s[Int.toNat (z21-1)]?)) fun x2=> .case (decide (x1.id≤x2.id)) (.seg [.ord (os 26 [2]) [],.call [] z15 [],.br false,.br true,.as 33 (.v (vI (z21-1))),.el .shp x2,.br true] (.leaf () [])) (.seg [.ord (os 26 [2]) [],.call [] z15 [],.br false,.br true,.as 33 (.v (vI (z21-1))),.el .shp x2,.br false] (.br (.leaf () []) (.seg [.at 0,.keep [1,3,4,5],.sel [0,1]] (.loop (Cy s q1 x1) fun q2=>let z5:=(q2.k:Int);.br (.intro (Sx (x1.fields[q2.k]?)) fun x3=>let z2:=G2 x3 z25;.case (!z2) (.seg [.ord z29 [],.el .fld x3,.call [] (.v (vB z2)) [],.br true] (.leaf () [])) (.case (decide (0<z5)) (.intro (Sx (x1.fields[Int.toNat (z5-1)]?)) fun x4=> .seg [.ord z29 [],.el .fld x3,.call [] (.v (vB z2)) [],.br false,.br true,.as 70 (.v (vI (z5-1))),.el .fld x4,.el .fld x3] (.br (.leaf () []) (.seg [.as 54 (.v (vI (z5+1))),.at 0,.keep [1,3,4,5],.sel [0,1]] (.next)))) (.seg [.ord z29 [],.el .fld x3,.call [] (.v (vB z2)) [],.br false,.br false,.as 54 (.v (vI (z5+1))),.at 0,.keep [1,3,4,5],.sel [0,1]] (.next)))) (.seg [.as 16 (.v (vI (z21+1))),.at 0,.keep [1,3],.sel [0]] (.next))))))) (.seg [.ord (os 26 [2]) [],.call [] z15 [],.br false,.br false] (.br (.leaf () []) (.seg [.at 0,.keep [1,3,4,5],.sel [0,1]] (.loop (Cy s q1 x1) fun q2=>let z13:=(q2.k:Int);.br (.intro (Sx (x1.fields[q2.k]?)) fun x2=>let z10:=G2 x2 z25;.case (!z10) (.seg [.ord z29 [],.el .fld x2,.call [] (.v (vB z10)) [],.br true] (.leaf () [])) (.case (decide (0<z13)) (.intro (Sx (x1.fields[Int.toNat (z13-1)]?)) fun x3=> .seg [.ord z29 [],.el .fld x2,.call [] (.v (vB z10)) [],.br false,.br true,.as 70 (.v (vI (z13-1))),.el .fld x3,.el .fld x2] (.br (.leaf () []) (.seg [.as 54 (.v (vI (z13+1))),.at 0,.keep [1,3,4,5],.sel [0,1]] (.next)))) (.seg [.ord z29 [],.el .fld x2,.call [] (.v (vB z10)) [],.br false,.br false,.as 54 (.v (vI (z13+1))),.at 0,.keep [1,3,4,5],.sel [0,1]] (.next)))) (.seg [.as 16 (.v (vI (z21+1))),.at 0,.keep [1,3],.sel [0]] (.next))))))))) (.leaf () []))),Bc (decide (6<z25)) z24 (z28.Has [(1,.v (vP 0)),(3,.v (vI 0))] [.cells [.seq .shp s]]∧∀q1,z28.inv q1→(let z22:=(q1.i:Int);let z23:=(wI (z22+1))∧z28.Nxt q1 [(1,.v (vP 0)),(3,.v (vI (z22+1)))] [.cells [.seq .shp s]];Bc (decide (z22<z25)) (El (s[q1.i]?) fun x1=>(let z16:List Blk:=[.cells [.seq .shp s],.cells (Aew x1)];let z17:=Cy s q1 x1;let z18:=Ak x1.id 1 99;let z19:=(x1.fields.length:Int);let z20:List V:=[vI x1.id,vI 1,vI 99];(s[q1.i]? =some x1)∧((0:Int)≤z22)∧Bc (!z18) ((Fp 44 z20 [] (.v (vB z18)) [])∧((!z18)=true)∧Lf z27 z26 [] []) (Bc (decide (0<z22)) (El (s[Int.toNat (z22-1)]?) fun x2=>(let z7:=s[Int.toNat (z22-1)]? =some x2;let z8:=decide (x1.id≤x2.id);Bc z8 ((Fp 44 z20 [] (.v (vB z18)) [])∧((!z18)=false)∧((decide (0<z22))=true)∧(wI (z22-1))∧(wI (z22-1))∧z7∧((0:Int)≤z22-1)∧z7∧((0:Int)≤z22-1)∧(z8=true)∧Lf z27 z26 [] []) ((Fp 44 z20 [] (.v (vB z18)) [])∧((!z18)=false)∧((decide (0<z22))=true)∧(wI (z22-1))∧(wI (z22-1))∧z7∧((0:Int)≤z22-1)∧z7∧((0:Int)≤z22-1)∧(z8=false)∧Bc (decide (8<z19)) z24 (z17.Has [(1,.v (vP 0)),(3,.v (vI z22)),(4,.v (vP 1)),(5,.v (vI 0))] z16∧∀q2,z17.inv q2→(let z6:=(q2.k:Int);Bc (decide (z6<z19)) (El (x1.fields[q2.k]?) fun x3=>(let z3:=G2 x3 z25;let z4:=x1.fields[q2.k]? =some x3;Bc (!z3) (z4∧((0:Int)≤z6)∧z4∧((0:Int)≤z6)∧(Fp 92 [.agg [.seq .shp s],.agg (E6 x3)] [] (.v (vB z3)) [])∧((!z3)=true)∧Lf z27 z26 [] []) (Bc (decide (0<z6)) (El (x1.fields[Int.toNat (z6-1)]?) fun x4=>(let z1:=x1.fields[Int.toNat (z6-1)]? =some x4;z4∧((0:Int)≤z6)∧z4∧((0:Int)≤z6)∧(Fp 92 [.agg [.seq .shp s],.agg (E6 x3)] [] (.v (vB z3)) [])∧((!z3)=false)∧((decide (0<z6))=true)∧(wI (z6-1))∧(wI (z6-1))∧z1∧((0:Int)≤z6-1)∧z1∧((0:Int)≤z6-1)∧z4∧((0:Int)≤z6)∧z4∧((0:Int)≤z6)∧Bc (decide (x3.number≤x4.number)) z24 ((wI (z6+1))∧z17.Nxt q2 [(1,.v (vP 0)),(3,.v (vI z22)),(4,.v (vP 1)),(5,.v (vI (z6+1)))] z16))) (z4∧((0:Int)≤z6)∧z4∧((0:Int)≤z6)∧(Fp 92 [.agg [.seq .shp s],.agg (E6 x3)] [] (.v (vB z3)) [])∧((!z3)=false)∧((decide (0<z6))=false)∧(wI (z6+1))∧z17.Nxt q2 [(1,.v (vP 0)),(3,.v (vI z22)),(4,.v (vP 1)),(5,.v (vI (z6+1)))] z16)))) z23))))) ((Fp 44 z20 [] (.v (vB z18)) [])∧((!z18)=false)∧((decide (0<z22))=false)∧Bc (decide (8<z19)) z24 (z17.Has [(1,.v (vP 0)),(3,.v (vI z22)),(4,.v (vP 1)),(5,.v (vI 0))] z16∧∀q2,z17.inv q2→(let z14:=(q2.k:Int);Bc (decide (z14<z19)) (El (x1.fields[q2.k]?) fun x2=>(let z11:=G2 x2 z25;let z12:=x1.fields[q2.k]? =some x2;Bc (!z11) (z12∧((0:Int)≤z14)∧z12∧((0:Int)≤z14)∧(Fp 92 [.agg [.seq .shp s],.agg (E6 x2)] [] (.v (vB z11)) [])∧((!z11)=true)∧Lf z27 z26 [] []) (Bc (decide (0<z14)) (El (x1.fields[Int.toNat (z14-1)]?) fun x3=>(let z9:=x1.fields[Int.toNat (z14-1)]? =some x3;z12∧((0:Int)≤z14)∧z12∧((0:Int)≤z14)∧(Fp 92 [.agg [.seq .shp s],.agg (E6 x2)] [] (.v (vB z11)) [])∧((!z11)=false)∧((decide (0<z14))=true)∧(wI (z14-1))∧(wI (z14-1))∧z9∧((0:Int)≤z14-1)∧z9∧((0:Int)≤z14-1)∧z12∧((0:Int)≤z14)∧z12∧((0:Int)≤z14)∧Bc (decide (x2.number≤x3.number)) z24 ((wI (z14+1))∧z17.Nxt q2 [(1,.v (vP 0)),(3,.v (vI z22)),(4,.v (vP 1)),(5,.v (vI (z14+1)))] z16))) (z12∧((0:Int)≤z14)∧z12∧((0:Int)≤z14)∧(Fp 92 [.agg [.seq .shp s],.agg (E6 x2)] [] (.v (vB z11)) [])∧((!z11)=false)∧((decide (0<z14))=false)∧(wI (z14+1))∧z17.Nxt q2 [(1,.v (vP 0)),(3,.v (vI z22)),(4,.v (vP 1)),(5,.v (vI (z14+1)))] z16)))) z23)))))) (Lf (.v (vB true)) z26 [] []))))) Q4 ?_
 refine dsp (fun h1 p1=>?_) fun h1 p1=>?_
 exact⟨(congrArg S.v (congrArg V.c (congrArg C.bool Q57))),rfl⟩
 refine⟨Bh (j:=(⟨0,0⟩:Ey)) Q9 rfl (by dsimp only[F5];exact⟨by omega,by omega,by omega,by omega,rfl⟩),fun (q1:Ey) hq_q1=>?_⟩
 have hi_q1:q1.i≤s.length∧(0:Int)≤q1.pv∧(q1.i=0→q1.pv=0)∧(∀y,0<q1.i→s[Int.toNat ((q1.i:Int)-1)]? =some y→q1.pv=y.id)∧Dy (s.length:Int) q1.pv (List.drop q1.i s)=Dy (s.length:Int) 0 s:=hq_q1
 obtain ⟨v1,v2,v3,v4,v5⟩:=hi_q1
 refine dsp (fun h2 p2=>?_) fun h2 p2=>?_
 refine⟨(Bg (l:=s) (i:=q1.i) Q2),fun x1 hx1=>?_⟩
 rw[Ff hx1,Dy] at v5
 refine⟨hx1,Q2,fun h3=>have q3:=Ao h3;have p3:=Aw q3;?_,fun h3=>have q3:=An h3;have p3:=Aq q3;?_⟩
 exact⟨(Ba _ _ _),h3,(congrArg S.v (congrArg V.c (congrArg C.bool Q57))),rfl⟩
 refine dsp (fun h4 p4=>?_) fun h4 p4=>?_
 refine⟨(Bg (l:=s) (i:=Int.toNat ((q1.i:Int)-1)) Q2),fun x2 hx2=>?_⟩
 have hy:=v4 _ (by omega) hx2
 refine dsp (fun h5 p5=>?_) fun h5 p5=>?_
 exact⟨(Ba _ _ _),h3,h4,(Ac Q2 Q2),(Ac Q2 Q2),hx2,Q2,hx2,Q2,h5,(congrArg S.v (congrArg V.c (congrArg C.bool Q57))),rfl⟩
 refine⟨(Ba _ _ _),h3,h4,(Ac Q2 Q2),(Ac Q2 Q2),hx2,Q2,hx2,Q2,h5,dsp (fun h6 p6=>?_) fun h6 p6=>?_⟩
 exact⟨(congrArg S.v (congrArg V.c (congrArg C.bool Q57))),rfl⟩
 refine⟨Bh (j:=(⟨0,0⟩:Dd)) Q9 rfl (by dsimp only[Cy];exact⟨by omega,by omega,by omega,by omega,rfl⟩),fun (q2:Dd) hq_q2=>?_⟩
 have hi_q2:q2.k≤x1.fields.length∧(0:Int)≤q2.pv∧(q2.k=0→q2.pv=0)∧(∀y,0<q2.k→x1.fields[Int.toNat ((q2.k:Int)-1)]? =some y→q2.pv=y.number)∧Cx (s.length:Int) q2.pv (List.drop q2.k x1.fields)=Cx (s.length:Int) 0 x1.fields:=hq_q2
 obtain ⟨w1,w2,w3,w4,w5⟩:=hi_q2
 refine dsp (fun h7 p7=>?_) fun h7 p7=>?_
 refine⟨(Bg (l:=x1.fields) (i:=q2.k) Q2),fun x3 hx3=>?_⟩
 rw[Ff hx3,Cx] at w5
 refine⟨fun h8=>have q8:=Ao h8;?_,fun h8=>have q8:=An h8;have p8:=X5 q8;?_⟩
 exact⟨hx3,Q2,hx3,Q2,(Rc s x3 Q2),h8,(congrArg S.v (congrArg V.c (congrArg C.bool Q57))),rfl⟩
 refine dsp (fun h9 p9=>?_) fun h9 p9=>?_
 refine⟨(Bg (l:=x1.fields) (i:=Int.toNat ((q2.k:Int)-1)) Q2),fun x4 hx4=>?_⟩
 have hz:=w4 _ (by omega) hx4
 refine⟨hx3,Q2,hx3,Q2,(Rc s x3 Q2),h8,h9,(Ac Q2 Q2),(Ac Q2 Q2),hx4,Q2,hx4,Q2,hx3,Q2,hx3,Q2,dsp (fun h10 p10=>?_) fun h10 p10=>?_⟩
 exact⟨(congrArg S.v (congrArg V.c (congrArg C.bool Q57))),rfl⟩
 exact⟨(Ac Q2 Q2),Bb (j:=(⟨q2.k+1,x3.number⟩:Dd)) Q9 rfl Q48 (by dsimp only[Cy];omega)⟩
 exact⟨hx3,Q2,hx3,Q2,(Rc s x3 Q2),h8,h9,(Ac Q2 Q2),Bb (j:=(⟨q2.k+1,x3.number⟩:Dd)) Q9 rfl Q48 (by dsimp only[Cy];omega)⟩
 rw[Jx p7,Cx] at w5
 exact⟨(Ac Q2 Q2),Bb (j:=(⟨q1.i+1,x1.id⟩:Ey)) Q9 rfl Q41 (by dsimp only[F5];omega)⟩
 refine⟨(Ba _ _ _),h3,h4,dsp (fun h5 p5=>?_) fun h5 p5=>?_⟩
 exact⟨(congrArg S.v (congrArg V.c (congrArg C.bool Q57))),rfl⟩
 refine⟨Bh (j:=(⟨0,0⟩:Dd)) Q9 rfl (by dsimp only[Cy];exact⟨by omega,by omega,by omega,by omega,rfl⟩),fun (q2:Dd) hq_q2=>?_⟩
 have hi_q2:q2.k≤x1.fields.length∧(0:Int)≤q2.pv∧(q2.k=0→q2.pv=0)∧(∀y,0<q2.k→x1.fields[Int.toNat ((q2.k:Int)-1)]? =some y→q2.pv=y.number)∧Cx (s.length:Int) q2.pv (List.drop q2.k x1.fields)=Cx (s.length:Int) 0 x1.fields:=hq_q2
 obtain ⟨w1,w2,w3,w4,w5⟩:=hi_q2
 refine dsp (fun h6 p6=>?_) fun h6 p6=>?_
 refine⟨(Bg (l:=x1.fields) (i:=q2.k) Q2),fun x2 hx2=>?_⟩
 rw[Ff hx2,Cx] at w5
 refine⟨fun h7=>have q7:=Ao h7;?_,fun h7=>have q7:=An h7;have p7:=X5 q7;?_⟩
 exact⟨hx2,Q2,hx2,Q2,(Rc s x2 Q2),h7,(congrArg S.v (congrArg V.c (congrArg C.bool Q57))),rfl⟩
 refine dsp (fun h8 p8=>?_) fun h8 p8=>?_
 refine⟨(Bg (l:=x1.fields) (i:=Int.toNat ((q2.k:Int)-1)) Q2),fun x3 hx3=>?_⟩
 have hz:=w4 _ (by omega) hx3
 refine⟨hx2,Q2,hx2,Q2,(Rc s x2 Q2),h7,h8,(Ac Q2 Q2),(Ac Q2 Q2),hx3,Q2,hx3,Q2,hx2,Q2,hx2,Q2,dsp (fun h9 p9=>?_) fun h9 p9=>?_⟩
 exact⟨(congrArg S.v (congrArg V.c (congrArg C.bool Q57))),rfl⟩
 exact⟨(Ac Q2 Q2),Bb (j:=(⟨q2.k+1,x2.number⟩:Dd)) Q9 rfl Q49 (by dsimp only[Cy];omega)⟩
 exact⟨hx2,Q2,hx2,Q2,(Rc s x2 Q2),h7,h8,(Ac Q2 Q2),Bb (j:=(⟨q2.k+1,x2.number⟩:Dd)) Q9 rfl Q49 (by dsimp only[Cy];omega)⟩
 rw[Jx p6,Cx] at w5
 exact⟨(Ac Q2 Q2),Bb (j:=(⟨q1.i+1,x1.id⟩:Ey)) Q9 rfl Q41 (by dsimp only[F5];omega)⟩
 rw[Jx p2,Dy] at v5
 exact⟨(congrArg S.v (congrArg V.c (congrArg C.bool Q57))),rfl⟩
structure J4 where
 v:Nat
def G4 (n:Int) (x1:Shp):Fam:=⟨J4,fun q1=>[(2,.v (vI n)),(6,.v (vP 0)),(23,.v (.c (.seq .fld x1.fields))),(24,.v (vI (x1.fields.length:Int))),(25,.v (vI (q1.v:Int)))],fun _=>[.cells [.int .i64 0,.int .i64 0,.bool false,.bool false,.int .i64 0]],fun q1=>q1.v≤x1.fields.length∧Fg (List.drop q1.v x1.fields) n=Fg x1.fields n,fun q1=>x1.fields.length-q1.v⟩
theorem Tt (s:List Shp) (sh:Int) (n:Int) (hp1:s.length≤1000) (hp2: ∀x∈s,x.fields.length≤1000):Fun Tryz.prog 165 [.agg [.seq .shp s],vI sh,vI n] [] (.tup [.agg (E6 ((fieldAt s sh n).getD fld0)),vB (fieldAt s sh n).isSome]) []:=by
 have hN:Bj=274877906944:=rfl
 refine Ar Tryz.func165 Q4 Q4 (w:=let z4:List C:=[.int .i64 0,.int .i64 0,.bool false,.bool false,.int .i64 0];let z5:=(s.length:Int)-1;let z6:S:= .tup [.agg (E6 ((fieldAt s sh n).getD fld0)),vB (fieldAt s sh n).isSome];let z7:=Lf (.tup [.agg z4,vB false]) z6 [] [];(.seg [.as 14 (.v (vI z5)),.call [] (.v (vB (Ak sh 0 z5))) []] (.br (.leaf () []) (.intro (Sx (s[sh.toNat]?)) fun x1=> .seg [.el .shp x1,.at 0,.keep [2,6,23,24,25],.sel [1]] (.loop (G4 n x1) fun q1=> .br (.intro (Sx (x1.fields[q1.v]?)) fun x2=> .seg [.el .fld x2] (.br (.leaf () []) (.seg [.as 34 (.v (vI ((q1.v:Int)+1))),.at 0,.keep [2,6,23,24,25],.sel [0]] (.next)))) (.leaf () [])))),(wI z5)∧(Fp 97 [vI sh,vI 0,vI z5] [] (.v (vB (Ak sh 0 z5))) [])∧Bc (!(Ak sh 0 z5)) z7 (El (s[sh.toNat]?) fun x1=>(let z2:=(x1.fields.length:Int);let z3:=G4 n x1;(s[sh.toNat]? =some x1)∧((0:Int)≤sh)∧z3.Has [(2,.v (vI n)),(6,.v (vP 0)),(23,.v (.c (.seq .fld x1.fields))),(24,.v (vI z2)),(25,.v (vI 0))] [.cells z4]∧∀q1,z3.inv q1→(let z1:=(q1.v:Int);Bc (decide (z1<z2)) (El (x1.fields[q1.v]?) fun x2=>((x1.fields[q1.v]? =some x2)∧((0:Int)≤z1)∧Bc (decide (x2.number=n)) (Lf (.tup [.agg (E6 x2),vB true]) z6 [] []) ((wI (z1+1))∧z3.Nxt q1 [(2,.v (vI n)),(6,.v (vP 0)),(23,.v (.c (.seq .fld x1.fields))),(24,.v (vI z2)),(25,.v (vI (z1+1)))] [.cells z4]))) z7))))) Q4 ?_
 refine⟨(Ac Q2 Q2),(B8 _ _ _),fun h1=>have q1:=Ao h1;have p1:=Aw q1;?_,fun h1=>have q1:=An h1;have p1:=Aq q1;?_⟩
 refine zE ((fieldAt s sh n).getD fld0) (⟨0,0,false,false,0⟩:Fld) (fun hm1=>⟨(congrArg S.tup (Ag (congrArg V.agg (Ag (congrArg (C.int .i64) ?_) (Ag (congrArg (C.int .i64) ?_) (Ag (congrArg C.bool ?_) (Ag (congrArg C.bool ?_) (Ag (congrArg (C.int .i64) ?_) rfl)))))) (Ag (congrArg V.c (congrArg C.bool ?_)) rfl))),rfl⟩) ?_
 rotate_left 7
 have q1_:=q1
 refine⟨(Bg (l:=s) (i:=sh.toNat) Q2),fun x1 hx1=>?_⟩
 have hfa:=U6 (n:=n) q1_ hx1
 have hfl:=hp2 x1 (List.mem_of_getElem? hx1)
 refine⟨hx1,Q2,Bh (j:=(⟨0⟩:J4)) Q9 rfl (by dsimp only[G4];exact⟨by omega,by simp⟩),fun (q1:J4) hq_q1=>?_⟩
 have hi_q1:q1.v≤x1.fields.length∧Fg (List.drop q1.v x1.fields) n=Fg x1.fields n:=hq_q1
 obtain ⟨v1,v2⟩:=hi_q1
 refine dsp (fun h2 p2=>?_) fun h2 p2=>?_
 refine⟨(Bg (l:=x1.fields) (i:=q1.v) Q2),fun x2 hx2=>?_⟩
 rw[Ff hx2,Rz] at v2
 refine⟨hx2,Q2,dsp (fun h3 p3=>?_) fun h3 p3=>?_⟩
 refine zE ((fieldAt s sh n).getD fld0) x2 (fun hm1=>⟨(congrArg S.tup (Ag (congrArg V.agg (Ag (congrArg (C.int .i64) ?_) (Ag (congrArg (C.int .i64) ?_) (Ag (congrArg C.bool ?_) (Ag (congrArg C.bool ?_) (Ag (congrArg (C.int .i64) ?_) rfl)))))) (Ag (congrArg V.c (congrArg C.bool ?_)) rfl))),rfl⟩) ?_
 rotate_left 7
 exact⟨(Ac Q2 Q2),Bb (j:=(⟨q1.v+1⟩:J4)) Q9 rfl (by dsimp only[G4];exact⟨by omega,by grind⟩) (by dsimp only[G4];omega)⟩
 rw[Jx p2] at v2
 refine zE ((fieldAt s sh n).getD fld0) (⟨0,0,false,false,0⟩:Fld) (fun hm1=>⟨(congrArg S.tup (Ag (congrArg V.agg (Ag (congrArg (C.int .i64) ?_) (Ag (congrArg (C.int .i64) ?_) (Ag (congrArg C.bool ?_) (Ag (congrArg C.bool ?_) (Ag (congrArg (C.int .i64) ?_) rfl)))))) (Ag (congrArg V.c (congrArg C.bool ?_)) rfl))),rfl⟩) ?_
 rotate_left 7
 all_goals grind[fieldAt,fld0,Fg]
structure J5 where
 i:Nat
def G5 (n:Int) (x1:Shp):Fam:=⟨J5,fun q1=>[(2,.v (vI n)),(6,.v (vP 0)),(8,.v (.c (.seq .fld x1.fields))),(9,.v (vI (q1.i:Int)))],fun _=>[.cells [.int .i64 0,.int .i64 0,.bool false,.bool false,.int .i64 0]],fun q1=>q1.i≤x1.fields.length∧Fg (List.drop q1.i x1.fields) n=Fg x1.fields n,fun q1=>x1.fields.length-q1.i⟩
theorem Tu (s:List Shp) (sh:Int) (n:Int) (hp1:s.length≤1000) (hp2: ∀x∈s,x.fields.length≤1000):Fun Tryz.prog 188 [.agg [.seq .shp s],vI sh,vI n] [] (.tup [.agg (E6 ((fieldAt s sh n).getD fld0)),vB (fieldAt s sh n).isSome]) []:=by
 have hN:Bj=274877906944:=rfl
 refine Ar Tryz.func188 Q4 Q4 (w:=let z3:List C:=[.int .i64 0,.int .i64 0,.bool false,.bool false,.int .i64 0];let z4:=(s.length:Int)-1;let z5:S:= .tup [.agg (E6 ((fieldAt s sh n).getD fld0)),vB (fieldAt s sh n).isSome];let z6:=Lf (.tup [.agg z3,vB false]) z5 [] [];(.seg [.as 14 (.v (vI z4)),.call [] (.v (vB (Ak sh 0 z4))) []] (.br (.leaf () []) (.intro (Sx (s[sh.toNat]?)) fun x1=> .seg [.el .shp x1,.at 0,.keep [2,6,8,9],.sel [1]] (.loop (G5 n x1) fun q1=> .br (.intro (Sx (x1.fields[q1.i]?)) fun x2=> .seg [.el .fld x2] (.br (.seg [.el .fld x2] (.leaf () [])) (.seg [.as 29 (.v (vI ((q1.i:Int)+1))),.at 0,.keep [2,6,8,9],.sel [0]] (.next)))) (.leaf () [])))),(wI z4)∧(Fp 44 [vI sh,vI 0,vI z4] [] (.v (vB (Ak sh 0 z4))) [])∧Bc (!(Ak sh 0 z4)) z6 (El (s[sh.toNat]?) fun x1=>(let z2:=G5 n x1;(s[sh.toNat]? =some x1)∧((0:Int)≤sh)∧z2.Has [(2,.v (vI n)),(6,.v (vP 0)),(8,.v (.c (.seq .fld x1.fields))),(9,.v (vI 0))] [.cells z3]∧∀q1,z2.inv q1→(let z1:=(q1.i:Int);Bc (decide (z1<(x1.fields.length:Int))) (El (x1.fields[q1.i]?) fun x2=>((x1.fields[q1.i]? =some x2)∧((0:Int)≤z1)∧Bc (decide (x2.number=n)) ((x1.fields[q1.i]? =some x2)∧((0:Int)≤z1)∧Lf (.tup [.agg (E6 x2),vB true]) z5 [] []) ((wI (z1+1))∧z2.Nxt q1 [(2,.v (vI n)),(6,.v (vP 0)),(8,.v (.c (.seq .fld x1.fields))),(9,.v (vI (z1+1)))] [.cells z3]))) z6))))) Q4 ?_
 refine⟨(Ac Q2 Q2),(Ba _ _ _),fun h1=>have q1:=Ao h1;have p1:=Aw q1;?_,fun h1=>have q1:=An h1;have p1:=Aq q1;?_⟩
 refine zE ((fieldAt s sh n).getD fld0) (⟨0,0,false,false,0⟩:Fld) (fun hm1=>⟨(congrArg S.tup (Ag (congrArg V.agg (Ag (congrArg (C.int .i64) ?_) (Ag (congrArg (C.int .i64) ?_) (Ag (congrArg C.bool ?_) (Ag (congrArg C.bool ?_) (Ag (congrArg (C.int .i64) ?_) rfl)))))) (Ag (congrArg V.c (congrArg C.bool ?_)) rfl))),rfl⟩) ?_
 rotate_left 7
 have q1_:=q1
 refine⟨(Bg (l:=s) (i:=sh.toNat) Q2),fun x1 hx1=>?_⟩
 have hfa:=U6 (n:=n) q1_ hx1
 have hfl:=hp2 x1 (List.mem_of_getElem? hx1)
 refine⟨hx1,Q2,Bh (j:=(⟨0⟩:J5)) Q9 rfl (by dsimp only[G5];exact⟨by omega,by simp⟩),fun (q1:J5) hq_q1=>?_⟩
 have hi_q1:q1.i≤x1.fields.length∧Fg (List.drop q1.i x1.fields) n=Fg x1.fields n:=hq_q1
 obtain ⟨v1,v2⟩:=hi_q1
 refine dsp (fun h2 p2=>?_) fun h2 p2=>?_
 refine⟨(Bg (l:=x1.fields) (i:=q1.i) Q2),fun x2 hx2=>?_⟩
 rw[Ff hx2,Rz] at v2
 refine⟨hx2,Q2,dsp (fun h3 p3=>?_) fun h3 p3=>?_⟩
 refine zE ((fieldAt s sh n).getD fld0) x2 (fun hm1=>⟨hx2,Q2,(congrArg S.tup (Ag (congrArg V.agg (Ag (congrArg (C.int .i64) ?_) (Ag (congrArg (C.int .i64) ?_) (Ag (congrArg C.bool ?_) (Ag (congrArg C.bool ?_) (Ag (congrArg (C.int .i64) ?_) rfl)))))) (Ag (congrArg V.c (congrArg C.bool ?_)) rfl))),rfl⟩) ?_
 rotate_left 7
 exact⟨(Ac Q2 Q2),Bb (j:=(⟨q1.i+1⟩:J5)) Q9 rfl (by dsimp only[G5];exact⟨by omega,by grind⟩) (by dsimp only[G5];omega)⟩
 rw[Jx p2] at v2
 refine zE ((fieldAt s sh n).getD fld0) (⟨0,0,false,false,0⟩:Fld) (fun hm1=>⟨(congrArg S.tup (Ag (congrArg V.agg (Ag (congrArg (C.int .i64) ?_) (Ag (congrArg (C.int .i64) ?_) (Ag (congrArg C.bool ?_) (Ag (congrArg C.bool ?_) (Ag (congrArg (C.int .i64) ?_) rfl)))))) (Ag (congrArg V.c (congrArg C.bool ?_)) rfl))),rfl⟩) ?_
 rotate_left 7
 all_goals grind[fieldAt,fld0,Fg]
theorem Adt (p:Pln):Fun Tryz.prog 46 [.agg (Mt p)] [] (.v (vB (Da p))) []:=by
 have hN:Bj=274877906944:=rfl
 refine Ar Tryz.func46 Q4 Q4 (w:=let z1:=(p.shapes.length:Int)-1;let z2:=Lf (.v (vB false)) (.v (vB (Da p))) [] [];let z3:S:= .v (vB (Ak p.most 0 2000));let z4:=Ak p.root 0 z1;let z5:=Dc p.shapes;let z6:=Ak p.deep 1 8;(.seg [.call [] (.v (vB z5)) []] (.br (.seg [.as 13 (.v (vI z1)),.call [] (.v (vB z4)) []] (.br (.seg [.call [] (.v (vB z6)) []] (.br (.seg [.call [] z3 []] (.leaf () [])) (.leaf () []))) (.leaf () []))) (.leaf () [])),(Fp 96 [.agg [.seq .shp p.shapes]] [] (.v (vB z5)) [])∧Bc z5 ((wI z1)∧(Fp 97 [vI p.root,vI 0,vI z1] [] (.v (vB z4)) [])∧Bc z4 ((Fp 97 [vI p.deep,vI 1,vI 8] [] (.v (vB z6)) [])∧Bc z6 ((Fp 97 [vI p.most,vI 0,vI 2000] [] z3 [])∧Lf z3 (.v (vB (Da p))) [] []) z2) z2) z2)) Q4 ?_
 refine⟨(Z4 p.shapes),fun h1=>have p1:=Qy h1;?_,fun h1=>?_⟩
 refine⟨(Ac Q2 Q2),(B8 _ _ _),fun h2=>have p2:=Aq h2;?_,fun h2=>have p2:=Aw h2;?_⟩
 refine⟨(B8 _ _ _),fun h3=>have p3:=Aq h3;?_,fun h3=>have p3:=Aw h3;?_⟩
 exact⟨(B8 _ _ _),(congrArg S.v (congrArg V.c (congrArg C.bool Q67))),rfl⟩
 exact⟨(congrArg S.v (congrArg V.c (congrArg C.bool Q67))),rfl⟩
 exact⟨(congrArg S.v (congrArg V.c (congrArg C.bool Q67))),rfl⟩
 exact⟨(congrArg S.v (congrArg V.c (congrArg C.bool Q67))),rfl⟩
theorem V5 (p:Pln):Fun Tryz.prog 13 [.agg (Mt p)] [] (.v (vB (Da p))) []:=by
 have hN:Bj=274877906944:=rfl
 refine Ar Tryz.func13 Q4 Q4 (w:=let z1:=(p.shapes.length:Int)-1;let z2:=Lf (.v (vB false)) (.v (vB (Da p))) [] [];let z3:S:= .v (vB (Ak p.most 0 2000));let z4:=Ak p.root 0 z1;let z5:=Dc p.shapes;let z6:=Ak p.deep 1 8;(.seg [.call [] (.v (vB z5)) []] (.br (.seg [.as 13 (.v (vI z1)),.call [] (.v (vB z4)) []] (.br (.seg [.call [] (.v (vB z6)) []] (.br (.seg [.call [] z3 []] (.leaf () [])) (.leaf () []))) (.leaf () []))) (.leaf () [])),(Fp 43 [.agg [.seq .shp p.shapes]] [] (.v (vB z5)) [])∧Bc z5 ((wI z1)∧(Fp 44 [vI p.root,vI 0,vI z1] [] (.v (vB z4)) [])∧Bc z4 ((Fp 44 [vI p.deep,vI 1,vI 8] [] (.v (vB z6)) [])∧Bc z6 ((Fp 44 [vI p.most,vI 0,vI 2000] [] z3 [])∧Lf z3 (.v (vB (Da p))) [] []) z2) z2) z2)) Q4 ?_
 refine⟨(Z5 p.shapes),fun h1=>have p1:=Qy h1;?_,fun h1=>?_⟩
 refine⟨(Ac Q2 Q2),(Ba _ _ _),fun h2=>have p2:=Aq h2;?_,fun h2=>have p2:=Aw h2;?_⟩
 refine⟨(Ba _ _ _),fun h3=>have p3:=Aq h3;?_,fun h3=>have p3:=Aw h3;?_⟩
 exact⟨(Ba _ _ _),(congrArg S.v (congrArg V.c (congrArg C.bool Q67))),rfl⟩
 exact⟨(congrArg S.v (congrArg V.c (congrArg C.bool Q67))),rfl⟩
 exact⟨(congrArg S.v (congrArg V.c (congrArg C.bool Q67))),rfl⟩
 exact⟨(congrArg S.v (congrArg V.c (congrArg C.bool Q67))),rfl⟩
theorem Z6 (k:Int):Fun Tryz.prog 168 [vI k] [] (.v (vB (Ec k))) []:=by
 have hN:Bj=274877906944:=rfl
 refine Ar Tryz.func168 Q4 Q4 (w:=let z1:=Lf (.v (vB true)) (.v (vB (Ec k))) [] [];(.br (.leaf () []) (.br (.leaf () []) (.leaf () [])),Bc (decide (k=2)) z1 (Bc (decide (k=3)) z1 (Lf (.v (vB (decide (k=6)))) (.v (vB (Ec k))) [] [])))) Q4 ?_
 refine dsp (fun h1 p1=>?_) fun h1 p1=>?_
 exact⟨(congrArg S.v (congrArg V.c (congrArg C.bool (by grind[Ec])))),rfl⟩
 refine dsp (fun h2 p2=>?_) fun h2 p2=>?_
 exact⟨(congrArg S.v (congrArg V.c (congrArg C.bool (by grind[Ec])))),rfl⟩
 exact⟨(congrArg S.v (congrArg V.c (congrArg C.bool (by grind[Ec])))),rfl⟩
theorem Dr (d:Dcd) (hp1:List.length (d).stack≤Bj):Fun Tryz.prog 108 [.agg (Bu d)] [] (.v (vI (Dj d))) []:=by
 have hN:Bj=274877906944:=rfl
 refine Ar Tryz.func108 Q4 Q4 (w:=let z1:=((List.length d.stack:Nat):Int);(.br (.leaf () []) (.seg [.as 12 (.v (vI (z1-1)))] (.intro (Sx (d.stack[Int.toNat (z1-1)]?)) fun x1=> .seg [.el .lev x1] (.leaf () []))),Bc (decide (z1=0)) (Lf (.v (vI 0)) (.v (vI (Dj d))) [] []) ((wI (z1-1))∧El (d.stack[Int.toNat (z1-1)]?) fun x1=>((d.stack[Int.toNat (z1-1)]? =some x1)∧((0:Int)≤z1-1)∧Lf (.v (vI x1.left)) (.v (vI (Dj d))) [] [])))) Q4 ?_
 refine dsp (fun h1 p1=>?_) fun h1 p1=>?_
 refine⟨(sI ?_),rfl⟩
 rotate_left
 refine⟨(Ac Q2 Q2),(Bg (l:=d.stack) (i:=Int.toNat (((List.length d.stack:Nat):Int)-1)) Q2),fun x1 hx1=>?_⟩
 have htop:Dj d=x1.left:=by unfold Dj;rw[Th (by rw[←hx1];congr 1;omega)]
 refine⟨hx1,Q2,(sI ?_),rfl⟩
 rotate_left
 all_goals first|(exact htop.symm)|((unfold Dj;rw[List.eq_nil_of_length_eq_zero (by omega:List.length d.stack=0)];rfl))|(grind)
theorem Mo (d:Dcd) (hp1:List.length (d).stack≤Bj):Fun Tryz.prog 126 [.agg (Bu d)] [] (.v (vI (Dj d))) []:=by
 have hN:Bj=274877906944:=rfl
 refine Ar Tryz.func126 Q4 Q4 (w:=let z1:=((List.length d.stack:Nat):Int);(.br (.leaf () []) (.seg [.as 12 (.v (vI (z1-1)))] (.intro (Sx (d.stack[Int.toNat (z1-1)]?)) fun x1=> .seg [.el .lev x1] (.leaf () []))),Bc (decide (z1=0)) (Lf (.v (vI 0)) (.v (vI (Dj d))) [] []) ((wI (z1-1))∧El (d.stack[Int.toNat (z1-1)]?) fun x1=>((d.stack[Int.toNat (z1-1)]? =some x1)∧((0:Int)≤z1-1)∧Lf (.v (vI x1.left)) (.v (vI (Dj d))) [] [])))) Q4 ?_
 refine dsp (fun h1 p1=>?_) fun h1 p1=>?_
 refine⟨(sI ?_),rfl⟩
 rotate_left
 refine⟨(Ac Q2 Q2),(Bg (l:=d.stack) (i:=Int.toNat (((List.length d.stack:Nat):Int)-1)) Q2),fun x1 hx1=>?_⟩
 have htop:Dj d=x1.left:=by unfold Dj;rw[Th (by rw[←hx1];congr 1;omega)]
 refine⟨hx1,Q2,(sI ?_),rfl⟩
 rotate_left
 all_goals first|(exact htop.symm)|((unfold Dj;rw[List.eq_nil_of_length_eq_zero (by omega:List.length d.stack=0)];rfl))|(grind)
theorem Ab7 (p:Pln) (k:Int) (hp1:List.length (p).shapes≤Bj):Fun Tryz.prog 211 [.agg (Mt p),vI k] [] (.v (vB (Ak k 0 (((List.length (p).shapes:Nat):Int)-1)))) []:=by
 have hN:Bj=274877906944:=rfl
 refine Ar Tryz.func211 Q4 Q4 (w:=let z1:=((List.length p.shapes:Nat):Int)-1;let z2:S:= .v (vB (Ak k 0 z1));(.seg [.as 10 (.v (vI z1)),.call [] z2 []] (.leaf () []),(wI z1)∧(Fp 97 [vI k,vI 0,vI z1] [] z2 [])∧Lf z2 (.v (vB (Ak k 0 (((List.length (p).shapes:Nat):Int)-1)))) [] [])) Q4 ?_
 exact⟨(Ac Q2 Q2),(B8 _ _ _),(congrArg S.v (congrArg V.c (congrArg C.bool (by rfl)))),rfl⟩
theorem Ab8 (p:Pln) (l:Lev) (hp1:List.length (p).shapes≤Bj):Fun Tryz.prog 164 [.agg (Mt p),.agg (Ahg l)] [] (.v (vB (Ek ((List.length (p).shapes:Nat):Int) l))) []:=by
 have hN:Bj=274877906944:=rfl
 refine Ar Tryz.func164 Q4 Q4 (w:=let z1:=((List.length (p).shapes:Nat):Int);let z2:S:= .v (vB (Ak l.left 0 2000));let z3:=Ak l.msg 0 (z1-1);(.seg [.call [] (.v (vB z3)) []] (.br (.seg [.call [] z2 []] (.leaf () [])) (.leaf () [])),(Fp 211 [.agg (Mt p),vI l.msg] [] (.v (vB z3)) [])∧Bc z3 ((Fp 97 [vI l.left,vI 0,vI 2000] [] z2 [])∧Lf z2 (.v (vB (Ek z1 l))) [] []) (Lf (.v (vB false)) (.v (vB (Ek z1 l))) [] []))) Q4 ?_
 refine⟨(Ab7 p _ Q2),fun h1=>have p1:=Aq h1;?_,fun h1=>have p1:=Aw h1;?_⟩
 refine⟨(B8 _ _ _),(sB ?_),rfl⟩
 rotate_left
 refine⟨(sB ?_),rfl⟩
 rotate_left
 all_goals first|(simp[Ek, *];done)|(simp_all[Ek];done)|(grind[Ek])
theorem Adu (l:Lev) (d:Dcd) (hp1:List.length (d).plan.shapes≤Bj):Fun Tryz.prog 163 [.agg (Ahg l),vP 0] [.cells (Bu d)] (.v (vB (!Ek ((List.length (d).plan.shapes:Nat):Int) l))) [.cells (Bu d)]:=by
 have hN:Bj=274877906944:=rfl
 refine Ar Tryz.func163 Q4 Q4 (w:=let z1:=Ek ((List.length (d.plan).shapes:Nat):Int) l;(.seg [.call [] (.v (vB z1)) []] (.leaf () [0]),(Fp 164 [.agg (Mt d.plan),.agg (Ahg l)] [] (.v (vB z1)) [])∧Lf (.v (vB (!z1))) (.v (vB (!Ek ((List.length (d).plan.shapes:Nat):Int) l))) [.cells (Bu d)] [.cells (Bu d)])) Q4 ?_
 exact⟨(Ab8 d.plan l Q2),(congrArg S.v (congrArg V.c (congrArg C.bool (by rfl)))),rfl⟩
structure Qj where
 v:Nat
def Qk (s:List Lev) (d:Dcd):Fam:=⟨Qj,fun q1=>[(0,.v (.c (.seq .lev s))),(1,.v (.c (.fn 163 [0]))),(7,.v (vI ((List.length s:Nat):Int))),(8,.v (vI ((q1.v:Nat):Int)))],fun _=>[.cells (Bu d)],fun q1=>q1.v≤List.length s∧Uk (List.length d.plan.shapes:Int) (List.drop q1.v s)+q1.v=Uk (List.length d.plan.shapes:Int) s,fun q1=>List.length s-q1.v⟩
theorem Agu (s:List Lev) (d:Dcd) (hp1:List.length (d).plan.shapes≤Bj) (hp2:List.length s≤Bj):Fun Tryz.prog 210 [.c (.seq .lev s),.c (.fn 163 [0])] [.cells (Bu d)] (.v (vI (Jz ((List.length (d).plan.shapes:Nat):Int) s))) [.cells (Bu d)]:=by
 have hN:Bj=274877906944:=rfl
 refine Ar Tryz.func210 Q4 Q4 (w:=let z3:=((List.length (d).plan.shapes:Nat):Int);let z4:List Blk:=[.cells (Bu d)];let z5:=((List.length s:Nat):Int);let z6:=Qk s d;(.seg [.at 0,.keep [0,1,7,8],.sel [0]] (.loop z6 fun q1=> .br (.intro (Sx (s[q1.v]?)) fun x1=> .seg [.el .lev x1,.call [0] (.v (vB (!Ek z3 x1))) z4] (.br (.leaf () [0]) (.seg [.as 18 (.v (vI (((q1.v:Nat):Int)+1))),.at 0,.keep [0,1,7,8],.sel [0]] (.next)))) (.leaf () [0])),z6.Has [(0,.v (.c (.seq .lev s))),(1,.v (.c (.fn 163 [0]))),(7,.v (vI z5)),(8,.v (vI 0))] z4∧∀q1,z6.inv q1→(let z2:=((q1.v:Nat):Int);Bc (decide (z2<z5)) (El (s[q1.v]?) fun x1=>(let z1:= !Ek z3 x1;(s[q1.v]? =some x1)∧((0:Int)≤z2)∧(Fp 163 [.agg (Ahg x1),vP 0] z4 (.v (vB z1)) z4)∧Bc z1 (Lf (.v (vI z2)) (.v (vI (Jz z3 s))) z4 z4) ((wI (z2+1))∧z6.Nxt q1 [(0,.v (.c (.seq .lev s))),(1,.v (.c (.fn 163 [0]))),(7,.v (vI z5)),(8,.v (vI (z2+1)))] z4))) (Lf (.v (vI (-1))) (.v (vI (Jz z3 s))) z4 z4)))) Q4 ?_
 refine⟨Bh (j:=(⟨0⟩:Qj)) Q9 rfl (by dsimp only[Qk];exact⟨by omega,rfl⟩),fun (q1:Qj) hq_q1=>?_⟩
 have hi_q1:q1.v≤List.length s∧Uk (List.length d.plan.shapes:Int) (List.drop q1.v s)+q1.v=Uk (List.length d.plan.shapes:Int) s:=hq_q1
 obtain ⟨v1,v3⟩:=hi_q1
 refine dsp (fun h1 p1=>?_) fun h1 p1=>?_
 refine⟨(Bg (l:=s) (i:=q1.v) Q2),fun x1 hx1=>?_⟩
 rw[Ff hx1,Qb] at v3
 have hll:=congrArg List.length (Ff hx1)
 rw[List.length_drop,List.length_cons,List.length_drop] at hll
 refine⟨hx1,Q2,(Adu x1 d Q2),fun h2=>have q2:=Ao h2;?_,fun h2=>have q2:=An h2;?_⟩
 rw[if_neg (by simp[q2])] at v3
 have hbl:Jz (List.length d.plan.shapes:Int) s=q1.v:=by unfold Jz;rw[if_neg (by omega)];omega
 refine⟨(sI ?_),rfl⟩
 rotate_left
 rw[if_pos q2] at v3
 exact⟨(Ac Q2 Q2),Bb (j:=(⟨q1.v+1⟩:Qj)) Q9 rfl (by dsimp only[Qk];exact⟨by omega,by omega⟩) (by dsimp only[Qk];omega)⟩
 rw[List.drop_eq_nil_of_le (by omega)] at v3
 simp only[Uk] at v3
 have hbl:Jz (List.length d.plan.shapes:Int) s= -1:=by unfold Jz;rw[if_pos (by omega)]
 refine⟨(sI ?_),rfl⟩
 rotate_left
 all_goals first|(exact hbl.symm)|(grind)
theorem Agv (s:List Lev) (d:Dcd) (hp1:List.length (d).plan.shapes≤Bj) (hp2:List.length s≤Bj):Fun Tryz.prog 162 [.c (.seq .lev s),.c (.fn 163 [0])] [.cells (Bu d)] (.v (vB (decide (0≤Jz ((List.length (d).plan.shapes:Nat):Int) s)))) [.cells (Bu d)]:=by
 have hN:Bj=274877906944:=rfl
 refine Ar Tryz.func162 Q4 Q4 (w:=let z1:=((List.length (d).plan.shapes:Nat):Int);let z2:List Blk:=[.cells (Bu d)];let z3:S:= .v (vB (decide (0≤Jz z1 s)));(.seg [.call [0] (.v (vI (Jz z1 s))) z2] (.leaf () [0]),(Fp 210 [.c (.seq .lev s),.c (.fn 163 [0])] z2 (.v (vI (Jz z1 s))) z2)∧Lf z3 z3 z2 z2)) Q4 ?_
 exact⟨(Agu _ d Q2 Q2),rfl,rfl⟩
theorem Va (d:Dcd) (hp1:List.length (d).stack≤Bj) (hp2:List.length (d).plan.shapes≤Bj):Fun Tryz.prog 102 [.agg (Bu d)] [] (.v (vB (A9 d))) []:=by
 have hN:Bj=274877906944:=rfl
 refine Ar Tryz.func102 Q4 Q4 (w:=let z1:=decide (0≤Jz ((List.length (d).plan.shapes:Nat):Int) d.stack);let z2:=Lf (.v (vB false)) (.v (vB (A9 d))) [] [];(.seg [.call [] (.v (vB (Da d.plan))) []] (.br (.br (.seg [.call [0] (.v (vB z1)) [.cells (Bu d)]] (.leaf () [])) (.leaf () [])) (.leaf () [])),(Fp 46 [.agg (Mt d.plan)] [] (.v (vB (Da d.plan))) [])∧Bc (Da d.plan) (Bc (decide (((List.length d.stack:Nat):Int)≤d.plan.deep)) ((Fp 162 [.c (.seq .lev d.stack),.c (.fn 163 [0])] [.cells (Bu d)] (.v (vB z1)) [.cells (Bu d)])∧Lf (.v (vB (!z1))) (.v (vB (A9 d))) [] []) z2) z2)) Q4 ?_
 refine⟨(Adt d.plan),fun h1=>have p1:=B9 h1;?_,fun h1=>?_⟩
 refine dsp (fun h2 p2=>?_) fun h2 p2=>?_
 refine⟨(Agv _ d Q2 Q2),(sB ?_),rfl⟩
 rotate_left
 refine⟨(sB ?_),rfl⟩
 rotate_left
 refine⟨(sB ?_),rfl⟩
 rotate_left
 all_goals first|(simp_all[A9];done)|((unfold A9;rw[Lk];grind[Jz]))|(grind[A9,Jz,Lk])
theorem Qm (k:Int):Fun Tryz.prog 166 [vI k] [] (.v (vB (Lm k))) []:=by
 have hN:Bj=274877906944:=rfl
 refine Ar Tryz.func166 Q4 Q4 (w:=let z1:S:= .v (vB (Ak k 1 10));(.seg [.call [] z1 []] (.leaf () []),(Fp 97 [vI k,vI 1,vI 10] [] z1 [])∧Lf z1 (.v (vB (Lm k))) [] [])) Q4 ?_
 exact⟨(B8 _ _ _),(congrArg S.v (congrArg V.c (congrArg C.bool (by rfl)))),rfl⟩
theorem V6 (e:Ev):Fun Tryz.prog 167 [.agg (cEv e)] [] (.v (.agg (cEv (D5 e)))) []:=by
 have hN:Bj=274877906944:=rfl
 refine Ar Tryz.func167 Q4 Q4 (w:=let zi:Int→C:= .int .i64;let z1:List C:=[.int .u64 0,zi e.len,.str [],zi 0,zi 0];let z2:S:= .v (.agg (cEv (D5 e)));let z3:S:= .v (.agg (zi e.kind::zi e.field::z1));let z4:=os 8 [5,7];(.br (.leaf () []) (.br (.seg [.ord z4 [2]] (.leaf () [])) (.br (.seg [.br true,.ord z4 [2]] (.leaf () [])) (.br (.seg [.ord z4 [2]] (.leaf () [])) (.br (.leaf () []) (.br (.leaf () []) (.br (.seg [.ord z4 [2]] (.leaf () [])) (.leaf () []))))))),Bc (decide (e.kind=1)) (Lf (.v (.agg (zi e.kind::zi 0::z1))) z2 [] []) (Bc (decide (e.kind=2)) (Lf (.v (.agg [zi e.kind,zi e.field,.int .u64 e.bits,zi 0,.str [],zi 0,zi 0])) z2 [] []) (Bc (decide (e.kind=3)) (((decide (e.kind=3))=true)∧Lf z3 z2 [] []) (Bc (decide (e.kind=6)) (Lf z3 z2 [] []) (Bc (decide (e.kind=4)) (Lf (.v (.agg [zi e.kind,zi 0,.int .u64 0,zi 0,.str e.text,zi 0,zi 0])) z2 [] []) (Bc (decide (e.kind=9)) (Lf (.v (.agg [zi e.kind,zi 0,.int .u64 0,zi 0,.str [],zi 0,zi e.at_])) z2 [] []) (Bc (decide (e.kind=10)) (Lf (.v (.agg [zi e.kind,zi 0,.int .u64 0,zi 0,.str [],zi e.code,zi e.at_])) z2 [] []) (Lf (.v (.agg [zi e.kind,zi 0,.int .u64 0,zi 0,.str [],zi 0,zi 0])) z2 [] []))))))))) Q4 ?_
 refine dsp (fun h1 p1=>?_) fun h1 p1=>?_
 refine zE (D5 e) (⟨e.kind,0,0,e.len,[],0,0⟩:Ev) (fun hm1=>⟨Q6,rfl⟩) ?_
 rotate_left
 refine dsp (fun h2 p2=>?_) fun h2 p2=>?_
 refine zE (D5 e) (⟨e.kind,e.field,e.bits,0,[],0,0⟩:Ev) (fun hm1=>⟨Q6,rfl⟩) ?_
 rotate_left
 refine dsp (fun h3 p3=>?_) fun h3 p3=>?_
 refine zE (D5 e) (⟨e.kind,e.field,0,e.len,[],0,0⟩:Ev) (fun hm1=>⟨h3,Q6,rfl⟩) ?_
 rotate_left
 refine dsp (fun h4 p4=>?_) fun h4 p4=>?_
 refine zE (D5 e) (⟨e.kind,e.field,0,e.len,[],0,0⟩:Ev) (fun hm1=>⟨Q6,rfl⟩) ?_
 rotate_left
 refine dsp (fun h5 p5=>?_) fun h5 p5=>?_
 refine zE (D5 e) (⟨e.kind,0,0,0,e.text,0,0⟩:Ev) (fun hm1=>⟨Q6,rfl⟩) ?_
 rotate_left
 refine dsp (fun h6 p6=>?_) fun h6 p6=>?_
 refine zE (D5 e) (⟨e.kind,0,0,0,[],0,e.at_⟩:Ev) (fun hm1=>⟨Q6,rfl⟩) ?_
 rotate_left
 refine dsp (fun h7 p7=>?_) fun h7 p7=>?_
 refine zE (D5 e) (⟨e.kind,0,0,0,[],e.code,e.at_⟩:Ev) (fun hm1=>⟨Q6,rfl⟩) ?_
 rotate_left
 refine zE (D5 e) (⟨e.kind,0,0,0,[],0,0⟩:Ev) (fun hm1=>⟨Q6,rfl⟩) ?_
 rotate_left
 all_goals first|(simp_all[D5];done)|(grind[D5])
theorem Vb (e:Ev):Fun Tryz.prog 107 [.agg (cEv e)] [] (.v (vB (Do e))) []:=by
 have hN:Bj=274877906944:=rfl
 refine Ar Tryz.func107 Q4 Q4 (w:=(.br (.leaf () []) (.leaf () []),Bc (decide (e.kind=9)) (Lf (.v (vB true)) (.v (vB (Do e))) [] []) (Lf (.v (vB (decide (e.kind=10)))) (.v (vB (Do e))) [] []))) Q4 ?_
 refine dsp (fun h1 p1=>?_) fun h1 p1=>?_
 refine⟨(sB ?_),rfl⟩
 rotate_left
 refine⟨(sB ?_),rfl⟩
 rotate_left
 all_goals first|(simp_all[Do];done)|(grind[Do])
theorem Z7 (e:Ev):Fun Tryz.prog 31 [.agg (cEv e)] [] (.v (vB (Do e))) []:=by
 have hN:Bj=274877906944:=rfl
 refine Ar Tryz.func31 Q4 Q4 (w:=(.br (.leaf () []) (.leaf () []),Bc (decide (e.kind=9)) (Lf (.v (vB true)) (.v (vB (Do e))) [] []) (Lf (.v (vB (decide (e.kind=10)))) (.v (vB (Do e))) [] []))) Q4 ?_
 refine dsp (fun h1 p1=>?_) fun h1 p1=>?_
 refine⟨(sB ?_),rfl⟩
 rotate_left
 refine⟨(sB ?_),rfl⟩
 rotate_left
 all_goals first|(simp_all[Do];done)|(grind[Do])
theorem Xc (e:Ev):Fun Tryz.prog 106 [.agg (cEv e)] [] (.v (vB (E5 e))) []:=by
 have hN:Bj=274877906944:=rfl
 refine Ar Tryz.func106 Q4 Q4 (w:=let z2:=Lm e.kind;let z3:S:= .v (vB (E5 e));let z5:S:= .v (vB (Ak e.field 1 536870911));let z6:S:= .v (vB z2);let z7:=decide (e.len<0);let z8:=D5 e;let z1:= !(decide (e.kind=z8.kind)&&(decide (e.field=z8.field)&&(decide (e.bits=z8.bits)&&(decide (e.len=z8.len)&&(decide (e.text=z8.text)&&(decide (e.code=z8.code)&&decide (e.at_=z8.at_)))))));let z4:S:= .v (.agg (cEv z8));let z9:S:= .v (vB false);let z10:=os 21 [2,7];(.case (!z2) (.seg [.ord z10 [],.call [] z6 [],.br true] (.leaf () [])) (.case z1 (.seg [.ord z10 [],.call [] z6 [],.br false,.call [] z4 [],.br true] (.leaf () [])) (.case z7 (.seg [.ord z10 [],.call [] z6 [],.br false,.call [] z4 [],.br false,.br true] (.leaf () [])) (.seg [.ord z10 [],.call [] z6 [],.br false,.call [] z4 [],.br false,.br false] (.br (.leaf () []) (.seg [.call [] (.v (vB (Ec e.kind))) []] (.br (.seg [.call [] z5 []] (.leaf () [])) (.br (.leaf () []) (.br (.leaf () []) (.leaf () []))))))))),Bc (!z2) ((Fp 166 [vI e.kind] [] z6 [])∧((!z2)=true)∧Lf z9 z3 [] []) (Bc z1 ((Fp 166 [vI e.kind] [] z6 [])∧((!z2)=false)∧(Fp 167 [.agg (cEv e)] [] z4 [])∧(z1=true)∧Lf z9 z3 [] []) (Bc z7 ((Fp 166 [vI e.kind] [] z6 [])∧((!z2)=false)∧(Fp 167 [.agg (cEv e)] [] z4 [])∧(z1=false)∧(z7=true)∧Lf z9 z3 [] []) ((Fp 166 [vI e.kind] [] z6 [])∧((!z2)=false)∧(Fp 167 [.agg (cEv e)] [] z4 [])∧(z1=false)∧(z7=false)∧Bc (decide (e.at_<0)) (Lf z9 z3 [] []) ((Fp 168 [vI e.kind] [] (.v (vB (Ec e.kind))) [])∧Bc (Ec e.kind) ((Fp 97 [vI e.field,vI 1,vI 536870911] [] z5 [])∧Lf z5 z3 [] []) (Bc (decide (e.kind=4)) (Lf (.v (vB (!decide (e.text=[])))) z3 [] []) (Bc (decide (e.kind=10)) (Lf (.v (vB (decide (1≤e.code)))) z3 [] []) (Lf (.v (vB true)) z3 [] []))))))))) Q4 ?_
 refine⟨fun h1=>have q1:=Ao h1;?_,fun h1=>have q1:=An h1;?_⟩
 refine⟨(Qm _),h1,(sB ?_),rfl⟩
 rotate_left
 refine⟨fun h2=>have q2:=Ao h2;have p2:=(Cc dT (Cc dT (Cc dT (Cc dT (Cc dT (Cc dT dF)))))).1 q2;?_,fun h2=>have q2:=An h2;have p2:=(Cb dT (Cb dT (Cb dT (Cb dT (Cb dT (Cb dT dT)))))).1 q2;?_⟩
 have hib:R3 e=false:=by rw[Qd rfl];exact q2
 refine⟨(Qm _),h1,(V6 e),h2,(sB ?_),rfl⟩
 rotate_left
 have hib:R3 e=true:=by rw[Qd rfl];exact q2
 refine dsp (fun h3 p3=>?_) fun h3 p3=>?_
 refine⟨(Qm _),h1,(V6 e),h2,h3,(sB ?_),rfl⟩
 rotate_left
 refine⟨(Qm _),h1,(V6 e),h2,h3,dsp (fun h4 p4=>?_) fun h4 p4=>?_⟩
 refine⟨(sB ?_),rfl⟩
 rotate_left
 refine⟨(Z6 _),fun h5=>?_,fun h5=>?_⟩
 refine⟨(B8 _ _ _),(sB ?_),rfl⟩
 rotate_left
 refine dsp (fun h6 p6=>?_) fun h6 p6=>?_
 refine⟨(sB ?_),rfl⟩
 rotate_left
 refine dsp (fun h7 p7=>?_) fun h7 p7=>?_
 refine⟨(sB ?_),rfl⟩
 rotate_left
 refine⟨(sB ?_),rfl⟩
 rotate_left
 all_goals first|((simp only[E5,hib];simp[Lm,Ec, *];done))|(grind[E5,Ec,Lm])
structure Ct where
 want:Ev
def Pg (e:Ev):Fam:=⟨Ct,fun j0=>[(1,.v (vP 0)),(3,.v (vP 1))],fun j0=>[.cells (cEv e),.cells (cEv j0.want)],fun j0=>j0.want=D5 e,fun _=>0⟩
theorem Ab9 (e:Ev):Fun Tryz.prog 125 [.agg (cEv e)] [] (.v (vB (E5 e))) []:=by
 have hN:Bj=274877906944:=rfl
 refine Ar Tryz.func125 Q4 Q4 (w:=let zi:Int→C:= .int .i64;let z1:List C:=[.int .u64 0,zi e.len,.str [],zi 0,zi 0];let z2:S:= .v (vB (Ak e.field 1 536870911));let z3:S:= .v (vB (E5 e));let z4:=Pg e;let z5:=Lf (.v (vB false)) z3 [] [];let z6:List Blk:=[.cells (cEv e),.cells (zi e.kind::zi e.field::z1)];let z7:=decide (e.kind=3);let z8:List V:=[vI e.field,vI 1,vI 536870911];let z9:=decide (e.kind=2);let z10:=Ak e.kind 1 10;(.join 0 z4 (.br (.seg [.at 0,.keep [1,3],.sel [0,1]] (.next)) (.br (.seg [.at 0,.keep [1,3],.sel [0,1]] (.next)) (.br (.seg [.br true,.at 0,.keep [1,3],.sel [0,1]] (.next)) (.br (.seg [.at 0,.keep [1,3],.sel [0,1]] (.next)) (.br (.seg [.at 0,.keep [1,3],.sel [0,1]] (.next)) (.br (.seg [.at 0,.keep [1,3],.sel [0,1]] (.next)) (.br (.seg [.at 0,.keep [1,3],.sel [0,1]] (.next)) (.seg [.at 0,.keep [1,3],.sel [0,1]] (.next))))))))) fun j0=> .br (.leaf () []) (.seg [.call [] (.v (vB z10)) []] (.br (.leaf () []) (.br (.leaf () []) (.br (.leaf () []) (.br (.seg [.br true,.call [] z2 []] (.leaf () [])) (.br (.seg [.br true,.call [] z2 []] (.leaf () [])) (.br (.seg [.call [] z2 []] (.leaf () [])) (.br (.leaf () []) (.br (.leaf () []) (.leaf () [])))))))))),(Bc (decide (e.kind=1)) (z4.Has [(1,.v (vP 0)),(3,.v (vP 1))] [.cells (cEv e),.cells (zi e.kind::zi 0::z1)]) (Bc z9 (z4.Has [(1,.v (vP 0)),(3,.v (vP 1))] [.cells (cEv e),.cells [zi e.kind,zi e.field,.int .u64 e.bits,zi 0,.str [],zi 0,zi 0]]) (Bc z7 ((z7=true)∧z4.Has [(1,.v (vP 0)),(3,.v (vP 1))] z6) (Bc (decide (e.kind=6)) (z4.Has [(1,.v (vP 0)),(3,.v (vP 1))] z6) (Bc (decide (e.kind=4)) (z4.Has [(1,.v (vP 0)),(3,.v (vP 1))] [.cells (cEv e),.cells [zi e.kind,zi 0,.int .u64 0,zi 0,.str e.text,zi 0,zi 0]]) (Bc (decide (e.kind=9)) (z4.Has [(1,.v (vP 0)),(3,.v (vP 1))] [.cells (cEv e),.cells [zi e.kind,zi 0,.int .u64 0,zi 0,.str [],zi 0,zi e.at_]]) (Bc (decide (e.kind=10)) (z4.Has [(1,.v (vP 0)),(3,.v (vP 1))] [.cells (cEv e),.cells [zi e.kind,zi 0,.int .u64 0,zi 0,.str [],zi e.code,zi e.at_]]) (z4.Has [(1,.v (vP 0)),(3,.v (vP 1))] [.cells (cEv e),.cells [zi e.kind,zi 0,.int .u64 0,zi 0,.str [],zi 0,zi 0]]))))))))∧∀j0,z4.inv j0→(Bc (!(decide (e.kind=j0.want.kind)&&(decide (e.field=j0.want.field)&&(decide (e.bits=j0.want.bits)&&(decide (e.len=j0.want.len)&&(decide (e.text=j0.want.text)&&(decide (e.code=j0.want.code)&&decide (e.at_=j0.want.at_)))))))) z5 ((Fp 44 [vI e.kind,vI 1,vI 10] [] (.v (vB z10)) [])∧Bc (!z10) z5 (Bc (decide (e.len<0)) z5 (Bc (decide (e.at_<0)) z5 (Bc z9 ((z9=true)∧(Fp 44 z8 [] z2 [])∧Lf z2 z3 [] []) (Bc z7 ((z7=true)∧(Fp 44 z8 [] z2 [])∧Lf z2 z3 [] []) (Bc (decide (e.kind=6)) ((Fp 44 z8 [] z2 [])∧Lf z2 z3 [] []) (Bc (decide (e.kind=4)) (Lf (.v (vB (!decide (e.text=[])))) z3 [] []) (Bc (decide (e.kind=10)) (Lf (.v (vB (decide (1≤e.code)))) z3 [] []) (Lf (.v (vB true)) z3 [] [])))))))))))) Q4 ?_
 refine⟨?_,fun (j0:Ct) hq_j0=>?_⟩
 refine dsp (fun h2 p2=>?_) fun h2 p2=>?_
 exact Bh (j:=(⟨(⟨e.kind,0,0,e.len,[],0,0⟩:Ev)⟩:Ct)) rfl Q9 Q33
 refine dsp (fun h3 p3=>?_) fun h3 p3=>?_
 exact Bh (j:=(⟨(⟨e.kind,e.field,e.bits,0,[],0,0⟩:Ev)⟩:Ct)) rfl Q9 Q33
 refine dsp (fun h4 p4=>?_) fun h4 p4=>?_
 exact⟨h4,Bh (j:=(⟨(⟨e.kind,e.field,0,e.len,[],0,0⟩:Ev)⟩:Ct)) rfl Q9 Q33⟩
 refine dsp (fun h5 p5=>?_) fun h5 p5=>?_
 exact Bh (j:=(⟨(⟨e.kind,e.field,0,e.len,[],0,0⟩:Ev)⟩:Ct)) rfl Q9 Q33
 refine dsp (fun h6 p6=>?_) fun h6 p6=>?_
 exact Bh (j:=(⟨(⟨e.kind,0,0,0,e.text,0,0⟩:Ev)⟩:Ct)) rfl Q9 Q33
 refine dsp (fun h7 p7=>?_) fun h7 p7=>?_
 exact Bh (j:=(⟨(⟨e.kind,0,0,0,[],0,e.at_⟩:Ev)⟩:Ct)) rfl Q9 Q33
 refine dsp (fun h8 p8=>?_) fun h8 p8=>?_
 exact Bh (j:=(⟨(⟨e.kind,0,0,0,[],e.code,e.at_⟩:Ev)⟩:Ct)) rfl Q9 Q33
 exact Bh (j:=(⟨(⟨e.kind,0,0,0,[],0,0⟩:Ev)⟩:Ct)) rfl Q9 Q33
 have hi_j0:j0.want=D5 e:=hq_j0
 refine⟨fun h2=>have q2:=Ao h2;have p2:=(Cc dT (Cc dT (Cc dT (Cc dT (Cc dT (Cc dT dF)))))).1 q2;?_,fun h2=>have q2:=An h2;have p2:=(Cb dT (Cb dT (Cb dT (Cb dT (Cb dT (Cb dT dT)))))).1 q2;?_⟩
 have hib:R3 e=false:=by rw[Qd hi_j0.symm];exact q2
 refine⟨(sB ?_),rfl⟩
 rotate_left
 have hib:R3 e=true:=by rw[Qd hi_j0.symm];exact q2
 refine⟨(Ba _ _ _),fun h3=>have q3:=Ao h3;have p3:=Aw q3;?_,fun h3=>have q3:=An h3;have p3:=Aq q3;?_⟩
 refine⟨(sB ?_),rfl⟩
 rotate_left
 refine dsp (fun h4 p4=>?_) fun h4 p4=>?_
 refine⟨(sB ?_),rfl⟩
 rotate_left
 refine dsp (fun h5 p5=>?_) fun h5 p5=>?_
 refine⟨(sB ?_),rfl⟩
 rotate_left
 refine dsp (fun h6 p6=>?_) fun h6 p6=>?_
 refine⟨h6,(Ba _ _ _),(sB ?_),rfl⟩
 rotate_left
 refine dsp (fun h7 p7=>?_) fun h7 p7=>?_
 refine⟨h7,(Ba _ _ _),(sB ?_),rfl⟩
 rotate_left
 refine dsp (fun h8 p8=>?_) fun h8 p8=>?_
 refine⟨(Ba _ _ _),(sB ?_),rfl⟩
 rotate_left
 refine dsp (fun h9 p9=>?_) fun h9 p9=>?_
 refine⟨(sB ?_),rfl⟩
 rotate_left
 refine dsp (fun h10 p10=>?_) fun h10 p10=>?_
 refine⟨(sB ?_),rfl⟩
 rotate_left
 refine⟨(sB ?_),rfl⟩
 rotate_left
 all_goals first|((simp only[E5,hib];simp[Lm,Ec, *];done))|(grind[E5,Ec,Lm])
theorem Zd (s:Scn):Fun Tryz.prog 172 [.agg (Jt s)] [] (.v (vB (Db s))) []:=by
 have hN:Bj=274877906944:=rfl
 refine Ar Tryz.func172 Q4 Q4 (w:=let z1:=7*s.have_;let z2:=Ak s.have_ 0 9;(.seg [.call [] (.v (vB z2)) []] (.br (.seg [.as 11 (.v (vI z1)),.as 12 (.v (.c (.int .u64 z1)))] (.leaf () [])) (.leaf () [])),(Fp 97 [vI s.have_,vI 0,vI 9] [] (.v (vB z2)) [])∧Bc z2 ((wI z1)∧(wU z1)∧((0:Int)≤7*s.have_)∧Lf (.v (vB (decide (Int.fdiv s.bits (2 ^ min (Int.toNat z1) 64)=0)))) (.v (vB (Db s))) [] []) (Lf (.v (vB false)) (.v (vB (Db s))) [] []))) Q4 ?_
 refine⟨(B8 _ _ _),fun h1=>have p1:=Aq h1;?_,fun h1=>have p1:=Aw h1;?_⟩
 refine⟨(Ac Q2 Q2),(Bt Q2 Q2),Q2,(sB ?_),rfl⟩
 rotate_left
 refine⟨(sB ?_),rfl⟩
 rotate_left
 all_goals first|(simp_all[Db];done)|(grind[Db])
theorem Sp (s:Scn):Fun Tryz.prog 189 [.agg (Jt s)] [] (.v (vB (Db s))) []:=by
 have hN:Bj=274877906944:=rfl
 refine Ar Tryz.func189 Q4 Q4 (w:=let z1:=7*s.have_;let z2:=Ak s.have_ 0 9;(.seg [.call [] (.v (vB z2)) []] (.br (.seg [.as 11 (.v (vI z1)),.as 12 (.v (.c (.int .u64 z1)))] (.leaf () [])) (.leaf () [])),(Fp 44 [vI s.have_,vI 0,vI 9] [] (.v (vB z2)) [])∧Bc z2 ((wI z1)∧(wU z1)∧((0:Int)≤7*s.have_)∧Lf (.v (vB (decide (Int.fdiv s.bits (2 ^ min (Int.toNat z1) 64)=0)))) (.v (vB (Db s))) [] []) (Lf (.v (vB false)) (.v (vB (Db s))) [] []))) Q4 ?_
 refine⟨(Ba _ _ _),fun h1=>have p1:=Aq h1;?_,fun h1=>have p1:=Aw h1;?_⟩
 refine⟨(Ac Q2 Q2),(Bt Q2 Q2),Q2,(sB ?_),rfl⟩
 rotate_left
 refine⟨(sB ?_),rfl⟩
 rotate_left
 all_goals first|(simp_all[Db];done)|(grind[Db])
theorem Nv (d:Dcd):Fun Tryz.prog 118 [.agg (Bu d)] [] (.v (vI (Bp d))) []:=by
 have hN:Bj=274877906944:=rfl
 refine Ar Tryz.func118 Q4 Q4 (w:=let z1:=B3 d.field.kind;let z2:S:= .v (vI (Ay d.wire));let z3:S:= .v (vI (Ay z1));let z4:S:= .v (vI (Bp d));(.br (.seg [.call [] z2 []] (.leaf () [])) (.br (.seg [.call [] (.v (vI z1)) [],.call [] z3 []] (.leaf () [])) (.leaf () [])),Bc (decide (d.mode=5)) ((Fp 171 [vI d.wire] [] z2 [])∧Lf z2 z4 [] []) (Bc (decide (d.mode=8)) ((Fp 181 [vI d.field.kind] [] (.v (vI z1)) [])∧(Fp 171 [vI z1] [] z3 [])∧Lf z3 z4 [] []) (Lf (.v (vI 0)) z4 [] [])))) Q4 ?_
 refine dsp (fun h1 p1=>?_) fun h1 p1=>?_
 refine⟨(Ep _),(sI ?_),rfl⟩
 rotate_left
 refine dsp (fun h2 p2=>?_) fun h2 p2=>?_
 refine⟨(V4 _),(Ep _),(sI ?_),rfl⟩
 rotate_left
 refine⟨(sI ?_),rfl⟩
 rotate_left
 all_goals first|(simp_all[Bp];done)|(grind[Bp])
theorem Ho (d:Dcd):Fun Tryz.prog 61 [.agg (Bu d)] [] (.v (vI (Bp d))) []:=by
 have hN:Bj=274877906944:=rfl
 refine Ar Tryz.func61 Q4 Q4 (w:=let z1:=B3 d.field.kind;let z2:S:= .v (vI (Ay d.wire));let z3:S:= .v (vI (Ay z1));let z4:S:= .v (vI (Bp d));(.br (.seg [.call [] z2 []] (.leaf () [])) (.br (.seg [.call [] (.v (vI z1)) [],.call [] z3 []] (.leaf () [])) (.leaf () [])),Bc (decide (d.mode=5)) ((Fp 127 [vI d.wire] [] z2 [])∧Lf z2 z4 [] []) (Bc (decide (d.mode=8)) ((Fp 131 [vI d.field.kind] [] (.v (vI z1)) [])∧(Fp 127 [vI z1] [] z3 [])∧Lf z3 z4 [] []) (Lf (.v (vI 0)) z4 [] [])))) Q4 ?_
 refine dsp (fun h1 p1=>?_) fun h1 p1=>?_
 refine⟨(Dm _),(sI ?_),rfl⟩
 rotate_left
 refine dsp (fun h2 p2=>?_) fun h2 p2=>?_
 refine⟨(Nu _),(Dm _),(sI ?_),rfl⟩
 rotate_left
 refine⟨(sI ?_),rfl⟩
 rotate_left
 all_goals first|(simp_all[Bp];done)|(grind[Bp])
structure Ks where
 v:Nat
def H4 (p:Pln) (f:Fld):Fam:=⟨Ks,fun q1=>[(2,.v (vP 0)),(3,.v (vP 1)),(11,.v (vI ((List.length p.shapes:Nat):Int))),(12,.v (vI ((q1.v:Nat):Int)))],fun _=>[.cells (Mt p),.cells (E6 f)],fun q1=>q1.v≤List.length p.shapes∧E7 p.shapes f q1.v=false,fun q1=>List.length p.shapes-q1.v⟩
theorem Afr (p:Pln) (f:Fld) (hp1:List.length (p).shapes≤1000) (hp2: ∀x∈(p).shapes,List.length x.fields≤1000):Fun Tryz.prog 105 [.agg (Mt p),.agg (E6 f)] [] (.v (vB (Hf (p).shapes f))) []:=by
 have hN:Bj=274877906944:=rfl
 refine Ar Tryz.func105 Q4 Q4 (w:=let z5:=((List.length p.shapes:Nat):Int);let z6:=H4 p f;(.seg [.at 0,.keep [2,3,11,12],.sel [0,1]] (.loop z6 fun q1=>let z1:=((q1.v:Nat):Int);.br (.seg [.call [] (.tup [.agg (E6 ((fieldAt p.shapes z1 f.number).getD fld0)),vB (fieldAt p.shapes z1 f.number).isSome]) []] (.br (.br (.leaf () []) (.seg [.as 30 (.v (vI (z1+1))),.at 0,.keep [2,3,11,12],.sel [0,1]] (.next))) (.seg [.as 30 (.v (vI (z1+1))),.at 0,.keep [2,3,11,12],.sel [0,1]] (.next)))) (.leaf () [])),z6.Has [(2,.v (vP 0)),(3,.v (vP 1)),(11,.v (vI z5)),(12,.v (vI 0))] [.cells (Mt p),.cells (E6 f)]∧∀q1,z6.inv q1→(let z4:=((q1.v:Nat):Int);let z2:=fieldAt p.shapes z4 f.number;let z3:=(wI (z4+1))∧z6.Nxt q1 [(2,.v (vP 0)),(3,.v (vP 1)),(11,.v (vI z5)),(12,.v (vI (z4+1)))] [.cells (Mt p),.cells (E6 f)];Bc (decide (z4<z5)) ((Fp 165 [.agg [.seq .shp p.shapes],vI z4,vI f.number] [] (.tup [.agg (E6 (z2.getD fld0)),vB z2.isSome]) [])∧Bc (z2.isSome) (Bc (decide ((z2.getD fld0).number=f.number)&&(decide ((z2.getD fld0).kind=f.kind)&&(decide ((z2.getD fld0).rep=f.rep)&&(decide ((z2.getD fld0).packed=f.packed)&&decide ((z2.getD fld0).msg=f.msg))))) (Lf (.v (vB true)) (.v (vB (Hf (p).shapes f))) [] []) z3) z3) (Lf (.v (vB false)) (.v (vB (Hf (p).shapes f))) [] [])))) Q4 ?_
 refine⟨Bh (j:=(⟨0⟩:Ks)) Q9 rfl (by dsimp only[H4];exact⟨by omega,rfl⟩),fun (q1:Ks) hq_q1=>?_⟩
 have hi_q1:q1.v≤List.length p.shapes∧E7 p.shapes f q1.v=false:=hq_q1
 obtain ⟨v1,v2⟩:=hi_q1
 refine dsp (fun h1 p1=>?_) fun h1 p1=>?_
 refine⟨(Tt p.shapes _ _ Q2 Q2),fun h2=>?_,fun h2=>?_⟩
 obtain ⟨o,ho⟩:=Option.isSome_iff_exists.1 h2
 have hg:(fieldAt p.shapes (q1.v:Int) f.number).getD fld0=o:=by rw[ho];rfl
 refine⟨fun h3=>have p3:=(Cb dT (Cb dT (Cb dT (Cb dT dT)))).1 h3;?_,fun h3=>have p3:=(Cc dT (Cc dT (Cc dT (Cc dT dF)))).1 h3;?_⟩
 rw[hg] at p3
 have hkk:=Vx (by omega) (show (fieldAt p.shapes (q1.v:Int) f.number)=some f by rw[ho,Abs p3])
 refine⟨(sB ?_),rfl⟩
 rotate_left
 rw[hg] at p3
 have hkn:E7 p.shapes f (q1.v+1)=false:=Ln v2 (by rw[ho];intro e;exact Abt p3 (Option.some.inj e))
 exact⟨(Ac Q2 Q2),Bb (j:=(⟨q1.v+1⟩:Ks)) Q9 rfl (by dsimp only[H4];exact⟨by omega,hkn⟩) (by dsimp only[H4];omega)⟩
 have hkn:E7 p.shapes f (q1.v+1)=false:=Ln v2 (by intro e;rw[e] at h2;simp at h2)
 exact⟨(Ac Q2 Q2),Bb (j:=(⟨q1.v+1⟩:Ks)) Q9 rfl (by dsimp only[H4];exact⟨by omega,hkn⟩) (by dsimp only[H4];omega)⟩
 have hkk:=Y7 v2 (by omega)
 refine⟨(sB ?_),rfl⟩
 rotate_left
 all_goals first|(exact hkk.symm)|(grind)
structure F6 where
 i:Nat
def Ez (d:Dcd):Fam:=⟨F6,fun q1=>[(1,.v (vP 0)),(3,.v (vI ((q1.i:Nat):Int)))],fun _=>[.cells (Bu d)],fun q1=>q1.i≤List.length d.plan.shapes∧E7 d.plan.shapes d.field q1.i=false,fun q1=>List.length d.plan.shapes-q1.i⟩
theorem Z8 (d:Dcd) (hp1:List.length (d).plan.shapes≤1000) (hp2: ∀x∈(d).plan.shapes,List.length x.fields≤1000):Fun Tryz.prog 123 [.agg (Bu d)] [] (.v (vB (decide ((d).field=fld0)||Hf (d).plan.shapes (d).field))) []:=by
 have hN:Bj=274877906944:=rfl
 refine Ar Tryz.func123 Q4 Q4 (w:=let z6:S:= .v (vB (decide ((d).field=fld0)||Hf (d).plan.shapes (d).field));let z7:=Ez d;(.br (.leaf () []) (.seg [.at 0,.keep [1,3],.sel [0]] (.loop z7 fun q1=>let z2:=((q1.i:Nat):Int);let z1:=fieldAt d.plan.shapes z2 d.field.number;.br (.seg [.call [] (.tup [.agg (E6 (z1.getD fld0)),vB z1.isSome]) []] (.br (.br (.leaf () []) (.seg [.as 18 (.v (vI (z2+1))),.at 0,.keep [1,3],.sel [0]] (.next))) (.seg [.as 18 (.v (vI (z2+1))),.at 0,.keep [1,3],.sel [0]] (.next)))) (.leaf () []))),Bc (decide (d.field.number=0)&&(decide (d.field.kind=0)&&(decide (d.field.rep=false)&&(decide (d.field.packed=false)&&decide (d.field.msg=0))))) (Lf (.v (vB true)) z6 [] []) (z7.Has [(1,.v (vP 0)),(3,.v (vI 0))] [.cells (Bu d)]∧∀q1,z7.inv q1→(let z5:=((q1.i:Nat):Int);let z3:=fieldAt d.plan.shapes z5 d.field.number;let z4:=(wI (z5+1))∧z7.Nxt q1 [(1,.v (vP 0)),(3,.v (vI (z5+1)))] [.cells (Bu d)];Bc (decide (z5<((List.length d.plan.shapes:Nat):Int))) ((Fp 188 [.agg [.seq .shp d.plan.shapes],vI z5,vI d.field.number] [] (.tup [.agg (E6 (z3.getD fld0)),vB z3.isSome]) [])∧Bc (z3.isSome) (Bc (decide ((z3.getD fld0).number=d.field.number)&&(decide ((z3.getD fld0).kind=d.field.kind)&&(decide ((z3.getD fld0).rep=d.field.rep)&&(decide ((z3.getD fld0).packed=d.field.packed)&&decide ((z3.getD fld0).msg=d.field.msg))))) (Lf (.v (vB true)) z6 [] []) z4) z4) (Lf (.v (vB false)) z6 [] []))))) Q4 ?_
 refine⟨fun h1=>have p1:=(Cb dT (Cb dT (Cb dT (Cb dT dT)))).1 h1;?_,fun h1=>have p1:=(Cc dT (Cc dT (Cc dT (Cc dT dF)))).1 h1;?_⟩
 refine⟨(sB ?_),rfl⟩
 rotate_left
 refine⟨Bh (j:=(⟨0⟩:F6)) Q9 rfl (by dsimp only[Ez];exact⟨by omega,rfl⟩),fun (q1:F6) hq_q1=>?_⟩
 have hi_q1:q1.i≤List.length d.plan.shapes∧E7 d.plan.shapes d.field q1.i=false:=hq_q1
 obtain ⟨v1,v2⟩:=hi_q1
 refine dsp (fun h2 p2=>?_) fun h2 p2=>?_
 refine⟨(Tu d.plan.shapes _ _ Q2 Q2),fun h3=>?_,fun h3=>?_⟩
 obtain ⟨o,ho⟩:=Option.isSome_iff_exists.1 h3
 have hg:(fieldAt d.plan.shapes (q1.i:Int) d.field.number).getD fld0=o:=by rw[ho];rfl
 refine⟨fun h4=>have p4:=(Cb dT (Cb dT (Cb dT (Cb dT dT)))).1 h4;?_,fun h4=>have p4:=(Cc dT (Cc dT (Cc dT (Cc dT dF)))).1 h4;?_⟩
 rw[hg] at p4
 have hkk:=Vx (by omega) (show (fieldAt d.plan.shapes (q1.i:Int) d.field.number)=some d.field by rw[ho,Abs p4])
 refine⟨(sB ?_),rfl⟩
 rotate_left
 rw[hg] at p4
 have hkn:E7 d.plan.shapes d.field (q1.i+1)=false:=Ln v2 (by rw[ho];intro e;exact Abt p4 (Option.some.inj e))
 exact⟨(Ac Q2 Q2),Bb (j:=(⟨q1.i+1⟩:F6)) Q9 rfl (by dsimp only[Ez];exact⟨by omega,hkn⟩) (by dsimp only[Ez];omega)⟩
 have hkn:E7 d.plan.shapes d.field (q1.i+1)=false:=Ln v2 (by intro e;rw[e] at h3;simp at h3)
 exact⟨(Ac Q2 Q2),Bb (j:=(⟨q1.i+1⟩:F6)) Q9 rfl (by dsimp only[Ez];exact⟨by omega,hkn⟩) (by dsimp only[Ez];omega)⟩
 have hkk:=Y7 v2 (by omega)
 refine⟨(sB ?_),rfl⟩
 rotate_left
 all_goals first|(simp[hkk];done)|((rw[hkk];simp_all[fld0];done))|((have hz:=Vy p1;simp[hz];done))|(grind[fld0])
theorem Sq {s:Scn} :s=scn0↔s.bits=0∧s.have_=0:=⟨fun h=>by subst h;exact⟨rfl,rfl⟩,fun h=>by cases s;simp_all[scn0]⟩
theorem Cs {f:Fld} :f=fld0↔f.number=0∧f.kind=0∧f.rep=false∧f.packed=false∧f.msg=0:=⟨fun h=>by subst h;exact⟨rfl,rfl,rfl,rfl,rfl⟩,Vy⟩
theorem Re {e:Ev} :e=ev0↔e.kind=0∧e.field=0∧e.bits=0∧e.len=0∧e.text=[]∧e.code=0∧e.at_=0:=⟨fun h=>by subst h;exact⟨rfl,rfl,rfl,rfl,rfl,rfl,rfl⟩,fun h=>Agt h⟩
theorem Gw (d:Dcd):0≤Bp d∧Bp d≤8:=by
 unfold Bp
 have h1:=Dx d.wire
 have h2:=Dx (B3 d.field.kind)
 split
 ·exact h1
 ·split
  ·exact h2
  ·omega
structure Lt where
 i:Nat
def Lu (d:Dcd):Fam:=⟨Lt,fun q1=>[(1,.v (vP 0)),(3,.v (vI ((List.length d.stack:Nat):Int))),(4,.v (vI ((q1.i:Nat):Int)))],fun _=>[.cells (Bu d)],fun q1=>q1.i≤List.length d.stack∧Uk (List.length d.plan.shapes:Int) (List.drop q1.i d.stack)+q1.i=Uk (List.length d.plan.shapes:Int) d.stack,fun q1=>List.length d.stack-q1.i⟩
theorem Adv (d:Dcd) (hp1:List.length (d).stack≤Bj) (hp2:List.length (d).plan.shapes≤1000):Fun Tryz.prog 124 [.agg (Bu d)] [] (.v (vB (Pe d))) []:=by
 have hN:Bj=274877906944:=rfl
 refine Ar Tryz.func124 Q4 Q4 (w:=let z7:=((List.length d.plan.shapes:Nat):Int)-1;let z8:=((List.length d.stack:Nat):Int);let z9:S:= .v (vB (Pe d));let z10:=Ak z8 1 d.plan.deep;let z11:=Lu d;(.seg [.at 0,.keep [1,3,4],.sel [0]] (.loop z11 fun q1=> .br (.intro (Sx (d.stack[q1.i]?)) fun x1=>let z1:=Ak x1.msg 0 z7;.case (!z1) (.seg [.ord (os 24 [12,21]) [],.el .lev x1,.as 24 (.v (vI z7)),.call [] (.v (vB z1)) [],.br true] (.leaf () [])) (.seg [.ord (os 24 [12,21]) [],.el .lev x1,.as 24 (.v (vI z7)),.call [] (.v (vB z1)) [],.br false,.el .lev x1,.call [] (.v (vB (Ak x1.left 0 2000))) []] (.br (.leaf () []) (.seg [.as 12 (.v (vI (((q1.i:Nat):Int)+1))),.at 0,.keep [1,3,4],.sel [0]] (.next))))) (.br (.leaf () []) (.br (.leaf () []) (.seg [.call [] (.v (vB z10)) []] (.br (.seg [.call [] (.v (vI (Dj d))) []] (.leaf () [])) (.leaf () [])))))),z11.Has [(1,.v (vP 0)),(3,.v (vI z8)),(4,.v (vI 0))] [.cells (Bu d)]∧∀q1,z11.inv q1→(let z6:=((q1.i:Nat):Int);let z5:=(0:Int)≤z6;Bc (decide (z6<z8)) (El (d.stack[q1.i]?) fun x1=>(let z2:=Ak x1.msg 0 z7;let z3:=d.stack[q1.i]? =some x1;let z4:List V:=[vI x1.msg,vI 0,vI z7];Bc (!z2) (z3∧z5∧z3∧z5∧(wI z7)∧(wI z7)∧(Fp 44 z4 [] (.v (vB z2)) [])∧((!z2)=true)∧Lf (.v (vB false)) z9 [] []) (z3∧z5∧z3∧z5∧(wI z7)∧(wI z7)∧(Fp 44 z4 [] (.v (vB z2)) [])∧((!z2)=false)∧z3∧z5∧z3∧z5∧(Fp 44 [vI x1.left,vI 0,vI 2000] [] (.v (vB (Ak x1.left 0 2000))) [])∧Bc (!(Ak x1.left 0 2000)) (Lf (.v (vB false)) z9 [] []) ((wI (z6+1))∧z11.Nxt q1 [(1,.v (vP 0)),(3,.v (vI z8)),(4,.v (vI (z6+1)))] [.cells (Bu d)])))) (Bc (decide (d.mode=1)) (Lf (.v (vB (decide (z8=0)))) z9 [] []) (Bc (decide (d.mode=9)) (Lf (.v (vB (decide (z8≤d.plan.deep)))) z9 [] []) ((Fp 44 [vI z8,vI 1,vI d.plan.deep] [] (.v (vB z10)) [])∧Bc z10 ((Fp 126 [.agg (Bu d)] [] (.v (vI (Dj d))) [])∧Lf (.v (vB (decide (1≤Dj d)))) z9 [] []) (Lf (.v (vB false)) z9 [] []))))))) Q4 ?_
 refine⟨Bh (j:=(⟨0⟩:Lt)) Q9 rfl (by dsimp only[Lu];exact⟨by omega,rfl⟩),fun (q1:Lt) hq_q1=>?_⟩
 have hi_q1:q1.i≤List.length d.stack∧Uk (List.length d.plan.shapes:Int) (List.drop q1.i d.stack)+q1.i=Uk (List.length d.plan.shapes:Int) d.stack:=hq_q1
 obtain ⟨v1,v2⟩:=hi_q1
 refine dsp (fun h1 p1=>?_) fun h1 p1=>?_
 refine⟨(Bg (l:=d.stack) (i:=q1.i) Q2),fun x1 hx1=>?_⟩
 rw[Ff hx1,Qb] at v2
 refine⟨fun h2=>have q2:=Ao h2;have p2:=Aw q2;?_,fun h2=>have q2:=An h2;have p2:=Aq q2;?_⟩
 refine⟨hx1,Q2,hx1,Q2,(Ac Q2 Q2),(Ac Q2 Q2),(Ba _ _ _),h2,(sB ?_),rfl⟩
 rotate_left
 refine⟨hx1,Q2,hx1,Q2,(Ac Q2 Q2),(Ac Q2 Q2),(Ba _ _ _),h2,hx1,Q2,hx1,Q2,(Ba _ _ _),fun h3=>have q3:=Ao h3;have p3:=Aw q3;?_,fun h3=>have q3:=An h3;have p3:=Aq q3;?_⟩
 refine⟨(sB ?_),rfl⟩
 rotate_left
 exact⟨(Ac Q2 Q2),Bb (j:=(⟨q1.i+1⟩:Lt)) Q9 rfl (by dsimp only[Lu];exact⟨by omega,by simp_all[Ek];omega⟩) (by dsimp only[Lu];omega)⟩
 have hal:List.all d.stack (Ek (List.length d.plan.shapes:Int))=true:=by rw[Lk];rw[List.drop_eq_nil_of_le (by omega)] at v2;simp only[Uk] at v2;exact decide_eq_true (by omega)
 refine dsp (fun h2 p2=>?_) fun h2 p2=>?_
 refine⟨(sB ?_),rfl⟩
 rotate_left
 refine dsp (fun h3 p3=>?_) fun h3 p3=>?_
 refine⟨(sB ?_),rfl⟩
 rotate_left
 refine⟨(Ba _ _ _),fun h4=>have p4:=Aq h4;?_,fun h4=>have p4:=Aw h4;?_⟩
 refine⟨(Mo d Q2),(sB ?_),rfl⟩
 rotate_left
 refine⟨(sB ?_),rfl⟩
 rotate_left
 all_goals first|(simp_all[Pe];done)|((have hal:List.all d.stack (Ek (List.length d.plan.shapes:Int))=false:=(by rw[Lk];rw[if_neg (by simp_all[Ek])] at v2;exact decide_eq_false (by have:=congrArg List.length (Ff hx1);simp only[List.length_drop,List.length_cons] at this;omega));simp[Pe,hal];done))|(grind[Pe])
theorem Nb (d:Dcd) (hp1:List.length (d).stack≤Bj):Fun Tryz.prog 130 [.agg (Bu d)] [] (.v (vB (X8 d))) []:=by
 have hN:Bj=274877906944:=rfl
 have hwd:=Gw d
 refine Ar Tryz.func130 Q4 Q4 (w:=let z3:S:= .v (vB (X8 d));let z4:S:= .v (vB (Db d.scan));let z5:=8*d.scan.have_;let z7:S:= .v (vB (decide (d.scan.bits=0)&&decide (d.scan.have_=0)));let z8:=Lf (.v (vB false)) z3 [] [];let z10:=decide (d.mode=8);let z11:=Bp d-1;let z2:=Ak d.scan.have_ 0 z11;let z12:S:= .v (vI (Dj d));let z13:=decide (Int.fdiv d.scan.bits (2 ^ min (Int.toNat z5) 64)=0);let z14:List V:=[vI d.scan.have_,vI 0,vI z11];let z15:S:= .v (vB z2);let z16:S:= .v (.c (.int .u64 z5));let z17:=Bp d;let z6:=(.v (vI (IntKind.i64.wrap (z17-1))):S)= .v (vI z11);let z9:=z17-d.scan.have_;let z1:=(wI z5)∧(wU z5)∧((0:Int)≤8*d.scan.have_)∧Bc z13 ((wI z9)∧Lf (.v (vB (decide (z17-d.scan.have_≤d.want)))) z3 [] []) z8;(.seg [.call [] (.v (vI z17)) []] (.br (.seg [.br true] (.leaf () [])) (.br (.seg [.br true] (.leaf () [])) (.br (.leaf () []) (.br (.seg [.br true] (.br (.br (.seg [.call [] z4 []] (.leaf () [])) (.seg [.call [] z12 [],.br true,.as 41 (.v (vI z11)),.call [] z15 []] (.br (.seg [.as 50 (.v (vI z5)),.as 51 z16] (.br (.seg [.as 60 (.v (vI z9))] (.leaf () [])) (.leaf () []))) (.leaf () [])))) (.seg [.call [] z12 [],.br false,.as 41 (.v (vI z11)),.call [] z15 []] (.br (.seg [.as 50 (.v (vI z5)),.as 51 z16] (.br (.seg [.as 60 (.v (vI z9))] (.leaf () [])) (.leaf () []))) (.leaf () []))))) (.br (.seg [.br true] (.br (.seg [.call [] z4 []] (.leaf () [])) (.seg [.call [] z12 [],.br true,.as 41 (.v (vI z11)),.call [] z15 []] (.br (.seg [.as 50 (.v (vI z5)),.as 51 z16] (.br (.seg [.as 60 (.v (vI z9))] (.leaf () [])) (.leaf () []))) (.leaf () []))))) (.seg [.call [] z4 []] (.leaf () []))))))),(Fp 61 [.agg (Bu d)] [] (.v (vI z17)) [])∧Bc (decide (d.mode=6)) (((decide (d.mode=6))=true)∧Lf z7 z3 [] []) (Bc (decide (d.mode=7)) (((decide (d.mode=7))=true)∧Lf z7 z3 [] []) (Bc (decide (d.mode=9)) (Lf z7 z3 [] []) (Bc (decide (d.mode=5)) (((decide (d.mode=5))=true)∧Bc z10 (Bc (decide (Bp d=0)) ((Fp 189 [.agg (Jt d.scan)] [] z4 [])∧Lf z4 z3 [] []) ((Fp 126 [.agg (Bu d)] [] z12 [])∧(z10=true)∧z6∧(Fp 44 z14 [] z15 [])∧Bc z2 z1 z8)) ((Fp 126 [.agg (Bu d)] [] z12 [])∧(z10=false)∧z6∧(Fp 44 z14 [] z15 [])∧Bc z2 ((wI z5)∧(wU z5)∧((0:Int)≤8*d.scan.have_)∧Bc z13 ((wI z9)∧Lf (.v (vB (decide (z17-d.scan.have_≤Dj d)))) z3 [] []) z8) z8)) (Bc z10 ((z10=true)∧Bc (decide (Bp d=0)) ((Fp 189 [.agg (Jt d.scan)] [] z4 [])∧Lf z4 z3 [] []) ((Fp 126 [.agg (Bu d)] [] z12 [])∧(z10=true)∧z6∧(Fp 44 z14 [] z15 [])∧Bc z2 z1 z8)) ((Fp 189 [.agg (Jt d.scan)] [] z4 [])∧Lf z4 z3 [] []))))))) Q4 ?_
 refine⟨(Ho d),dsp (fun h1 p1=>?_) fun h1 p1=>?_⟩
 refine⟨h1,(sB ?_),rfl⟩
 rotate_left
 refine dsp (fun h2 p2=>?_) fun h2 p2=>?_
 refine⟨h2,(sB ?_),rfl⟩
 rotate_left
 refine dsp (fun h3 p3=>?_) fun h3 p3=>?_
 refine⟨(sB ?_),rfl⟩
 rotate_left
 refine dsp (fun h4 p4=>?_) fun h4 p4=>?_
 refine⟨h4,dsp (fun h5 p5=>?_) fun h5 p5=>?_⟩
 refine dsp (fun h6 p6=>?_) fun h6 p6=>?_
 refine⟨(Sp d.scan),(sB ?_),rfl⟩
 rotate_left
 refine⟨(Mo d Q2),h5,(Ac Q2 Q2),(Ba _ _ _),fun h7=>have p7:=Aq h7;?_,fun h7=>have p7:=Aw h7;?_⟩
 refine⟨(Ac Q2 Q2),(Bt Q2 Q2),Q2,dsp (fun h8 p8=>?_) fun h8 p8=>?_⟩
 refine⟨(Ac Q2 Q2),(sB ?_),rfl⟩
 rotate_left
 refine⟨(sB ?_),rfl⟩
 rotate_left
 refine⟨(sB ?_),rfl⟩
 rotate_left
 refine⟨(Mo d Q2),h5,(Ac Q2 Q2),(Ba _ _ _),fun h6=>have p6:=Aq h6;?_,fun h6=>have p6:=Aw h6;?_⟩
 refine⟨(Ac Q2 Q2),(Bt Q2 Q2),Q2,dsp (fun h7 p7=>?_) fun h7 p7=>?_⟩
 refine⟨(Ac Q2 Q2),(sB ?_),rfl⟩
 rotate_left
 refine⟨(sB ?_),rfl⟩
 rotate_left
 refine⟨(sB ?_),rfl⟩
 rotate_left
 refine dsp (fun h5 p5=>?_) fun h5 p5=>?_
 refine⟨h5,dsp (fun h6 p6=>?_) fun h6 p6=>?_⟩
 refine⟨(Sp d.scan),(sB ?_),rfl⟩
 rotate_left
 refine⟨(Mo d Q2),h5,(Ac Q2 Q2),(Ba _ _ _),fun h7=>have p7:=Aq h7;?_,fun h7=>have p7:=Aw h7;?_⟩
 refine⟨(Ac Q2 Q2),(Bt Q2 Q2),Q2,dsp (fun h8 p8=>?_) fun h8 p8=>?_⟩
 refine⟨(Ac Q2 Q2),(sB ?_),rfl⟩
 rotate_left
 refine⟨(sB ?_),rfl⟩
 rotate_left
 refine⟨(sB ?_),rfl⟩
 rotate_left
 refine⟨(Sp d.scan),(sB ?_),rfl⟩
 rotate_left
 all_goals first|(simp_all[X8,Ags,Na,Sq];done)|(grind[X8,Ags,Na,Sq])
theorem Cj (d:Dcd) (hp1:List.length (d).stack≤Bj):Fun Tryz.prog 110 [.agg (Bu d)] [] (.v (vB (Ju d))) []:=by
 have hN:Bj=274877906944:=rfl
 have hwd:=Gw d
 refine Ar Tryz.func110 Q4 Q4 (w:=let z3:=8*d.scan.have_;let z7:S:= .v (vB (Ju d));let z1:=Lf (.v (vB (decide (d.scan.bits=0)&&decide (d.scan.have_=0)))) z7 [] [];let z4:=Lf (.v (vB false)) z7 [] [];let z8:=decide (Int.fdiv d.scan.bits (2 ^ min (Int.toNat z3) 64)=0);let z9:=Bp d-1;let z2:=Ak d.scan.have_ 0 z9;let z10:S:= .v (vB (Db d.scan));let z11:=Bp d;let z5:=(.v (vI (IntKind.i64.wrap (z11-1))):S)= .v (vI z9);let z6:=z11-d.scan.have_;(.seg [.call [] (.v (vI z11)) []] (.br (.seg [.call [] (.v (vI (Dj d))) []] (.br (.seg [.as 21 (.v (vI z9)),.call [] (.v (vB z2)) []] (.br (.seg [.as 30 (.v (vI z3)),.as 31 (.v (.c (.int .u64 z3)))] (.br (.seg [.as 40 (.v (vI z6))] (.leaf () [])) (.leaf () []))) (.leaf () []))) (.seg [.as 21 (.v (vI z9)),.call [] (.v (vB z2)) []] (.br (.seg [.as 30 (.v (vI z3)),.as 31 (.v (.c (.int .u64 z3)))] (.br (.seg [.as 40 (.v (vI z6))] (.leaf () [])) (.leaf () []))) (.leaf () []))))) (.br (.leaf () []) (.br (.leaf () []) (.br (.leaf () []) (.seg [.call [] z10 []] (.leaf () [])))))),(Fp 118 [.agg (Bu d)] [] (.v (vI z11)) [])∧Bc (decide (0<Bp d)) ((Fp 108 [.agg (Bu d)] [] (.v (vI (Dj d))) [])∧Bc (decide (d.mode=8)) (z5∧(Fp 97 [vI d.scan.have_,vI 0,vI z9] [] (.v (vB z2)) [])∧Bc z2 ((wI z3)∧(wU z3)∧((0:Int)≤8*d.scan.have_)∧Bc z8 ((wI z6)∧Lf (.v (vB (decide (z11-d.scan.have_≤d.want)))) z7 [] []) z4) z4) (z5∧(Fp 97 [vI d.scan.have_,vI 0,vI z9] [] (.v (vB z2)) [])∧Bc z2 ((wI z3)∧(wU z3)∧((0:Int)≤8*d.scan.have_)∧Bc z8 ((wI z6)∧Lf (.v (vB (decide (z11-d.scan.have_≤Dj d)))) z7 [] []) z4) z4)) (Bc (decide (d.mode=6)) z1 (Bc (decide (d.mode=7)) z1 (Bc (decide (d.mode=9)) z1 ((Fp 172 [.agg (Jt d.scan)] [] z10 [])∧Lf z10 z7 [] [])))))) Q4 ?_
 refine⟨(Nv d),dsp (fun h1 p1=>?_) fun h1 p1=>?_⟩
 refine⟨(Dr d Q2),dsp (fun h2 p2=>?_) fun h2 p2=>?_⟩
 refine⟨(Ac Q2 Q2),(B8 _ _ _),fun h3=>have p3:=Aq h3;?_,fun h3=>have p3:=Aw h3;?_⟩
 refine⟨(Ac Q2 Q2),(Bt Q2 Q2),Q2,dsp (fun h4 p4=>?_) fun h4 p4=>?_⟩
 refine⟨(Ac Q2 Q2),(sB ?_),rfl⟩
 rotate_left
 refine⟨(sB ?_),rfl⟩
 rotate_left
 refine⟨(sB ?_),rfl⟩
 rotate_left
 refine⟨(Ac Q2 Q2),(B8 _ _ _),fun h3=>have p3:=Aq h3;?_,fun h3=>have p3:=Aw h3;?_⟩
 refine⟨(Ac Q2 Q2),(Bt Q2 Q2),Q2,dsp (fun h4 p4=>?_) fun h4 p4=>?_⟩
 refine⟨(Ac Q2 Q2),(sB ?_),rfl⟩
 rotate_left
 refine⟨(sB ?_),rfl⟩
 rotate_left
 refine⟨(sB ?_),rfl⟩
 rotate_left
 refine dsp (fun h2 p2=>?_) fun h2 p2=>?_
 refine⟨(sB ?_),rfl⟩
 rotate_left
 refine dsp (fun h3 p3=>?_) fun h3 p3=>?_
 refine⟨(sB ?_),rfl⟩
 rotate_left
 refine dsp (fun h4 p4=>?_) fun h4 p4=>?_
 refine⟨(sB ?_),rfl⟩
 rotate_left
 refine⟨(Zd d.scan),(sB ?_),rfl⟩
 rotate_left
 all_goals first|(simp_all[Ju,Na,Sq];done)|(grind[Ju,Na,Sq])
theorem Ck (d:Dcd) (hp1:List.length (d).stack≤Bj):Fun Tryz.prog 109 [.agg (Bu d)] [] (.v (vB (Hd d&&He d))) []:=by
 have hN:Bj=274877906944:=rfl
 have hww:Ay d.wire=0∨0≤d.wire:=by unfold Ay;split<;>(try split)<;>omega
 refine Ar Tryz.func109 Q4 Q4 (w:=let z1:= !(!(decide (d.field.number=0)&&(decide (d.field.kind=0)&&(decide (d.field.rep=false)&&(decide (d.field.packed=false)&&decide (d.field.msg=0))))));let z2:S:= .v (vB (Hd d&&He d));let z3:S:= .v (vB (C4 d.field d.wire));let z4:=Lf (.v (vB false)) z2 [] [];let z5:=Lf (.v (vB true)) z2 [] [];let z6:=Ak d.want 1 (Dj d);let z7:S:= .v (vB (Rx d.field));let z8:=decide (d.mode=6);let z9:=E6 d.field;let z10:S:= .v (vI (Dj d));let z11:S:= .v (vI (Ay d.wire));let z12:=decide (d.mode=8);let z13:List V:=[vI d.want,vI 1,vI (Dj d)];let z14:S:= .v (vB z6);(.br (.seg [.br true,.ord (os 6 [3,4]) [],.call [] z10 [],.call [] z14 []] (.br (.leaf () []) (.seg [.br true] (.br (.leaf () []) (.leaf () []))))) (.br (.seg [.br true,.ord (os 6 [3,4]) [],.call [] z10 [],.call [] z14 []] (.br (.leaf () []) (.seg [.br false] (.br (.seg [.call [] z7 []] (.leaf () [])) (.br (.br (.br (.leaf () []) (.seg [.call [] z3 []] (.leaf () []))) (.leaf () [])) (.br (.br (.br (.leaf () []) (.seg [.call [] z3 []] (.leaf () []))) (.leaf () [])) (.br (.seg [.call [] z11 []] (.br (.br (.leaf () []) (.seg [.call [] z3 []] (.leaf () []))) (.leaf () []))) (.leaf () [])))))))) (.br (.seg [.ord (os 6 [3,4]) [],.call [] z10 [],.call [] z14 []] (.br (.leaf () []) (.seg [.br false,.br true,.call [] z7 []] (.leaf () [])))) (.br (.leaf () []) (.seg [.br false,.br false] (.br (.br (.br (.leaf () []) (.seg [.call [] z3 []] (.leaf () []))) (.leaf () [])) (.br (.br (.br (.leaf () []) (.seg [.call [] z3 []] (.leaf () []))) (.leaf () [])) (.br (.seg [.call [] z11 []] (.br (.br (.leaf () []) (.seg [.call [] z3 []] (.leaf () []))) (.leaf () []))) (.leaf () [])))))))),Bc z8 ((z8=true)∧(Fp 108 [.agg (Bu d)] [] z10 [])∧(Fp 97 z13 [] z14 [])∧Bc (!z6) z4 ((z8=true)∧Bc (decide (d.field.kind=6)) z5 (Lf (.v (vB (decide (d.field.kind=7)))) z2 [] []))) (Bc (decide (d.mode=7)) (((decide (d.mode=7))=true)∧(Fp 108 [.agg (Bu d)] [] z10 [])∧(Fp 97 z13 [] z14 [])∧Bc (!z6) z4 ((z8=false)∧Bc z12 ((Fp 169 [.agg z9] [] z7 [])∧Lf z7 z2 [] []) (Bc (decide (d.mode=3)) (Bc (decide (d.wire=0)) (Bc z1 z5 ((Fp 170 [.agg z9,vI d.wire] [] z3 [])∧Lf z3 z2 [] [])) z4) (Bc (decide (d.mode=4)) (Bc (decide (d.wire=2)) (Bc z1 z5 ((Fp 170 [.agg z9,vI d.wire] [] z3 [])∧Lf z3 z2 [] [])) z4) (Bc (decide (d.mode=5)) ((Fp 171 [vI d.wire] [] z11 [])∧Bc (decide (0<Ay d.wire)) (Bc z1 z5 ((Fp 170 [.agg z9,vI d.wire] [] z3 [])∧Lf z3 z2 [] [])) z4) z5))))) (Bc z12 ((Fp 108 [.agg (Bu d)] [] z10 [])∧(Fp 97 z13 [] z14 [])∧Bc (!z6) z4 ((z8=false)∧(z12=true)∧(Fp 169 [.agg z9] [] z7 [])∧Lf z7 z2 [] [])) (Bc (!decide (d.want=0)) z4 ((z8=false)∧(z12=false)∧Bc (decide (d.mode=3)) (Bc (decide (d.wire=0)) (Bc z1 z5 ((Fp 170 [.agg z9,vI d.wire] [] z3 [])∧Lf z3 z2 [] [])) z4) (Bc (decide (d.mode=4)) (Bc (decide (d.wire=2)) (Bc z1 z5 ((Fp 170 [.agg z9,vI d.wire] [] z3 [])∧Lf z3 z2 [] [])) z4) (Bc (decide (d.mode=5)) ((Fp 171 [vI d.wire] [] z11 [])∧Bc (decide (0<Ay d.wire)) (Bc z1 z5 ((Fp 170 [.agg z9,vI d.wire] [] z3 [])∧Lf z3 z2 [] [])) z4) z5)))))))) Q4 ?_
 refine dsp (fun h1 p1=>?_) fun h1 p1=>?_
 refine⟨h1,(Dr d Q2),(B8 _ _ _),fun h2=>have q2:=Ao h2;have p2:=Aw q2;?_,fun h2=>have q2:=An h2;have p2:=Aq q2;?_⟩
 refine⟨(sB ?_),rfl⟩
 rotate_left
 refine⟨h1,dsp (fun h3 p3=>?_) fun h3 p3=>?_⟩
 refine⟨(sB ?_),rfl⟩
 rotate_left
 refine⟨(sB ?_),rfl⟩
 rotate_left
 refine dsp (fun h2 p2=>?_) fun h2 p2=>?_
 refine⟨h2,(Dr d Q2),(B8 _ _ _),fun h3=>have q3:=Ao h3;have p3:=Aw q3;?_,fun h3=>have q3:=An h3;have p3:=Aq q3;?_⟩
 refine⟨(sB ?_),rfl⟩
 rotate_left
 refine⟨h1,dsp (fun h4 p4=>?_) fun h4 p4=>?_⟩
 refine⟨(Ab0 d.field),(sB ?_),rfl⟩
 rotate_left
 refine dsp (fun h5 p5=>?_) fun h5 p5=>?_
 refine dsp (fun h6 p6=>?_) fun h6 p6=>?_
 refine⟨fun h7=>have q7:=Ao h7;have q7':=An q7;have p7:=(Cb dT (Cb dT (Cb dT (Cb dT dT)))).1 q7';?_,fun h7=>have q7:=An h7;have q7':=Ao q7;have p7:=(Cc dT (Cc dT (Cc dT (Cc dT dF)))).1 q7';?_⟩
 refine⟨(sB ?_),rfl⟩
 rotate_left
 refine⟨(Jj d.field _ Q2),(sB ?_),rfl⟩
 rotate_left
 refine⟨(sB ?_),rfl⟩
 rotate_left
 refine dsp (fun h6 p6=>?_) fun h6 p6=>?_
 refine dsp (fun h7 p7=>?_) fun h7 p7=>?_
 refine⟨fun h8=>have q8:=Ao h8;have q8':=An q8;have p8:=(Cb dT (Cb dT (Cb dT (Cb dT dT)))).1 q8';?_,fun h8=>have q8:=An h8;have q8':=Ao q8;have p8:=(Cc dT (Cc dT (Cc dT (Cc dT dF)))).1 q8';?_⟩
 refine⟨(sB ?_),rfl⟩
 rotate_left
 refine⟨(Jj d.field _ Q2),(sB ?_),rfl⟩
 rotate_left
 refine⟨(sB ?_),rfl⟩
 rotate_left
 refine dsp (fun h7 p7=>?_) fun h7 p7=>?_
 refine⟨(Ep _),dsp (fun h8 p8=>?_) fun h8 p8=>?_⟩
 refine⟨fun h9=>have q9:=Ao h9;have q9':=An q9;have p9:=(Cb dT (Cb dT (Cb dT (Cb dT dT)))).1 q9';?_,fun h9=>have q9:=An h9;have q9':=Ao q9;have p9:=(Cc dT (Cc dT (Cc dT (Cc dT dF)))).1 q9';?_⟩
 refine⟨(sB ?_),rfl⟩
 rotate_left
 refine⟨(Jj d.field _ Q2),(sB ?_),rfl⟩
 rotate_left
 refine⟨(sB ?_),rfl⟩
 rotate_left
 refine⟨(sB ?_),rfl⟩
 rotate_left
 refine dsp (fun h3 p3=>?_) fun h3 p3=>?_
 refine⟨(Dr d Q2),(B8 _ _ _),fun h4=>have q4:=Ao h4;have p4:=Aw q4;?_,fun h4=>have q4:=An h4;have p4:=Aq q4;?_⟩
 refine⟨(sB ?_),rfl⟩
 rotate_left
 refine⟨h1,h3,(Ab0 d.field),(sB ?_),rfl⟩
 rotate_left
 refine⟨fun h4=>have q4:=Ao h4;have p4:=of_decide_eq_false q4;?_,fun h4=>have q4:=An h4;have p4:=of_decide_eq_true q4;?_⟩
 refine⟨(sB ?_),rfl⟩
 rotate_left
 refine⟨h1,h3,dsp (fun h5 p5=>?_) fun h5 p5=>?_⟩
 refine dsp (fun h6 p6=>?_) fun h6 p6=>?_
 refine⟨fun h7=>have q7:=Ao h7;have q7':=An q7;have p7:=(Cb dT (Cb dT (Cb dT (Cb dT dT)))).1 q7';?_,fun h7=>have q7:=An h7;have q7':=Ao q7;have p7:=(Cc dT (Cc dT (Cc dT (Cc dT dF)))).1 q7';?_⟩
 refine⟨(sB ?_),rfl⟩
 rotate_left
 refine⟨(Jj d.field _ Q2),(sB ?_),rfl⟩
 rotate_left
 refine⟨(sB ?_),rfl⟩
 rotate_left
 refine dsp (fun h6 p6=>?_) fun h6 p6=>?_
 refine dsp (fun h7 p7=>?_) fun h7 p7=>?_
 refine⟨fun h8=>have q8:=Ao h8;have q8':=An q8;have p8:=(Cb dT (Cb dT (Cb dT (Cb dT dT)))).1 q8';?_,fun h8=>have q8:=An h8;have q8':=Ao q8;have p8:=(Cc dT (Cc dT (Cc dT (Cc dT dF)))).1 q8';?_⟩
 refine⟨(sB ?_),rfl⟩
 rotate_left
 refine⟨(Jj d.field _ Q2),(sB ?_),rfl⟩
 rotate_left
 refine⟨(sB ?_),rfl⟩
 rotate_left
 refine dsp (fun h7 p7=>?_) fun h7 p7=>?_
 refine⟨(Ep _),dsp (fun h8 p8=>?_) fun h8 p8=>?_⟩
 refine⟨fun h9=>have q9:=Ao h9;have q9':=An q9;have p9:=(Cb dT (Cb dT (Cb dT (Cb dT dT)))).1 q9';?_,fun h9=>have q9:=An h9;have q9':=Ao q9;have p9:=(Cc dT (Cc dT (Cc dT (Cc dT dF)))).1 q9';?_⟩
 refine⟨(sB ?_),rfl⟩
 rotate_left
 refine⟨(Jj d.field _ Q2),(sB ?_),rfl⟩
 rotate_left
 refine⟨(sB ?_),rfl⟩
 rotate_left
 refine⟨(sB ?_),rfl⟩
 rotate_left
 all_goals first|(simp_all[Hd,He,Aex,Cs,Fh];done)|(grind[Hd,He,Aex,Cs,Fh])
theorem Ze {w:Int} (h:Dh w=true):0≤w∧w≤5:=by simp[Dh] at h;omega
theorem Z9 {d:Dcd} (h:A9 d=true):Da d.plan=true:=by simp only[A9,Bool.and_eq_true] at h;exact h.1.1
theorem Afs (d:Dcd) (hp1:List.length (d).stack≤Bj) (hp2:List.length (d).plan.shapes≤Bj):Fun Tryz.prog 51 [.agg (Bu d)] [] (.v (vB (D2 d))) []:=by
 have hN:Bj=274877906944:=rfl
 refine Ar Tryz.func51 Q4 Q4 (w:=let z3:S:= .v (vB (Ju d));let z4:= !(decide (d.end_.kind=0)&&(decide (d.end_.field=0)&&(decide (d.end_.bits=0)&&(decide (d.end_.len=0)&&(decide (d.end_.text=[])&&(decide (d.end_.code=0)&&decide (d.end_.at_=0)))))));let z5:=Hd d&&He d;let z2:S:= .v (vB z5);let z6:S:= .v (vB (D2 d));let z1:=Lf (.v (vB false)) z6 [] [];let z7:= !decide (d.mode=9);let z8:=decide (0<((List.length d.stack:Nat):Int));let z9:= !decide (d.mode=1);let z10:S:= .v (vI (Dj d));let z11:=decide (d.mode=1);let z12:=decide (Dj d<1);let z13:S:= .v (vB (Do d.end_));let z14:S:= .v (vB (E5 d.end_));let z15:=z7=false;let z16:=Hf (d.plan).shapes d.field;let z17:=z7=true;let z18:=Ak d.at_ 0 1000000000;let z19:=Ak d.start 0 d.at_;let z20:=Ak d.mode 1 9;(.seg [.call [] (.v (vB (A9 d))) []] (.br (.leaf () []) (.seg [.call [] (.v (vB z20)) []] (.br (.leaf () []) (.seg [.call [] (.v (vB z18)) []] (.br (.leaf () []) (.seg [.call [] (.v (vB z19)) []] (.br (.leaf () []) (.seg [.call [] (.v (vB (Ed d.utf))) []] (.br (.leaf () []) (.seg [.call [] (.v (vB (Dh d.wire))) []] (.br (.leaf () []) (.br (.seg [.call [] (.v (vB z16)) []] (.br (.leaf () []) (.br (.seg [.call [] z14 []] (.br (.leaf () []) (.seg [.call [] z13 []] (.br (.leaf () []) (.br (.br (.leaf () []) (.br (.br (.leaf () []) (.br (.seg [.br true,.call [] z10 []] (.br (.leaf () []) (.seg [.call [] z2 []] (.br (.seg [.call [] z3 []] (.leaf () [])) (.leaf () []))))) (.seg [.call [] z2 []] (.br (.seg [.call [] z3 []] (.leaf () [])) (.leaf () []))))) (.br (.seg [.br true,.call [] z10 []] (.br (.leaf () []) (.seg [.call [] z2 []] (.br (.seg [.call [] z3 []] (.leaf () [])) (.leaf () []))))) (.seg [.call [] z2 []] (.br (.seg [.call [] z3 []] (.leaf () [])) (.leaf () [])))))) (.br (.br (.leaf () []) (.br (.seg [.br false,.call [] z2 []] (.br (.seg [.call [] z3 []] (.leaf () [])) (.leaf () []))) (.seg [.call [] z2 []] (.br (.seg [.call [] z3 []] (.leaf () [])) (.leaf () []))))) (.br (.seg [.br false,.call [] z2 []] (.br (.seg [.call [] z3 []] (.leaf () [])) (.leaf () []))) (.seg [.call [] z2 []] (.br (.seg [.call [] z3 []] (.leaf () [])) (.leaf () [])))))))))) (.br (.br (.leaf () []) (.br (.br (.leaf () []) (.br (.seg [.br true,.call [] z10 []] (.br (.leaf () []) (.seg [.call [] z2 []] (.br (.seg [.call [] z3 []] (.leaf () [])) (.leaf () []))))) (.seg [.call [] z2 []] (.br (.seg [.call [] z3 []] (.leaf () [])) (.leaf () []))))) (.br (.seg [.br true,.call [] z10 []] (.br (.leaf () []) (.seg [.call [] z2 []] (.br (.seg [.call [] z3 []] (.leaf () [])) (.leaf () []))))) (.seg [.call [] z2 []] (.br (.seg [.call [] z3 []] (.leaf () [])) (.leaf () [])))))) (.br (.br (.leaf () []) (.br (.seg [.br false,.call [] z2 []] (.br (.seg [.call [] z3 []] (.leaf () [])) (.leaf () []))) (.seg [.call [] z2 []] (.br (.seg [.call [] z3 []] (.leaf () [])) (.leaf () []))))) (.br (.seg [.br false,.call [] z2 []] (.br (.seg [.call [] z3 []] (.leaf () [])) (.leaf () []))) (.seg [.call [] z2 []] (.br (.seg [.call [] z3 []] (.leaf () [])) (.leaf () []))))))))) (.br (.seg [.call [] z14 []] (.br (.leaf () []) (.seg [.call [] z13 []] (.br (.leaf () []) (.br (.br (.leaf () []) (.br (.br (.leaf () []) (.br (.seg [.br true,.call [] z10 []] (.br (.leaf () []) (.seg [.call [] z2 []] (.br (.seg [.call [] z3 []] (.leaf () [])) (.leaf () []))))) (.seg [.call [] z2 []] (.br (.seg [.call [] z3 []] (.leaf () [])) (.leaf () []))))) (.br (.seg [.br true,.call [] z10 []] (.br (.leaf () []) (.seg [.call [] z2 []] (.br (.seg [.call [] z3 []] (.leaf () [])) (.leaf () []))))) (.seg [.call [] z2 []] (.br (.seg [.call [] z3 []] (.leaf () [])) (.leaf () [])))))) (.br (.br (.leaf () []) (.br (.seg [.br false,.call [] z2 []] (.br (.seg [.call [] z3 []] (.leaf () [])) (.leaf () []))) (.seg [.call [] z2 []] (.br (.seg [.call [] z3 []] (.leaf () [])) (.leaf () []))))) (.br (.seg [.br false,.call [] z2 []] (.br (.seg [.call [] z3 []] (.leaf () [])) (.leaf () []))) (.seg [.call [] z2 []] (.br (.seg [.call [] z3 []] (.leaf () [])) (.leaf () [])))))))))) (.br (.br (.leaf () []) (.br (.br (.leaf () []) (.br (.seg [.br true,.call [] z10 []] (.br (.leaf () []) (.seg [.call [] z2 []] (.br (.seg [.call [] z3 []] (.leaf () [])) (.leaf () []))))) (.seg [.call [] z2 []] (.br (.seg [.call [] z3 []] (.leaf () [])) (.leaf () []))))) (.br (.seg [.br true,.call [] z10 []] (.br (.leaf () []) (.seg [.call [] z2 []] (.br (.seg [.call [] z3 []] (.leaf () [])) (.leaf () []))))) (.seg [.call [] z2 []] (.br (.seg [.call [] z3 []] (.leaf () [])) (.leaf () [])))))) (.br (.br (.leaf () []) (.br (.seg [.br false,.call [] z2 []] (.br (.seg [.call [] z3 []] (.leaf () [])) (.leaf () []))) (.seg [.call [] z2 []] (.br (.seg [.call [] z3 []] (.leaf () [])) (.leaf () []))))) (.br (.seg [.br false,.call [] z2 []] (.br (.seg [.call [] z3 []] (.leaf () [])) (.leaf () []))) (.seg [.call [] z2 []] (.br (.seg [.call [] z3 []] (.leaf () [])) (.leaf () []))))))))))))))))))),(Fp 102 [.agg (Bu d)] [] (.v (vB (A9 d))) [])∧Bc (!(A9 d)) z1 ((Fp 97 [vI d.mode,vI 1,vI 9] [] (.v (vB z20)) [])∧Bc (!z20) z1 ((Fp 97 [vI d.at_,vI 0,vI 1000000000] [] (.v (vB z18)) [])∧Bc (!z18) z1 ((Fp 97 [vI d.start,vI 0,vI d.at_] [] (.v (vB z19)) [])∧Bc (!z19) z1 ((Fp 103 [.agg (Jg d.utf)] [] (.v (vB (Ed d.utf))) [])∧Bc (!(Ed d.utf)) z1 ((Fp 104 [vI d.wire] [] (.v (vB (Dh d.wire))) [])∧Bc (!(Dh d.wire)) z1 (Bc (!(decide (d.field.number=0)&&(decide (d.field.kind=0)&&(decide (d.field.rep=false)&&(decide (d.field.packed=false)&&decide (d.field.msg=0)))))) ((Fp 105 [.agg (Mt d.plan),.agg (E6 d.field)] [] (.v (vB z16)) [])∧Bc (!z16) z1 (Bc (decide (d.mode=9)) ((Fp 106 [.agg (cEv d.end_)] [] z14 [])∧Bc (!(E5 d.end_)) z1 ((Fp 107 [.agg (cEv d.end_)] [] z13 [])∧Bc (!(Do d.end_)) z1 (Bc z7 (Bc z4 z1 (Bc z11 (Bc z8 z1 (Bc z9 (z17∧(Fp 108 [.agg (Bu d)] [] z10 [])∧Bc z12 z1 ((Fp 109 [.agg (Bu d)] [] z2 [])∧Bc z5 ((Fp 110 [.agg (Bu d)] [] z3 [])∧Lf z3 z6 [] []) z1)) ((Fp 109 [.agg (Bu d)] [] z2 [])∧Bc z5 ((Fp 110 [.agg (Bu d)] [] z3 [])∧Lf z3 z6 [] []) z1))) (Bc z9 (z17∧(Fp 108 [.agg (Bu d)] [] z10 [])∧Bc z12 z1 ((Fp 109 [.agg (Bu d)] [] z2 [])∧Bc z5 ((Fp 110 [.agg (Bu d)] [] z3 [])∧Lf z3 z6 [] []) z1)) ((Fp 109 [.agg (Bu d)] [] z2 [])∧Bc z5 ((Fp 110 [.agg (Bu d)] [] z3 [])∧Lf z3 z6 [] []) z1)))) (Bc z11 (Bc z8 z1 (Bc z9 (z15∧(Fp 109 [.agg (Bu d)] [] z2 [])∧Bc z5 ((Fp 110 [.agg (Bu d)] [] z3 [])∧Lf z3 z6 [] []) z1) ((Fp 109 [.agg (Bu d)] [] z2 [])∧Bc z5 ((Fp 110 [.agg (Bu d)] [] z3 [])∧Lf z3 z6 [] []) z1))) (Bc z9 (z15∧(Fp 109 [.agg (Bu d)] [] z2 [])∧Bc z5 ((Fp 110 [.agg (Bu d)] [] z3 [])∧Lf z3 z6 [] []) z1) ((Fp 109 [.agg (Bu d)] [] z2 [])∧Bc z5 ((Fp 110 [.agg (Bu d)] [] z3 [])∧Lf z3 z6 [] []) z1)))))) (Bc z7 (Bc z4 z1 (Bc z11 (Bc z8 z1 (Bc z9 (z17∧(Fp 108 [.agg (Bu d)] [] z10 [])∧Bc z12 z1 ((Fp 109 [.agg (Bu d)] [] z2 [])∧Bc z5 ((Fp 110 [.agg (Bu d)] [] z3 [])∧Lf z3 z6 [] []) z1)) ((Fp 109 [.agg (Bu d)] [] z2 [])∧Bc z5 ((Fp 110 [.agg (Bu d)] [] z3 [])∧Lf z3 z6 [] []) z1))) (Bc z9 (z17∧(Fp 108 [.agg (Bu d)] [] z10 [])∧Bc z12 z1 ((Fp 109 [.agg (Bu d)] [] z2 [])∧Bc z5 ((Fp 110 [.agg (Bu d)] [] z3 [])∧Lf z3 z6 [] []) z1)) ((Fp 109 [.agg (Bu d)] [] z2 [])∧Bc z5 ((Fp 110 [.agg (Bu d)] [] z3 [])∧Lf z3 z6 [] []) z1)))) (Bc z11 (Bc z8 z1 (Bc z9 (z15∧(Fp 109 [.agg (Bu d)] [] z2 [])∧Bc z5 ((Fp 110 [.agg (Bu d)] [] z3 [])∧Lf z3 z6 [] []) z1) ((Fp 109 [.agg (Bu d)] [] z2 [])∧Bc z5 ((Fp 110 [.agg (Bu d)] [] z3 [])∧Lf z3 z6 [] []) z1))) (Bc z9 (z15∧(Fp 109 [.agg (Bu d)] [] z2 [])∧Bc z5 ((Fp 110 [.agg (Bu d)] [] z3 [])∧Lf z3 z6 [] []) z1) ((Fp 109 [.agg (Bu d)] [] z2 [])∧Bc z5 ((Fp 110 [.agg (Bu d)] [] z3 [])∧Lf z3 z6 [] []) z1)))))) (Bc (decide (d.mode=9)) ((Fp 106 [.agg (cEv d.end_)] [] z14 [])∧Bc (!(E5 d.end_)) z1 ((Fp 107 [.agg (cEv d.end_)] [] z13 [])∧Bc (!(Do d.end_)) z1 (Bc z7 (Bc z4 z1 (Bc z11 (Bc z8 z1 (Bc z9 (z17∧(Fp 108 [.agg (Bu d)] [] z10 [])∧Bc z12 z1 ((Fp 109 [.agg (Bu d)] [] z2 [])∧Bc z5 ((Fp 110 [.agg (Bu d)] [] z3 [])∧Lf z3 z6 [] []) z1)) ((Fp 109 [.agg (Bu d)] [] z2 [])∧Bc z5 ((Fp 110 [.agg (Bu d)] [] z3 [])∧Lf z3 z6 [] []) z1))) (Bc z9 (z17∧(Fp 108 [.agg (Bu d)] [] z10 [])∧Bc z12 z1 ((Fp 109 [.agg (Bu d)] [] z2 [])∧Bc z5 ((Fp 110 [.agg (Bu d)] [] z3 [])∧Lf z3 z6 [] []) z1)) ((Fp 109 [.agg (Bu d)] [] z2 [])∧Bc z5 ((Fp 110 [.agg (Bu d)] [] z3 [])∧Lf z3 z6 [] []) z1)))) (Bc z11 (Bc z8 z1 (Bc z9 (z15∧(Fp 109 [.agg (Bu d)] [] z2 [])∧Bc z5 ((Fp 110 [.agg (Bu d)] [] z3 [])∧Lf z3 z6 [] []) z1) ((Fp 109 [.agg (Bu d)] [] z2 [])∧Bc z5 ((Fp 110 [.agg (Bu d)] [] z3 [])∧Lf z3 z6 [] []) z1))) (Bc z9 (z15∧(Fp 109 [.agg (Bu d)] [] z2 [])∧Bc z5 ((Fp 110 [.agg (Bu d)] [] z3 [])∧Lf z3 z6 [] []) z1) ((Fp 109 [.agg (Bu d)] [] z2 [])∧Bc z5 ((Fp 110 [.agg (Bu d)] [] z3 [])∧Lf z3 z6 [] []) z1)))))) (Bc z7 (Bc z4 z1 (Bc z11 (Bc z8 z1 (Bc z9 (z17∧(Fp 108 [.agg (Bu d)] [] z10 [])∧Bc z12 z1 ((Fp 109 [.agg (Bu d)] [] z2 [])∧Bc z5 ((Fp 110 [.agg (Bu d)] [] z3 [])∧Lf z3 z6 [] []) z1)) ((Fp 109 [.agg (Bu d)] [] z2 [])∧Bc z5 ((Fp 110 [.agg (Bu d)] [] z3 [])∧Lf z3 z6 [] []) z1))) (Bc z9 (z17∧(Fp 108 [.agg (Bu d)] [] z10 [])∧Bc z12 z1 ((Fp 109 [.agg (Bu d)] [] z2 [])∧Bc z5 ((Fp 110 [.agg (Bu d)] [] z3 [])∧Lf z3 z6 [] []) z1)) ((Fp 109 [.agg (Bu d)] [] z2 [])∧Bc z5 ((Fp 110 [.agg (Bu d)] [] z3 [])∧Lf z3 z6 [] []) z1)))) (Bc z11 (Bc z8 z1 (Bc z9 (z15∧(Fp 109 [.agg (Bu d)] [] z2 [])∧Bc z5 ((Fp 110 [.agg (Bu d)] [] z3 [])∧Lf z3 z6 [] []) z1) ((Fp 109 [.agg (Bu d)] [] z2 [])∧Bc z5 ((Fp 110 [.agg (Bu d)] [] z3 [])∧Lf z3 z6 [] []) z1))) (Bc z9 (z15∧(Fp 109 [.agg (Bu d)] [] z2 [])∧Bc z5 ((Fp 110 [.agg (Bu d)] [] z3 [])∧Lf z3 z6 [] []) z1) ((Fp 109 [.agg (Bu d)] [] z2 [])∧Bc z5 ((Fp 110 [.agg (Bu d)] [] z3 [])∧Lf z3 z6 [] []) z1))))))))))))) Q4 ?_
 refine⟨(Va d Q2 Q2),fun h1=>have q1:=Ao h1;?_,fun h1=>have q1:=An h1;?_⟩
 refine⟨(sB ?_),rfl⟩
 rotate_left
 have hpt:=B9 (Z9 q1)
 refine⟨(B8 _ _ _),fun h2=>have q2:=Ao h2;have p2:=Aw q2;?_,fun h2=>have q2:=An h2;have p2:=Aq q2;?_⟩
 refine⟨(sB ?_),rfl⟩
 rotate_left
 refine⟨(B8 _ _ _),fun h3=>have q3:=Ao h3;have p3:=Aw q3;?_,fun h3=>have q3:=An h3;have p3:=Aq q3;?_⟩
 refine⟨(sB ?_),rfl⟩
 rotate_left
 refine⟨(B8 _ _ _),fun h4=>have q4:=Ao h4;have p4:=Aw q4;?_,fun h4=>have q4:=An h4;have p4:=Aq q4;?_⟩
 refine⟨(sB ?_),rfl⟩
 rotate_left
 refine⟨(Ab3 d.utf),fun h5=>have q5:=Ao h5;?_,fun h5=>have q5:=An h5;have p5:=Kp q5;?_⟩
 refine⟨(sB ?_),rfl⟩
 rotate_left
 refine⟨(Za _),fun h6=>have q6:=Ao h6;?_,fun h6=>have q6:=An h6;?_⟩
 refine⟨(sB ?_),rfl⟩
 rotate_left
 have hwk:=Ze (w:=d.wire) q6
 refine⟨fun h7=>have q7:=Ao h7;have p7:=(Cc dT (Cc dT (Cc dT (Cc dT dF)))).1 q7;?_,fun h7=>have q7:=An h7;have p7:=(Cb dT (Cb dT (Cb dT (Cb dT dT)))).1 q7;?_⟩
 refine⟨(Afr d.plan d.field Q2 (Dk hpt.2.1)),fun h8=>have q8:=Ao h8;?_,fun h8=>have q8:=An h8;?_⟩
 refine⟨(sB ?_),rfl⟩
 rotate_left
 refine dsp (fun h9 p9=>?_) fun h9 p9=>?_
 refine⟨(Xc d.end_),fun h10=>have q10:=Ao h10;?_,fun h10=>have q10:=An h10;?_⟩
 refine⟨(sB ?_),rfl⟩
 rotate_left
 refine⟨(Vb d.end_),fun h11=>have q11:=Ao h11;?_,fun h11=>have q11:=An h11;?_⟩
 refine⟨(sB ?_),rfl⟩
 rotate_left
 refine⟨fun h12=>have q12:=Ao h12;have p12:=of_decide_eq_false q12;?_,fun h12=>have q12:=An h12;have p12:=of_decide_eq_true q12;?_⟩
 refine⟨fun h13=>have q13:=Ao h13;have p13:=(Cc dT (Cc dT (Cc dT (Cc dT (Cc dT (Cc dT dF)))))).1 q13;?_,fun h13=>have q13:=An h13;have p13:=(Cb dT (Cb dT (Cb dT (Cb dT (Cb dT (Cb dT dT)))))).1 q13;?_⟩
 refine⟨(sB ?_),rfl⟩
 rotate_left
 refine dsp (fun h14 p14=>?_) fun h14 p14=>?_
 refine dsp (fun h15 p15=>?_) fun h15 p15=>?_
 refine⟨(sB ?_),rfl⟩
 rotate_left
 refine⟨fun h16=>have q16:=Ao h16;have p16:=of_decide_eq_false q16;?_,fun h16=>have q16:=An h16;have p16:=of_decide_eq_true q16;?_⟩
 refine⟨h12,(Dr d Q2),dsp (fun h17 p17=>?_) fun h17 p17=>?_⟩
 refine⟨(sB ?_),rfl⟩
 rotate_left
 refine⟨(Ck d Q2),fun h18=>?_,fun h18=>?_⟩
 refine⟨(Cj d Q2),(sB ?_),rfl⟩
 rotate_left
 refine⟨(sB ?_),rfl⟩
 rotate_left
 refine⟨(Ck d Q2),fun h17=>?_,fun h17=>?_⟩
 refine⟨(Cj d Q2),(sB ?_),rfl⟩
 rotate_left
 refine⟨(sB ?_),rfl⟩
 rotate_left
 refine⟨fun h15=>have q15:=Ao h15;have p15:=of_decide_eq_false q15;?_,fun h15=>have q15:=An h15;have p15:=of_decide_eq_true q15;?_⟩
 refine⟨h12,(Dr d Q2),dsp (fun h16 p16=>?_) fun h16 p16=>?_⟩
 refine⟨(sB ?_),rfl⟩
 rotate_left
 refine⟨(Ck d Q2),fun h17=>?_,fun h17=>?_⟩
 refine⟨(Cj d Q2),(sB ?_),rfl⟩
 rotate_left
 refine⟨(sB ?_),rfl⟩
 rotate_left
 refine⟨(Ck d Q2),fun h16=>?_,fun h16=>?_⟩
 refine⟨(Cj d Q2),(sB ?_),rfl⟩
 rotate_left
 refine⟨(sB ?_),rfl⟩
 rotate_left
 refine dsp (fun h13 p13=>?_) fun h13 p13=>?_
 refine dsp (fun h14 p14=>?_) fun h14 p14=>?_
 refine⟨(sB ?_),rfl⟩
 rotate_left
 refine⟨fun h15=>have q15:=Ao h15;have p15:=of_decide_eq_false q15;?_,fun h15=>have q15:=An h15;have p15:=of_decide_eq_true q15;?_⟩
 refine⟨h12,(Ck d Q2),fun h16=>?_,fun h16=>?_⟩
 refine⟨(Cj d Q2),(sB ?_),rfl⟩
 rotate_left
 refine⟨(sB ?_),rfl⟩
 rotate_left
 refine⟨(Ck d Q2),fun h16=>?_,fun h16=>?_⟩
 refine⟨(Cj d Q2),(sB ?_),rfl⟩
 rotate_left
 refine⟨(sB ?_),rfl⟩
 rotate_left
 refine⟨fun h14=>have q14:=Ao h14;have p14:=of_decide_eq_false q14;?_,fun h14=>have q14:=An h14;have p14:=of_decide_eq_true q14;?_⟩
 refine⟨h12,(Ck d Q2),fun h15=>?_,fun h15=>?_⟩
 refine⟨(Cj d Q2),(sB ?_),rfl⟩
 rotate_left
 refine⟨(sB ?_),rfl⟩
 rotate_left
 refine⟨(Ck d Q2),fun h15=>?_,fun h15=>?_⟩
 refine⟨(Cj d Q2),(sB ?_),rfl⟩
 rotate_left
 refine⟨(sB ?_),rfl⟩
 rotate_left
 refine⟨fun h10=>have q10:=Ao h10;have p10:=of_decide_eq_false q10;?_,fun h10=>have q10:=An h10;have p10:=of_decide_eq_true q10;?_⟩
 refine⟨fun h11=>have q11:=Ao h11;have p11:=(Cc dT (Cc dT (Cc dT (Cc dT (Cc dT (Cc dT dF)))))).1 q11;?_,fun h11=>have q11:=An h11;have p11:=(Cb dT (Cb dT (Cb dT (Cb dT (Cb dT (Cb dT dT)))))).1 q11;?_⟩
 refine⟨(sB ?_),rfl⟩
 rotate_left
 refine dsp (fun h12 p12=>?_) fun h12 p12=>?_
 refine dsp (fun h13 p13=>?_) fun h13 p13=>?_
 refine⟨(sB ?_),rfl⟩
 rotate_left
 refine⟨fun h14=>have q14:=Ao h14;have p14:=of_decide_eq_false q14;?_,fun h14=>have q14:=An h14;have p14:=of_decide_eq_true q14;?_⟩
 refine⟨h10,(Dr d Q2),dsp (fun h15 p15=>?_) fun h15 p15=>?_⟩
 refine⟨(sB ?_),rfl⟩
 rotate_left
 refine⟨(Ck d Q2),fun h16=>?_,fun h16=>?_⟩
 refine⟨(Cj d Q2),(sB ?_),rfl⟩
 rotate_left
 refine⟨(sB ?_),rfl⟩
 rotate_left
 refine⟨(Ck d Q2),fun h15=>?_,fun h15=>?_⟩
 refine⟨(Cj d Q2),(sB ?_),rfl⟩
 rotate_left
 refine⟨(sB ?_),rfl⟩
 rotate_left
 refine⟨fun h13=>have q13:=Ao h13;have p13:=of_decide_eq_false q13;?_,fun h13=>have q13:=An h13;have p13:=of_decide_eq_true q13;?_⟩
 refine⟨h10,(Dr d Q2),dsp (fun h14 p14=>?_) fun h14 p14=>?_⟩
 refine⟨(sB ?_),rfl⟩
 rotate_left
 refine⟨(Ck d Q2),fun h15=>?_,fun h15=>?_⟩
 refine⟨(Cj d Q2),(sB ?_),rfl⟩
 rotate_left
 refine⟨(sB ?_),rfl⟩
 rotate_left
 refine⟨(Ck d Q2),fun h14=>?_,fun h14=>?_⟩
 refine⟨(Cj d Q2),(sB ?_),rfl⟩
 rotate_left
 refine⟨(sB ?_),rfl⟩
 rotate_left
 refine dsp (fun h11 p11=>?_) fun h11 p11=>?_
 refine dsp (fun h12 p12=>?_) fun h12 p12=>?_
 refine⟨(sB ?_),rfl⟩
 rotate_left
 refine⟨fun h13=>have q13:=Ao h13;have p13:=of_decide_eq_false q13;?_,fun h13=>have q13:=An h13;have p13:=of_decide_eq_true q13;?_⟩
 refine⟨h10,(Ck d Q2),fun h14=>?_,fun h14=>?_⟩
 refine⟨(Cj d Q2),(sB ?_),rfl⟩
 rotate_left
 refine⟨(sB ?_),rfl⟩
 rotate_left
 refine⟨(Ck d Q2),fun h14=>?_,fun h14=>?_⟩
 refine⟨(Cj d Q2),(sB ?_),rfl⟩
 rotate_left
 refine⟨(sB ?_),rfl⟩
 rotate_left
 refine⟨fun h12=>have q12:=Ao h12;have p12:=of_decide_eq_false q12;?_,fun h12=>have q12:=An h12;have p12:=of_decide_eq_true q12;?_⟩
 refine⟨h10,(Ck d Q2),fun h13=>?_,fun h13=>?_⟩
 refine⟨(Cj d Q2),(sB ?_),rfl⟩
 rotate_left
 refine⟨(sB ?_),rfl⟩
 rotate_left
 refine⟨(Ck d Q2),fun h13=>?_,fun h13=>?_⟩
 refine⟨(Cj d Q2),(sB ?_),rfl⟩
 rotate_left
 refine⟨(sB ?_),rfl⟩
 rotate_left
 refine dsp (fun h8 p8=>?_) fun h8 p8=>?_
 refine⟨(Xc d.end_),fun h9=>have q9:=Ao h9;?_,fun h9=>have q9:=An h9;?_⟩
 refine⟨(sB ?_),rfl⟩
 rotate_left
 refine⟨(Vb d.end_),fun h10=>have q10:=Ao h10;?_,fun h10=>have q10:=An h10;?_⟩
 refine⟨(sB ?_),rfl⟩
 rotate_left
 refine⟨fun h11=>have q11:=Ao h11;have p11:=of_decide_eq_false q11;?_,fun h11=>have q11:=An h11;have p11:=of_decide_eq_true q11;?_⟩
 refine⟨fun h12=>have q12:=Ao h12;have p12:=(Cc dT (Cc dT (Cc dT (Cc dT (Cc dT (Cc dT dF)))))).1 q12;?_,fun h12=>have q12:=An h12;have p12:=(Cb dT (Cb dT (Cb dT (Cb dT (Cb dT (Cb dT dT)))))).1 q12;?_⟩
 refine⟨(sB ?_),rfl⟩
 rotate_left
 refine dsp (fun h13 p13=>?_) fun h13 p13=>?_
 refine dsp (fun h14 p14=>?_) fun h14 p14=>?_
 refine⟨(sB ?_),rfl⟩
 rotate_left
 refine⟨fun h15=>have q15:=Ao h15;have p15:=of_decide_eq_false q15;?_,fun h15=>have q15:=An h15;have p15:=of_decide_eq_true q15;?_⟩
 refine⟨h11,(Dr d Q2),dsp (fun h16 p16=>?_) fun h16 p16=>?_⟩
 refine⟨(sB ?_),rfl⟩
 rotate_left
 refine⟨(Ck d Q2),fun h17=>?_,fun h17=>?_⟩
 refine⟨(Cj d Q2),(sB ?_),rfl⟩
 rotate_left
 refine⟨(sB ?_),rfl⟩
 rotate_left
 refine⟨(Ck d Q2),fun h16=>?_,fun h16=>?_⟩
 refine⟨(Cj d Q2),(sB ?_),rfl⟩
 rotate_left
 refine⟨(sB ?_),rfl⟩
 rotate_left
 refine⟨fun h14=>have q14:=Ao h14;have p14:=of_decide_eq_false q14;?_,fun h14=>have q14:=An h14;have p14:=of_decide_eq_true q14;?_⟩
 refine⟨h11,(Dr d Q2),dsp (fun h15 p15=>?_) fun h15 p15=>?_⟩
 refine⟨(sB ?_),rfl⟩
 rotate_left
 refine⟨(Ck d Q2),fun h16=>?_,fun h16=>?_⟩
 refine⟨(Cj d Q2),(sB ?_),rfl⟩
 rotate_left
 refine⟨(sB ?_),rfl⟩
 rotate_left
 refine⟨(Ck d Q2),fun h15=>?_,fun h15=>?_⟩
 refine⟨(Cj d Q2),(sB ?_),rfl⟩
 rotate_left
 refine⟨(sB ?_),rfl⟩
 rotate_left
 refine dsp (fun h12 p12=>?_) fun h12 p12=>?_
 refine dsp (fun h13 p13=>?_) fun h13 p13=>?_
 refine⟨(sB ?_),rfl⟩
 rotate_left
 refine⟨fun h14=>have q14:=Ao h14;have p14:=of_decide_eq_false q14;?_,fun h14=>have q14:=An h14;have p14:=of_decide_eq_true q14;?_⟩
 refine⟨h11,(Ck d Q2),fun h15=>?_,fun h15=>?_⟩
 refine⟨(Cj d Q2),(sB ?_),rfl⟩
 rotate_left
 refine⟨(sB ?_),rfl⟩
 rotate_left
 refine⟨(Ck d Q2),fun h15=>?_,fun h15=>?_⟩
 refine⟨(Cj d Q2),(sB ?_),rfl⟩
 rotate_left
 refine⟨(sB ?_),rfl⟩
 rotate_left
 refine⟨fun h13=>have q13:=Ao h13;have p13:=of_decide_eq_false q13;?_,fun h13=>have q13:=An h13;have p13:=of_decide_eq_true q13;?_⟩
 refine⟨h11,(Ck d Q2),fun h14=>?_,fun h14=>?_⟩
 refine⟨(Cj d Q2),(sB ?_),rfl⟩
 rotate_left
 refine⟨(sB ?_),rfl⟩
 rotate_left
 refine⟨(Ck d Q2),fun h14=>?_,fun h14=>?_⟩
 refine⟨(Cj d Q2),(sB ?_),rfl⟩
 rotate_left
 refine⟨(sB ?_),rfl⟩
 rotate_left
 refine⟨fun h9=>have q9:=Ao h9;have p9:=of_decide_eq_false q9;?_,fun h9=>have q9:=An h9;have p9:=of_decide_eq_true q9;?_⟩
 refine⟨fun h10=>have q10:=Ao h10;have p10:=(Cc dT (Cc dT (Cc dT (Cc dT (Cc dT (Cc dT dF)))))).1 q10;?_,fun h10=>have q10:=An h10;have p10:=(Cb dT (Cb dT (Cb dT (Cb dT (Cb dT (Cb dT dT)))))).1 q10;?_⟩
 refine⟨(sB ?_),rfl⟩
 rotate_left
 refine dsp (fun h11 p11=>?_) fun h11 p11=>?_
 refine dsp (fun h12 p12=>?_) fun h12 p12=>?_
 refine⟨(sB ?_),rfl⟩
 rotate_left
 refine⟨fun h13=>have q13:=Ao h13;have p13:=of_decide_eq_false q13;?_,fun h13=>have q13:=An h13;have p13:=of_decide_eq_true q13;?_⟩
 refine⟨h9,(Dr d Q2),dsp (fun h14 p14=>?_) fun h14 p14=>?_⟩
 refine⟨(sB ?_),rfl⟩
 rotate_left
 refine⟨(Ck d Q2),fun h15=>?_,fun h15=>?_⟩
 refine⟨(Cj d Q2),(sB ?_),rfl⟩
 rotate_left
 refine⟨(sB ?_),rfl⟩
 rotate_left
 refine⟨(Ck d Q2),fun h14=>?_,fun h14=>?_⟩
 refine⟨(Cj d Q2),(sB ?_),rfl⟩
 rotate_left
 refine⟨(sB ?_),rfl⟩
 rotate_left
 refine⟨fun h12=>have q12:=Ao h12;have p12:=of_decide_eq_false q12;?_,fun h12=>have q12:=An h12;have p12:=of_decide_eq_true q12;?_⟩
 refine⟨h9,(Dr d Q2),dsp (fun h13 p13=>?_) fun h13 p13=>?_⟩
 refine⟨(sB ?_),rfl⟩
 rotate_left
 refine⟨(Ck d Q2),fun h14=>?_,fun h14=>?_⟩
 refine⟨(Cj d Q2),(sB ?_),rfl⟩
 rotate_left
 refine⟨(sB ?_),rfl⟩
 rotate_left
 refine⟨(Ck d Q2),fun h13=>?_,fun h13=>?_⟩
 refine⟨(Cj d Q2),(sB ?_),rfl⟩
 rotate_left
 refine⟨(sB ?_),rfl⟩
 rotate_left
 refine dsp (fun h10 p10=>?_) fun h10 p10=>?_
 refine dsp (fun h11 p11=>?_) fun h11 p11=>?_
 refine⟨(sB ?_),rfl⟩
 rotate_left
 refine⟨fun h12=>have q12:=Ao h12;have p12:=of_decide_eq_false q12;?_,fun h12=>have q12:=An h12;have p12:=of_decide_eq_true q12;?_⟩
 refine⟨h9,(Ck d Q2),fun h13=>?_,fun h13=>?_⟩
 refine⟨(Cj d Q2),(sB ?_),rfl⟩
 rotate_left
 refine⟨(sB ?_),rfl⟩
 rotate_left
 refine⟨(Ck d Q2),fun h13=>?_,fun h13=>?_⟩
 refine⟨(Cj d Q2),(sB ?_),rfl⟩
 rotate_left
 refine⟨(sB ?_),rfl⟩
 rotate_left
 refine⟨fun h11=>have q11:=Ao h11;have p11:=of_decide_eq_false q11;?_,fun h11=>have q11:=An h11;have p11:=of_decide_eq_true q11;?_⟩
 refine⟨h9,(Ck d Q2),fun h12=>?_,fun h12=>?_⟩
 refine⟨(Cj d Q2),(sB ?_),rfl⟩
 rotate_left
 refine⟨(sB ?_),rfl⟩
 rotate_left
 refine⟨(Ck d Q2),fun h12=>?_,fun h12=>?_⟩
 refine⟨(Cj d Q2),(sB ?_),rfl⟩
 rotate_left
 refine⟨(sB ?_),rfl⟩
 rotate_left
 all_goals first|(simp_all[D2,We,J0,Cs,Re];done)|(grind[D2,We,J0,Cs,Re])
structure Cg where
 v:Bool
def J6 (d:Dcd):Fam:=⟨Cg,fun j1000003=>[(1,.v (vP 0)),(76,.v (vB j1000003.v))],fun _=>[.cells (Bu d)],fun j1000003=>j1000003.v= !We d,fun _=>0⟩
structure Fu where
 u_:Nat
def J7 (d:Dcd):Fam:=⟨Fu,fun j0=>[(1,.v (vP 0))],fun _=>[.cells (Bu d)],fun _=>Hd d=true,fun _=>0⟩
structure Bk where
 wires:Bool
def J8 (d:Dcd):Fam:=⟨Bk,fun j1000013=>[(1,.v (vP 0)),(3,.v (vB j1000013.wires))],fun _=>[.cells (Bu d)],fun j1000013=>j1000013.wires=R4 d,fun _=>0⟩
structure C8 where
 v:Bool
def F7 (d:Dcd) (j1000013:Bk):Fam:=⟨C8,fun j1000014=>[(1,.v (vP 0)),(140,.v (vB j1000014.v))],fun _=>[.cells (Bu d)],fun j1000014=>j1000014.v=(j1000013.wires||(Ak d.mode 3 5&&(!decide (d.field=fld0)&& !C4 d.field d.wire))),fun _=>0⟩
theorem Afu (d:Dcd) (hp1:List.length (d).stack≤Bj) (hp2:List.length (d).plan.shapes≤Bj):Fun Tryz.prog 60 [.agg (Bu d)] [] (.v (vB (D2 d))) []:=by
 have hN:Bj=274877906944:=rfl
 refine Ar Tryz.func60 Q4 Q4 (w:=let z4:S:= .v (vB (X8 d));let z5:List Blk:=[.cells (Bu d)];let z6:=J8 d;let z7:=Ak d.want 1 (Dj d);let z8:S:= .v (vI (Ay d.wire));let z10:=z6.Has [(1,.v (vP 0)),(3,.v (vB false))] z5;let z11:S:= .v (vB (D2 d));let z2:=Lf (.v (vB false)) z11 [] [];let z12:=decide ((d).field=fld0)||Hf (d).plan.shapes (d).field;let z13:=(J7 d).Has [(1,.v (vP 0))] z5;let z14:=J6 d;let z3:=Bc (!decide (d.mode=9)) (z14.Has [(1,.v (vP 0)),(76,.v (vB (!(decide (d.end_.kind=0)&&(decide (d.end_.field=0)&&(decide (d.end_.bits=0)&&(decide (d.end_.len=0)&&(decide (d.end_.text=[])&&(decide (d.end_.code=0)&&decide (d.end_.at_=0))))))))))] z5) (z14.Has [(1,.v (vP 0)),(76,.v (vB false))] z5);let z15:=vB (decide (Ay d.wire=0));let z16:=z6.Has [(1,.v (vP 0)),(3,.v (vB true))] z5;let z17:S:= .v (vI (Dj d));let z18:= !decide (d.mode=8);let z19:=decide (d.mode=5);let z20:=Ak d.at_ 0 1000000000;let z21:List V:=[vI d.want,vI 1,vI (Dj d)];let z22:=z14.Has [(1,.v (vP 0)),(76,.v (vB true))] z5;let z23:S:= .v (vB z7);let z24:=E6 d.field;let z25:=Rx d.field;let z9:S:= .v (vB z25);let z26:=Ak d.start 0 d.at_;let z27:=C4 d.field d.wire;let z28:=Ak d.mode 1 9;let z29:=Ak d.mode 3 5;(.seg [.call [] (.v (vB (Da d.plan))) []] (.br (.leaf () []) (.seg [.call [] (.v (vB z28)) []] (.br (.leaf () []) (.seg [.call [] (.v (vB z20)) []] (.br (.leaf () []) (.seg [.call [] (.v (vB z26)) []] (.br (.leaf () []) (.seg [.call [] (.v (vB (Ed d.utf))) []] (.br (.leaf () []) (.seg [.call [] (.v (vB (Dh d.wire))) []] (.br (.leaf () []) (.seg [.call [] (.v (vB z12)) []] (.br (.leaf () []) (.seg [.call [] (.v (vB (Pe d))) []] (.br (.leaf () []) (.join 1000003 z14 (.br (.seg [.call [] (.v (vB (E5 d.end_))) []] (.br (.seg [.at 0,.keep [1,76],.sel [0]] (.next)) (.seg [.call [] (.v (vB (Do d.end_))) []] (.br (.seg [.at 0,.keep [1,76],.sel [0]] (.next)) (.br (.seg [.at 0,.keep [1,76],.sel [0]] (.next)) (.seg [.at 0,.keep [1,76],.sel [0]] (.next))))))) (.br (.seg [.at 0,.keep [1,76],.sel [0]] (.next)) (.seg [.at 0,.keep [1,76],.sel [0]] (.next)))) fun j1000003=> .br (.leaf () []) (.join 0 (J7 d) (.br (.seg [.br true,.ord (os 6 [3,4]) [],.call [] z17 [],.call [] z23 []] (.br (.leaf () []) (.seg [.at 0,.keep [1],.sel [0]] (.next)))) (.br (.seg [.br true,.ord (os 6 [3,4]) [],.call [] z17 [],.call [] z23 []] (.br (.leaf () []) (.seg [.at 0,.keep [1],.sel [0]] (.next)))) (.br (.seg [.ord (os 6 [3,4]) [],.call [] z17 [],.call [] z23 []] (.br (.leaf () []) (.seg [.at 0,.keep [1],.sel [0]] (.next)))) (.br (.leaf () []) (.seg [.at 0,.keep [1],.sel [0]] (.next)))))) fun j0=> .join 1000013 z6 (.br (.br (.seg [.at 0,.keep [1,3],.sel [0]] (.next)) (.br (.br (.seg [.at 0,.keep [1,3],.sel [0]] (.next)) (.br (.seg [.call [] z8 [],.at 0,.keep [1,3],.sel [0]] (.next)) (.seg [.at 0,.keep [1,3],.sel [0]] (.next)))) (.br (.seg [.call [] z8 [],.at 0,.keep [1,3],.sel [0]] (.next)) (.seg [.at 0,.keep [1,3],.sel [0]] (.next))))) (.br (.br (.seg [.at 0,.keep [1,3],.sel [0]] (.next)) (.br (.seg [.call [] z8 [],.at 0,.keep [1,3],.sel [0]] (.next)) (.seg [.at 0,.keep [1,3],.sel [0]] (.next)))) (.br (.seg [.call [] z8 [],.at 0,.keep [1,3],.sel [0]] (.next)) (.seg [.at 0,.keep [1,3],.sel [0]] (.next))))) fun j1000013=> .join 1000014 (F7 d j1000013) (.br (.seg [.at 0,.keep [1,140],.sel [0]] (.next)) (.seg [.call [] (.v (vB z29)) []] (.br (.br (.seg [.call [] (.v (vB z27)) [],.at 0,.keep [1,140],.sel [0]] (.next)) (.seg [.at 0,.keep [1,140],.sel [0]] (.next))) (.seg [.at 0,.keep [1,140],.sel [0]] (.next))))) fun j1000014=> .br (.leaf () []) (.br (.br (.br (.seg [.call [] z4 []] (.leaf () [])) (.seg [.call [] z9 []] (.br (.seg [.call [] z4 []] (.leaf () [])) (.leaf () [])))) (.br (.seg [.call [] z4 []] (.leaf () [])) (.seg [.call [] z9 []] (.br (.seg [.call [] z4 []] (.leaf () [])) (.leaf () []))))) (.br (.br (.seg [.call [] z4 []] (.leaf () [])) (.seg [.call [] z9 []] (.br (.seg [.call [] z4 []] (.leaf () [])) (.leaf () [])))) (.br (.br (.seg [.call [] z4 []] (.leaf () [])) (.seg [.call [] z9 []] (.br (.seg [.call [] z4 []] (.leaf () [])) (.leaf () [])))) (.leaf () []))))))))))))))))))))),(Fp 13 [.agg (Mt d.plan)] [] (.v (vB (Da d.plan))) [])∧Bc (!(Da d.plan)) z2 ((Fp 44 [vI d.mode,vI 1,vI 9] [] (.v (vB z28)) [])∧Bc (!z28) z2 ((Fp 44 [vI d.at_,vI 0,vI 1000000000] [] (.v (vB z20)) [])∧Bc (!z20) z2 ((Fp 44 [vI d.start,vI 0,vI d.at_] [] (.v (vB z26)) [])∧Bc (!z26) z2 ((Fp 121 [.agg (Jg d.utf)] [] (.v (vB (Ed d.utf))) [])∧Bc (!(Ed d.utf)) z2 ((Fp 122 [vI d.wire] [] (.v (vB (Dh d.wire))) [])∧Bc (!(Dh d.wire)) z2 ((Fp 123 [.agg (Bu d)] [] (.v (vB z12)) [])∧Bc (!z12) z2 ((Fp 124 [.agg (Bu d)] [] (.v (vB (Pe d))) [])∧Bc (!(Pe d)) z2 ((Bc (decide (d.mode=9)) ((Fp 125 [.agg (cEv d.end_)] [] (.v (vB (E5 d.end_))) [])∧Bc (!(E5 d.end_)) z22 ((Fp 31 [.agg (cEv d.end_)] [] (.v (vB (Do d.end_))) [])∧Bc (!(Do d.end_)) z22 z3)) z3)∧∀j1000003,z14.inv j1000003→(Bc j1000003.v z2 ((Bc (decide (d.mode=6)) (((decide (d.mode=6))=true)∧(Fp 126 [.agg (Bu d)] [] z17 [])∧(Fp 44 z21 [] z23 [])∧Bc (!z7) z2 z13) (Bc (decide (d.mode=7)) (((decide (d.mode=7))=true)∧(Fp 126 [.agg (Bu d)] [] z17 [])∧(Fp 44 z21 [] z23 [])∧Bc (!z7) z2 z13) (Bc (decide (d.mode=8)) ((Fp 126 [.agg (Bu d)] [] z17 [])∧(Fp 44 z21 [] z23 [])∧Bc (!z7) z2 z13) (Bc (!decide (d.want=0)) z2 z13))))∧∀j0,(J7 d).inv j0→((Bc (decide (d.mode=3)) (Bc (!decide (d.wire=0)) z16 (Bc (decide (d.mode=4)) (Bc (!decide (d.wire=2)) z16 (Bc z19 ((Fp 127 [vI d.wire] [] z8 [])∧z6.Has [(1,.v (vP 0)),(3,.v z15)] z5) z10)) (Bc z19 ((Fp 127 [vI d.wire] [] z8 [])∧z6.Has [(1,.v (vP 0)),(3,.v z15)] z5) z10))) (Bc (decide (d.mode=4)) (Bc (!decide (d.wire=2)) z16 (Bc z19 ((Fp 127 [vI d.wire] [] z8 [])∧z6.Has [(1,.v (vP 0)),(3,.v z15)] z5) z10)) (Bc z19 ((Fp 127 [vI d.wire] [] z8 [])∧z6.Has [(1,.v (vP 0)),(3,.v z15)] z5) z10)))∧∀j1000013,z6.inv j1000013→(let z1:=F7 d j1000013;(Bc j1000013.wires (z1.Has [(1,.v (vP 0)),(140,.v (vB true))] z5) ((Fp 44 [vI d.mode,vI 3,vI 5] [] (.v (vB z29)) [])∧Bc z29 (Bc (!(decide (d.field.number=0)&&(decide (d.field.kind=0)&&(decide (d.field.rep=false)&&(decide (d.field.packed=false)&&decide (d.field.msg=0)))))) ((Fp 128 [.agg z24,vI d.wire] [] (.v (vB z27)) [])∧z1.Has [(1,.v (vP 0)),(140,.v (vB (!z27)))] z5) (z1.Has [(1,.v (vP 0)),(140,.v (vB false))] z5)) (z1.Has [(1,.v (vP 0)),(140,.v (vB false))] z5)))∧∀j1000014,z1.inv j1000014→(Bc j1000014.v z2 (Bc (decide (d.field.kind=6)) (Bc (!decide (d.mode=6)) (Bc z18 ((Fp 130 [.agg (Bu d)] [] z4 [])∧Lf z4 z11 [] []) ((Fp 129 [.agg z24] [] z9 [])∧Bc z25 ((Fp 130 [.agg (Bu d)] [] z4 [])∧Lf z4 z11 [] []) z2)) (Bc z18 ((Fp 130 [.agg (Bu d)] [] z4 [])∧Lf z4 z11 [] []) ((Fp 129 [.agg z24] [] z9 [])∧Bc z25 ((Fp 130 [.agg (Bu d)] [] z4 [])∧Lf z4 z11 [] []) z2))) (Bc (!decide (d.mode=6)) (Bc z18 ((Fp 130 [.agg (Bu d)] [] z4 [])∧Lf z4 z11 [] []) ((Fp 129 [.agg z24] [] z9 [])∧Bc z25 ((Fp 130 [.agg (Bu d)] [] z4 [])∧Lf z4 z11 [] []) z2)) (Bc (decide (d.field.kind=7)) (Bc z18 ((Fp 130 [.agg (Bu d)] [] z4 [])∧Lf z4 z11 [] []) ((Fp 129 [.agg z24] [] z9 [])∧Bc z25 ((Fp 130 [.agg (Bu d)] [] z4 [])∧Lf z4 z11 [] []) z2)) z2)))))))))))))))))) Q4 ?_
 refine⟨(V5 d.plan),fun h1=>have q1:=Ao h1;?_,fun h1=>have q1:=An h1;have p1:=B9 q1;?_⟩
 refine⟨(sB ?_),rfl⟩
 rotate_left
 have hpt:=B9 q1
 refine⟨(Ba _ _ _),fun h2=>have q2:=Ao h2;have p2:=Aw q2;?_,fun h2=>have q2:=An h2;have p2:=Aq q2;?_⟩
 refine⟨(sB ?_),rfl⟩
 rotate_left
 refine⟨(Ba _ _ _),fun h3=>have q3:=Ao h3;have p3:=Aw q3;?_,fun h3=>have q3:=An h3;have p3:=Aq q3;?_⟩
 refine⟨(sB ?_),rfl⟩
 rotate_left
 refine⟨(Ba _ _ _),fun h4=>have q4:=Ao h4;have p4:=Aw q4;?_,fun h4=>have q4:=An h4;have p4:=Aq q4;?_⟩
 refine⟨(sB ?_),rfl⟩
 rotate_left
 refine⟨(Ab4 d.utf),fun h5=>have q5:=Ao h5;?_,fun h5=>have q5:=An h5;have p5:=Kp q5;?_⟩
 refine⟨(sB ?_),rfl⟩
 rotate_left
 refine⟨(Zb _),fun h6=>have q6:=Ao h6;?_,fun h6=>have q6:=An h6;?_⟩
 refine⟨(sB ?_),rfl⟩
 rotate_left
 have hwk:=Ze (w:=d.wire) q6
 refine⟨(Z8 d Q2 (Dk hpt.2.1)),fun h7=>have q7:=Ao h7;have p7:=(orF dF Iff.rfl).1 q7;?_,fun h7=>have q7:=An h7;have p7:=(orT dT Iff.rfl).1 q7;?_⟩
 refine⟨(sB ?_),rfl⟩
 rotate_left
 refine⟨(Adv d Q2 Q2),fun h8=>have q8:=Ao h8;?_,fun h8=>have q8:=An h8;?_⟩
 refine⟨(sB ?_),rfl⟩
 rotate_left
 refine⟨?_,fun (j1000003:Cg) hq_j1000003=>?_⟩
 refine dsp (fun h10 p10=>?_) fun h10 p10=>?_
 refine⟨(Ab9 d.end_),fun h11=>have q11:=Ao h11;?_,fun h11=>have q11:=An h11;?_⟩
 exact Bh (j:=(⟨true⟩:Cg)) rfl rfl Q35
 refine⟨(Z7 d.end_),fun h12=>have q12:=Ao h12;?_,fun h12=>have q12:=An h12;?_⟩
 exact Bh (j:=(⟨true⟩:Cg)) rfl rfl Q35
 refine⟨fun h13=>have q13:=Ao h13;have p13:=of_decide_eq_false q13;?_,fun h13=>have q13:=An h13;have p13:=of_decide_eq_true q13;?_⟩
 exact Bh (j:=(⟨!(decide (d.end_.kind=0)&&(decide (d.end_.field=0)&&(decide (d.end_.bits=0)&&(decide (d.end_.len=0)&&(decide (d.end_.text=[])&&(decide (d.end_.code=0)&&decide (d.end_.at_=0)))))))⟩:Cg)) rfl rfl Q35
 exact Bh (j:=(⟨false⟩:Cg)) rfl rfl Q35
 refine⟨fun h11=>have q11:=Ao h11;have p11:=of_decide_eq_false q11;?_,fun h11=>have q11:=An h11;have p11:=of_decide_eq_true q11;?_⟩
 exact Bh (j:=(⟨!(decide (d.end_.kind=0)&&(decide (d.end_.field=0)&&(decide (d.end_.bits=0)&&(decide (d.end_.len=0)&&(decide (d.end_.text=[])&&(decide (d.end_.code=0)&&decide (d.end_.at_=0)))))))⟩:Cg)) rfl rfl Q35
 exact Bh (j:=(⟨false⟩:Cg)) rfl rfl Q35
 have hi_j1000003:j1000003.v= !We d:=hq_j1000003
 refine⟨fun h10=>?_,fun h10=>?_⟩
 refine⟨(sB ?_),rfl⟩
 rotate_left
 refine⟨?_,fun (j0:Fu) hq_j0=>?_⟩
 refine dsp (fun h12 p12=>?_) fun h12 p12=>?_
 refine⟨h12,(Mo d Q2),(Ba _ _ _),fun h13=>have q13:=Ao h13;have p13:=Aw q13;?_,fun h13=>have q13:=An h13;have p13:=Aq q13;?_⟩
 refine⟨(sB ?_),rfl⟩
 rotate_left
 exact Bh (j:=(⟨0⟩:Fu)) rfl rfl Q55
 refine dsp (fun h13 p13=>?_) fun h13 p13=>?_
 refine⟨h13,(Mo d Q2),(Ba _ _ _),fun h14=>have q14:=Ao h14;have p14:=Aw q14;?_,fun h14=>have q14:=An h14;have p14:=Aq q14;?_⟩
 refine⟨(sB ?_),rfl⟩
 rotate_left
 exact Bh (j:=(⟨0⟩:Fu)) rfl rfl Q55
 refine dsp (fun h14 p14=>?_) fun h14 p14=>?_
 refine⟨(Mo d Q2),(Ba _ _ _),fun h15=>have q15:=Ao h15;have p15:=Aw q15;?_,fun h15=>have q15:=An h15;have p15:=Aq q15;?_⟩
 refine⟨(sB ?_),rfl⟩
 rotate_left
 exact Bh (j:=(⟨0⟩:Fu)) rfl rfl Q55
 refine⟨fun h15=>have q15:=Ao h15;have p15:=of_decide_eq_false q15;?_,fun h15=>have q15:=An h15;have p15:=of_decide_eq_true q15;?_⟩
 refine⟨(sB ?_),rfl⟩
 rotate_left
 exact Bh (j:=(⟨0⟩:Fu)) rfl rfl Q55
 have hi_j0:Hd d=true:=hq_j0
 refine⟨?_,fun (j1000013:Bk) hq_j1000013=>?_⟩
 refine dsp (fun h13 p13=>?_) fun h13 p13=>?_
 refine⟨fun h14=>have q14:=Ao h14;have p14:=of_decide_eq_false q14;?_,fun h14=>have q14:=An h14;have p14:=of_decide_eq_true q14;?_⟩
 exact Bh (j:=(⟨true⟩:Bk)) rfl rfl Q23
 refine dsp (fun h15 p15=>?_) fun h15 p15=>?_
 refine⟨fun h16=>have q16:=Ao h16;have p16:=of_decide_eq_false q16;?_,fun h16=>have q16:=An h16;have p16:=of_decide_eq_true q16;?_⟩
 exact Bh (j:=(⟨true⟩:Bk)) rfl rfl Q23
 refine dsp (fun h17 p17=>?_) fun h17 p17=>?_
 exact⟨(Dm _),Bh (j:=(⟨decide (Ay d.wire=0)⟩:Bk)) rfl rfl Q23⟩
 exact Bh (j:=(⟨false⟩:Bk)) rfl rfl Q23
 refine dsp (fun h16 p16=>?_) fun h16 p16=>?_
 exact⟨(Dm _),Bh (j:=(⟨decide (Ay d.wire=0)⟩:Bk)) rfl rfl Q23⟩
 exact Bh (j:=(⟨false⟩:Bk)) rfl rfl Q23
 refine dsp (fun h14 p14=>?_) fun h14 p14=>?_
 refine⟨fun h15=>have q15:=Ao h15;have p15:=of_decide_eq_false q15;?_,fun h15=>have q15:=An h15;have p15:=of_decide_eq_true q15;?_⟩
 exact Bh (j:=(⟨true⟩:Bk)) rfl rfl Q23
 refine dsp (fun h16 p16=>?_) fun h16 p16=>?_
 exact⟨(Dm _),Bh (j:=(⟨decide (Ay d.wire=0)⟩:Bk)) rfl rfl Q23⟩
 exact Bh (j:=(⟨false⟩:Bk)) rfl rfl Q23
 refine dsp (fun h15 p15=>?_) fun h15 p15=>?_
 exact⟨(Dm _),Bh (j:=(⟨decide (Ay d.wire=0)⟩:Bk)) rfl rfl Q23⟩
 exact Bh (j:=(⟨false⟩:Bk)) rfl rfl Q23
 have hi_j1000013:j1000013.wires=R4 d:=hq_j1000013
 refine⟨?_,fun (j1000014:C8) hq_j1000014=>?_⟩
 refine⟨fun h14=>?_,fun h14=>?_⟩
 exact Bh (j:=(⟨true⟩:C8)) rfl rfl Q50
 refine⟨(Ba _ _ _),fun h15=>have p15:=Aq h15;?_,fun h15=>have p15:=Aw h15;?_⟩
 refine⟨fun h16=>have q16:=Ao h16;have p16:=(Cc dT (Cc dT (Cc dT (Cc dT dF)))).1 q16;?_,fun h16=>have q16:=An h16;have p16:=(Cb dT (Cb dT (Cb dT (Cb dT dT)))).1 q16;?_⟩
 exact⟨(Xb d.field _ Q2),Bh (j:=(⟨!(C4 d.field d.wire)⟩:C8)) rfl rfl Q50⟩
 exact Bh (j:=(⟨false⟩:C8)) rfl rfl Q50
 exact Bh (j:=(⟨false⟩:C8)) rfl rfl Q50
 have hi_j1000014:j1000014.v=(j1000013.wires||(Ak d.mode 3 5&&(!decide (d.field=fld0)&& !C4 d.field d.wire))):=hq_j1000014
 refine⟨fun h14=>?_,fun h14=>?_⟩
 refine⟨(sB ?_),rfl⟩
 rotate_left
 refine dsp (fun h15 p15=>?_) fun h15 p15=>?_
 refine⟨fun h16=>have q16:=Ao h16;have p16:=of_decide_eq_false q16;?_,fun h16=>have q16:=An h16;have p16:=of_decide_eq_true q16;?_⟩
 refine⟨fun h17=>have q17:=Ao h17;have p17:=of_decide_eq_false q17;?_,fun h17=>have q17:=An h17;have p17:=of_decide_eq_true q17;?_⟩
 refine⟨(Nb d Q2),(sB ?_),rfl⟩
 rotate_left
 refine⟨(Ts d.field),fun h18=>?_,fun h18=>?_⟩
 refine⟨(Nb d Q2),(sB ?_),rfl⟩
 rotate_left
 refine⟨(sB ?_),rfl⟩
 rotate_left
 refine⟨fun h17=>have q17:=Ao h17;have p17:=of_decide_eq_false q17;?_,fun h17=>have q17:=An h17;have p17:=of_decide_eq_true q17;?_⟩
 refine⟨(Nb d Q2),(sB ?_),rfl⟩
 rotate_left
 refine⟨(Ts d.field),fun h18=>?_,fun h18=>?_⟩
 refine⟨(Nb d Q2),(sB ?_),rfl⟩
 rotate_left
 refine⟨(sB ?_),rfl⟩
 rotate_left
 refine⟨fun h16=>have q16:=Ao h16;have p16:=of_decide_eq_false q16;?_,fun h16=>have q16:=An h16;have p16:=of_decide_eq_true q16;?_⟩
 refine⟨fun h17=>have q17:=Ao h17;have p17:=of_decide_eq_false q17;?_,fun h17=>have q17:=An h17;have p17:=of_decide_eq_true q17;?_⟩
 refine⟨(Nb d Q2),(sB ?_),rfl⟩
 rotate_left
 refine⟨(Ts d.field),fun h18=>?_,fun h18=>?_⟩
 refine⟨(Nb d Q2),(sB ?_),rfl⟩
 rotate_left
 refine⟨(sB ?_),rfl⟩
 rotate_left
 refine dsp (fun h17 p17=>?_) fun h17 p17=>?_
 refine⟨fun h18=>have q18:=Ao h18;have p18:=of_decide_eq_false q18;?_,fun h18=>have q18:=An h18;have p18:=of_decide_eq_true q18;?_⟩
 refine⟨(Nb d Q2),(sB ?_),rfl⟩
 rotate_left
 refine⟨(Ts d.field),fun h19=>?_,fun h19=>?_⟩
 refine⟨(Nb d Q2),(sB ?_),rfl⟩
 rotate_left
 refine⟨(sB ?_),rfl⟩
 rotate_left
 refine⟨(sB ?_),rfl⟩
 rotate_left
 all_goals rw[←Abu];first|(simp_all[W4,We,Hd,R4,Cs,Re];done)|(grind[W4,We,Hd,R4,Cs,Re,Fh])
end Go.Proofs.YtphecbmdhbphgaaGreat.Ax
