/- Schemas. Events. Decoders: what is valid. Decoders: what is valid, more. Decoders: what is valid, G4. Decoders: what is valid, at last. Decoders: what is valid: both sides. Copies. A byte keeps a decoder right. A byte keeps a decoder right. -/
import Derived.Test.YtijacopaadmncaaGreatKFnStepWhole1
set_option linter.unusedSimpArgs false
set_option linter.unusedVariables false
namespace Go.Proofs.YtijacopaadmncaaGreat.Ax
open Go.RowKit
theorem Am9 (f:Fld) (before:Int) (n:Int) (hp1:(0:Int)≤n∧n≤1000):Fun Tryz.prog 172 [.agg (Fw f),vI before,vI n] [] (.v (vB (decide (before<(f).number)&&Hy f n))) []:=by
 have hN:Bk=274877906944:=rfl
 refine Ar Tryz.func172 Q4 Q4 (w:=let z1:S:= .v (vB (decide (before<(f).number)&&Hy f n));let z2:S:= .v (vB (Ai f.msg 0 (n-1)));let z3:=Lf (.v (vB false)) z1 [] [];let z4:=Lf (.v (vB (decide (f.msg=(-1))))) z1 [] [];let z5:=Db f.number;(.seg [.call [] (.v (vB z5)) []] (.br (.leaf () []) (.br (.leaf () []) (.seg [.call [] (.v (vB (Dx f.kind))) []] (.br (.leaf () []) (.br (.br (.leaf () []) (.seg [.call [] (.v (vB (Cg f.kind))) []] (.br (.leaf () []) (.br (.seg [.as 45 (.v (vI (n-1))),.call [] z2 []] (.leaf () [])) (.leaf () []))))) (.br (.seg [.as 45 (.v (vI (n-1))),.call [] z2 []] (.leaf () [])) (.leaf () []))))))),(Fp 232 [vI f.number] [] (.v (vB z5)) [])∧Bc (!z5) z3 (Bc (decide (f.number≤before)) z3 ((Fp 233 [vI f.kind] [] (.v (vB (Dx f.kind))) [])∧Bc (!(Dx f.kind)) z3 (Bc f.packed (Bc (!f.rep) z3 ((Fp 186 [vI f.kind] [] (.v (vB (Cg f.kind))) [])∧Bc (!(Cg f.kind)) z3 (Bc (decide (f.kind=8)) ((wI (n-1))∧(Fp 69 [vI f.msg,vI 0,vI (n-1)] [] z2 [])∧Lf z2 z1 [] []) z4))) (Bc (decide (f.kind=8)) ((wI (n-1))∧(Fp 69 [vI f.msg,vI 0,vI (n-1)] [] z2 [])∧Lf z2 z1 [] []) z4)))))) Q4 ?_
 refine⟨(Adx _),fun h1=>have q1:=Aq h1;?_,fun h1=>have q1:=Ap h1;?_⟩
 refine⟨(sB ?_),rfl⟩
 rotate_left
 refine dsp (fun h2 p2=>?_) fun h2 p2=>?_
 refine⟨(sB ?_),rfl⟩
 rotate_left
 refine⟨(Acq _),fun h3=>have q3:=Aq h3;have p3:=A7 q3;?_,fun h3=>have q3:=Ap h3;have p3:=Aw q3;?_⟩
 refine⟨(sB ?_),rfl⟩
 rotate_left
 refine⟨fun h4=>?_,fun h4=>?_⟩
 refine⟨fun h5=>have q5:=Aq h5;?_,fun h5=>have q5:=Ap h5;?_⟩
 refine⟨(sB ?_),rfl⟩
 rotate_left
 refine⟨(Z1 _),fun h6=>have q6:=Aq h6;have p6:=A7 q6;?_,fun h6=>have q6:=Ap h6;have p6:=Aw q6;?_⟩
 refine⟨(sB ?_),rfl⟩
 rotate_left
 refine dsp (fun h7 p7=>?_) fun h7 p7=>?_
 refine⟨(Af Q2 Q2),(Cf _ _ _),(sB ?_),rfl⟩
 rotate_left
 refine⟨(sB ?_),rfl⟩
 rotate_left
 refine dsp (fun h5 p5=>?_) fun h5 p5=>?_
 refine⟨(Af Q2 Q2),(Cf _ _ _),(sB ?_),rfl⟩
 rotate_left
 refine⟨(sB ?_),rfl⟩
 rotate_left
 all_goals first|(simp[Hy, *];done)|(simp_all[Hy];done)|(simp_all[Hy];omega)|(rw[Bool.eq_iff_iff];simp_all[Hy];omega)
theorem Su (s:List Shp) (f:Fld) (hp1:s.length≤1000):Fun Tryz.prog 144 [.agg [.seq .shp s],.agg (Fw f)] [] (.v (vB (Hy f (s.length:Int)))) []:=by
 have hN:Bk=274877906944:=rfl
 refine Ar Tryz.func144 Q4 Q4 (w:=let z1:=(s.length:Int);let z2:S:= .v (vB (Ai f.msg 0 (z1-1)));let z4:S:= .v (vB (Hy f z1));let z3:=Lf (.v (vB false)) z4 [] [];let z5:=Lf (.v (vB (decide (f.msg=(-1))))) z4 [] [];let z6:=Db f.number;(.seg [.call [] (.v (vB z6)) []] (.br (.leaf () []) (.seg [.call [] (.v (vB (Dx f.kind))) []] (.br (.leaf () []) (.br (.br (.leaf () []) (.seg [.call [] (.v (vB (Cg f.kind))) []] (.br (.leaf () []) (.br (.seg [.as 38 (.v (vI (z1-1))),.call [] z2 []] (.leaf () [])) (.leaf () []))))) (.br (.seg [.as 38 (.v (vI (z1-1))),.call [] z2 []] (.leaf () [])) (.leaf () [])))))),(Fp 206 [vI f.number] [] (.v (vB z6)) [])∧Bc (!z6) z3 ((Fp 191 [vI f.kind] [] (.v (vB (Dx f.kind))) [])∧Bc (!(Dx f.kind)) z3 (Bc f.packed (Bc (!f.rep) z3 ((Fp 207 [vI f.kind] [] (.v (vB (Cg f.kind))) [])∧Bc (!(Cg f.kind)) z3 (Bc (decide (f.kind=8)) ((wI (z1-1))∧(Fp 71 [vI f.msg,vI 0,vI (z1-1)] [] z2 [])∧Lf z2 z4 [] []) z5))) (Bc (decide (f.kind=8)) ((wI (z1-1))∧(Fp 71 [vI f.msg,vI 0,vI (z1-1)] [] z2 [])∧Lf z2 z4 [] []) z5))))) Q4 ?_
 refine⟨(Xd _),fun h1=>have q1:=Aq h1;?_,fun h1=>have q1:=Ap h1;?_⟩
 refine⟨(sB ?_),rfl⟩
 rotate_left
 refine⟨(Uc _),fun h2=>have q2:=Aq h2;have p2:=A7 q2;?_,fun h2=>have q2:=Ap h2;have p2:=Aw q2;?_⟩
 refine⟨(sB ?_),rfl⟩
 rotate_left
 refine⟨fun h3=>?_,fun h3=>?_⟩
 refine⟨fun h4=>have q4:=Aq h4;?_,fun h4=>have q4:=Ap h4;?_⟩
 refine⟨(sB ?_),rfl⟩
 rotate_left
 refine⟨(Ln _),fun h5=>have q5:=Aq h5;have p5:=A7 q5;?_,fun h5=>have q5:=Ap h5;have p5:=Aw q5;?_⟩
 refine⟨(sB ?_),rfl⟩
 rotate_left
 refine dsp (fun h6 p6=>?_) fun h6 p6=>?_
 refine⟨(Af Q2 Q2),(By _ _ _),(sB ?_),rfl⟩
 rotate_left
 refine⟨(sB ?_),rfl⟩
 rotate_left
 refine dsp (fun h4 p4=>?_) fun h4 p4=>?_
 refine⟨(Af Q2 Q2),(By _ _ _),(sB ?_),rfl⟩
 rotate_left
 refine⟨(sB ?_),rfl⟩
 rotate_left
 all_goals first|(simp[Hy, *];done)|(simp_all[Hy];done)|(simp_all[Hy];omega)|(rw[Bool.eq_iff_iff];simp_all[Hy];omega)
structure Gx where
 id:Int
 v:Nat
def Jj (s:List Shp):Fam:=⟨Gx,fun q1=>[(1,.v (vP 0)),(3,.v (vI q1.id)),(14,.v (.c (.seq .shp s))),(15,.v (vI (s.length:Int))),(16,.v (vI (q1.v:Int)))],fun _=>[.cells [.seq .shp s]],fun q1=>q1.v≤s.length∧D6 (s.length:Int) q1.id (List.drop q1.v s)=D6 (s.length:Int) 0 s,fun q1=>s.length-q1.v⟩
structure Jk where
 number:Int
 v:Nat
def Gy (s:List Shp) (q1:Gx) (x1:Shp):Fam:=⟨Jk,fun q2=>[(1,.v (vP 0)),(5,.v (vP 1)),(6,.v (vI q2.number)),(14,.v (.c (.seq .shp s))),(15,.v (vI (s.length:Int))),(16,.v (vI (q1.v:Int))),(36,.v (.c (.seq .fld x1.fields))),(37,.v (vI (x1.fields.length:Int))),(38,.v (vI (q2.v:Int)))],fun _=>[.cells [.seq .shp s],.cells (Apy x1)],fun q2=>q2.v≤x1.fields.length∧Cz (s.length:Int) q2.number (List.drop q2.v x1.fields)=Cz (s.length:Int) 0 x1.fields,fun q2=>x1.fields.length-q2.v⟩
theorem Ad0 (s:List Shp):Fun Tryz.prog 109 [.agg [.seq .shp s]] [] (.v (vB (C5 s))) []:=by
 have hN:Bk=274877906944:=rfl
 refine Ar Tryz.func109 Q4 Q4 (w:=let z7:=(s.length:Int);let z8:=Lf (.v (vB false)) (.v (vB (C5 s))) [] [];let z9:=Jj s;(.br (.leaf () []) (.seg [.at 0,.keep [1,3,14,15,16],.sel [0]] (.loop z9 fun q1=> .br (.intro (Sx (s[q1.v]?)) fun x1=> .seg [.el .shp x1] (.br (.leaf () []) (.br (.leaf () []) (.br (.leaf () []) (.seg [.at 0,.keep [1,5,6,14,15,16,36,37,38],.sel [0,1]] (.loop (Gy s q1 x1) fun q2=> .br (.intro (Sx (x1.fields[q2.v]?)) fun x2=> .seg [.el .fld x2,.call [] (.v (vB (decide (q2.number<(x2).number)&&Hy x2 z7))) []] (.br (.leaf () []) (.seg [.as 51 (.v (vI ((q2.v:Int)+1))),.at 0,.keep [1,5,6,14,15,16,36,37,38],.sel [0,1]] (.next)))) (.seg [.as 54 (.v (vI ((q1.v:Int)+1))),.at 0,.keep [1,3,14,15,16],.sel [0]] (.next)))))))) (.leaf () []))),Bc (decide (6<z7)) z8 (z9.Has [(1,.v (vP 0)),(3,.v (vI 0)),(14,.v (.c (.seq .shp s))),(15,.v (vI z7)),(16,.v (vI 0))] [.cells [.seq .shp s]]∧∀q1,z9.inv q1→(let z6:=(q1.v:Int);Bc (decide (z6<z7)) (El (s[q1.v]?) fun x1=>(let z3:=(x1.fields.length:Int);let z4:=Gy s q1 x1;let z5:List Blk:=[.cells [.seq .shp s],.cells (Apy x1)];(s[q1.v]? =some x1)∧((0:Int)≤z6)∧Bc (decide (x1.id≤q1.id)) z8 (Bc (decide (99<x1.id)) z8 (Bc (decide (8<z3)) z8 (z4.Has [(1,.v (vP 0)),(5,.v (vP 1)),(6,.v (vI 0)),(14,.v (.c (.seq .shp s))),(15,.v (vI z7)),(16,.v (vI z6)),(36,.v (.c (.seq .fld x1.fields))),(37,.v (vI z3)),(38,.v (vI 0))] z5∧∀q2,z4.inv q2→(let z2:=(q2.v:Int);Bc (decide (z2<z3)) (El (x1.fields[q2.v]?) fun x2=>(let z1:=decide (q2.number<(x2).number)&&Hy x2 z7;(x1.fields[q2.v]? =some x2)∧((0:Int)≤z2)∧(Fp 172 [.agg (Fw x2),vI q2.number,vI z7] [] (.v (vB z1)) [])∧Bc (!z1) z8 ((wI (z2+1))∧z4.Nxt q2 [(1,.v (vP 0)),(5,.v (vP 1)),(6,.v (vI x2.number)),(14,.v (.c (.seq .shp s))),(15,.v (vI z7)),(16,.v (vI z6)),(36,.v (.c (.seq .fld x1.fields))),(37,.v (vI z3)),(38,.v (vI (z2+1)))] z5))) ((wI (z6+1))∧z9.Nxt q1 [(1,.v (vP 0)),(3,.v (vI x1.id)),(14,.v (.c (.seq .shp s))),(15,.v (vI z7)),(16,.v (vI (z6+1)))] [.cells [.seq .shp s]]))))))) (Lf (.v (vB true)) (.v (vB (C5 s))) [] []))))) Q4 ?_
 refine dsp (fun h1 p1=>?_) fun h1 p1=>?_
 refine⟨(sB ?_),rfl⟩
 rotate_left
 refine⟨Cn (j:=(⟨0,0⟩:Gx)) Q9 rfl (by dsimp only[Jj];exact⟨by omega,rfl⟩),fun (q1:Gx) hq_q1=>?_⟩
 have hi_q1:q1.v≤s.length∧D6 (s.length:Int) q1.id (List.drop q1.v s)=D6 (s.length:Int) 0 s:=hq_q1
 obtain ⟨v1,v2⟩:=hi_q1
 refine dsp (fun h2 p2=>?_) fun h2 p2=>?_
 refine⟨(Bp (l:=s) (i:=q1.v) Q2),fun x1 hx1=>?_⟩
 rw[Fe hx1,D6] at v2
 refine⟨hx1,Q2,dsp (fun h3 p3=>?_) fun h3 p3=>?_⟩
 refine⟨(sB ?_),rfl⟩
 rotate_left
 refine dsp (fun h4 p4=>?_) fun h4 p4=>?_
 refine⟨(sB ?_),rfl⟩
 rotate_left
 refine dsp (fun h5 p5=>?_) fun h5 p5=>?_
 refine⟨(sB ?_),rfl⟩
 rotate_left
 refine⟨Cn (j:=(⟨0,0⟩:Jk)) Q9 rfl (by dsimp only[Gy];exact⟨by omega,rfl⟩),fun (q2:Jk) hq_q2=>?_⟩
 have hi_q2:q2.v≤x1.fields.length∧Cz (s.length:Int) q2.number (List.drop q2.v x1.fields)=Cz (s.length:Int) 0 x1.fields:=hq_q2
 obtain ⟨w1,w2⟩:=hi_q2
 refine dsp (fun h6 p6=>?_) fun h6 p6=>?_
 refine⟨(Bp (l:=x1.fields) (i:=q2.v) Q2),fun x2 hx2=>?_⟩
 rw[Fe hx2,Cz] at w2
 refine⟨hx2,Q2,(Am9 x2 _ _ Q2),fun h7=>have q7:=Aq h7;have p7:=(Dh dT Iff.rfl).1 q7;?_,fun h7=>have q7:=Ap h7;have p7:=(Dg dT Iff.rfl).1 q7;?_⟩
 refine⟨(sB ?_),rfl⟩
 rotate_left
 exact⟨(Af Q2 Q2),Be (j:=(⟨x2.number,q2.v+1⟩:Jk)) Q9 rfl (by dsimp only[Gy];exact⟨by omega,by grind[Cz]⟩) (by dsimp only[Gy];omega)⟩
 rw[Kq p6] at w2
 exact⟨(Af Q2 Q2),Be (j:=(⟨x1.id,q1.v+1⟩:Gx)) Q9 rfl (by dsimp only[Jj];exact⟨by omega,by grind[D6,Cz]⟩) (by dsimp only[Jj];omega)⟩
 rw[Kq p2] at v2
 refine⟨(sB ?_),rfl⟩
 rotate_left
 all_goals grind[C5,D6,Cz]
structure F0 where
 i:Nat
 pv:Int
def Gz (s:List Shp):Fam:=⟨F0,fun q1=>[(1,.v (vP 0)),(3,.v (vI (q1.i:Int)))],fun _=>[.cells [.seq .shp s]],fun q1=>q1.i≤s.length∧(0:Int)≤q1.pv∧(q1.i=0→q1.pv=0)∧(∀y,0<q1.i→s[Int.toNat ((q1.i:Int)-1)]? =some y→q1.pv=y.id)∧D6 (s.length:Int) q1.pv (List.drop q1.i s)=D6 (s.length:Int) 0 s,fun q1=>s.length-q1.i⟩
structure Di where
 k:Nat
 pv:Int
def C1 (s:List Shp) (q1:F0) (x1:Shp):Fam:=⟨Di,fun q2=>[(1,.v (vP 0)),(3,.v (vI (q1.i:Int))),(4,.v (vP 1)),(5,.v (vI (q2.k:Int)))],fun _=>[.cells [.seq .shp s],.cells (Apy x1)],fun q2=>q2.k≤x1.fields.length∧(0:Int)≤q2.pv∧(q2.k=0→q2.pv=0)∧(∀y,0<q2.k→x1.fields[Int.toNat ((q2.k:Int)-1)]? =some y→q2.pv=y.number)∧Cz (s.length:Int) q2.pv (List.drop q2.k x1.fields)=Cz (s.length:Int) 0 x1.fields,fun q2=>x1.fields.length-q2.k⟩
theorem Ad1 (s:List Shp):Fun Tryz.prog 89 [.agg [.seq .shp s]] [] (.v (vB (C5 s))) []:=by
 have hN:Bk=274877906944:=rfl
 refine Ar Tryz.func89 Q4 Q4 (w:=let z25:=(s.length:Int);let z26:S:= .v (vB (C5 s));let z27:S:= .v (vB false);let z24:=Lf z27 z26 [] [];let z28:=Gz s;let z29:=os 28 [6];(.br (.leaf () []) (.seg [.at 0,.keep [1,3],.sel [0]] (.loop z28 fun q1=>let z21:=(q1.i:Int);.br (.intro (Sx (s[q1.i]?)) fun x1=>let z15:S:= .v (vB (Ai x1.id 1 99));.seg [.el .shp x1] (.case (!(Ai x1.id 1 99)) (.seg [.ord (os 26 [2]) [],.call [] z15 [],.br true] (.leaf () [])) (.case (decide (0<z21)) (.intro (Sx (s[Int.toNat (z21-1)]?)) fun x2=> .case (decide (x1.id≤x2.id)) (.seg [.ord (os 26 [2]) [],.call [] z15 [],.br false,.br true,.as 33 (.v (vI (z21-1))),.el .shp x2,.br true] (.leaf () [])) (.seg [.ord (os 26 [2]) [],.call [] z15 [],.br false,.br true,.as 33 (.v (vI (z21-1))),.el .shp x2,.br false] (.br (.leaf () []) (.seg [.at 0,.keep [1,3,4,5],.sel [0,1]] (.loop (C1 s q1 x1) fun q2=>let z5:=(q2.k:Int);.br (.intro (Sx (x1.fields[q2.k]?)) fun x3=>let z2:=Hy x3 z25;.case (!z2) (.seg [.ord z29 [],.el .fld x3,.call [] (.v (vB z2)) [],.br true] (.leaf () [])) (.case (decide (0<z5)) (.intro (Sx (x1.fields[Int.toNat (z5-1)]?)) fun x4=> .seg [.ord z29 [],.el .fld x3,.call [] (.v (vB z2)) [],.br false,.br true,.as 70 (.v (vI (z5-1))),.el .fld x4,.el .fld x3] (.br (.leaf () []) (.seg [.as 54 (.v (vI (z5+1))),.at 0,.keep [1,3,4,5],.sel [0,1]] (.next)))) (.seg [.ord z29 [],.el .fld x3,.call [] (.v (vB z2)) [],.br false,.br false,.as 54 (.v (vI (z5+1))),.at 0,.keep [1,3,4,5],.sel [0,1]] (.next)))) (.seg [.as 16 (.v (vI (z21+1))),.at 0,.keep [1,3],.sel [0]] (.next))))))) (.seg [.ord (os 26 [2]) [],.call [] z15 [],.br false,.br false] (.br (.leaf () []) (.seg [.at 0,.keep [1,3,4,5],.sel [0,1]] (.loop (C1 s q1 x1) fun q2=>let z13:=(q2.k:Int);.br (.intro (Sx (x1.fields[q2.k]?)) fun x2=>let z10:=Hy x2 z25;.case (!z10) (.seg [.ord z29 [],.el .fld x2,.call [] (.v (vB z10)) [],.br true] (.leaf () [])) (.case (decide (0<z13)) (.intro (Sx (x1.fields[Int.toNat (z13-1)]?)) fun x3=> .seg [.ord z29 [],.el .fld x2,.call [] (.v (vB z10)) [],.br false,.br true,.as 70 (.v (vI (z13-1))),.el .fld x3,.el .fld x2] (.br (.leaf () []) (.seg [.as 54 (.v (vI (z13+1))),.at 0,.keep [1,3,4,5],.sel [0,1]] (.next)))) (.seg [.ord z29 [],.el .fld x2,.call [] (.v (vB z10)) [],.br false,.br false,.as 54 (.v (vI (z13+1))),.at 0,.keep [1,3,4,5],.sel [0,1]] (.next)))) (.seg [.as 16 (.v (vI (z21+1))),.at 0,.keep [1,3],.sel [0]] (.next))))))))) (.leaf () []))),Bc (decide (6<z25)) z24 (z28.Has [(1,.v (vP 0)),(3,.v (vI 0))] [.cells [.seq .shp s]]∧∀q1,z28.inv q1→(let z22:=(q1.i:Int);let z23:=(wI (z22+1))∧z28.Nxt q1 [(1,.v (vP 0)),(3,.v (vI (z22+1)))] [.cells [.seq .shp s]];Bc (decide (z22<z25)) (El (s[q1.i]?) fun x1=>(let z16:List Blk:=[.cells [.seq .shp s],.cells (Apy x1)];let z17:=C1 s q1 x1;let z18:=Ai x1.id 1 99;let z19:=(x1.fields.length:Int);let z20:List V:=[vI x1.id,vI 1,vI 99];(s[q1.i]? =some x1)∧((0:Int)≤z22)∧Bc (!z18) ((Fp 71 z20 [] (.v (vB z18)) [])∧((!z18)=true)∧Lf z27 z26 [] []) (Bc (decide (0<z22)) (El (s[Int.toNat (z22-1)]?) fun x2=>(let z7:=s[Int.toNat (z22-1)]? =some x2;let z8:=decide (x1.id≤x2.id);Bc z8 ((Fp 71 z20 [] (.v (vB z18)) [])∧((!z18)=false)∧((decide (0<z22))=true)∧(wI (z22-1))∧(wI (z22-1))∧z7∧((0:Int)≤z22-1)∧z7∧((0:Int)≤z22-1)∧(z8=true)∧Lf z27 z26 [] []) ((Fp 71 z20 [] (.v (vB z18)) [])∧((!z18)=false)∧((decide (0<z22))=true)∧(wI (z22-1))∧(wI (z22-1))∧z7∧((0:Int)≤z22-1)∧z7∧((0:Int)≤z22-1)∧(z8=false)∧Bc (decide (8<z19)) z24 (z17.Has [(1,.v (vP 0)),(3,.v (vI z22)),(4,.v (vP 1)),(5,.v (vI 0))] z16∧∀q2,z17.inv q2→(let z6:=(q2.k:Int);Bc (decide (z6<z19)) (El (x1.fields[q2.k]?) fun x3=>(let z3:=Hy x3 z25;let z4:=x1.fields[q2.k]? =some x3;Bc (!z3) (z4∧((0:Int)≤z6)∧z4∧((0:Int)≤z6)∧(Fp 144 [.agg [.seq .shp s],.agg (Fw x3)] [] (.v (vB z3)) [])∧((!z3)=true)∧Lf z27 z26 [] []) (Bc (decide (0<z6)) (El (x1.fields[Int.toNat (z6-1)]?) fun x4=>(let z1:=x1.fields[Int.toNat (z6-1)]? =some x4;z4∧((0:Int)≤z6)∧z4∧((0:Int)≤z6)∧(Fp 144 [.agg [.seq .shp s],.agg (Fw x3)] [] (.v (vB z3)) [])∧((!z3)=false)∧((decide (0<z6))=true)∧(wI (z6-1))∧(wI (z6-1))∧z1∧((0:Int)≤z6-1)∧z1∧((0:Int)≤z6-1)∧z4∧((0:Int)≤z6)∧z4∧((0:Int)≤z6)∧Bc (decide (x3.number≤x4.number)) z24 ((wI (z6+1))∧z17.Nxt q2 [(1,.v (vP 0)),(3,.v (vI z22)),(4,.v (vP 1)),(5,.v (vI (z6+1)))] z16))) (z4∧((0:Int)≤z6)∧z4∧((0:Int)≤z6)∧(Fp 144 [.agg [.seq .shp s],.agg (Fw x3)] [] (.v (vB z3)) [])∧((!z3)=false)∧((decide (0<z6))=false)∧(wI (z6+1))∧z17.Nxt q2 [(1,.v (vP 0)),(3,.v (vI z22)),(4,.v (vP 1)),(5,.v (vI (z6+1)))] z16)))) z23))))) ((Fp 71 z20 [] (.v (vB z18)) [])∧((!z18)=false)∧((decide (0<z22))=false)∧Bc (decide (8<z19)) z24 (z17.Has [(1,.v (vP 0)),(3,.v (vI z22)),(4,.v (vP 1)),(5,.v (vI 0))] z16∧∀q2,z17.inv q2→(let z14:=(q2.k:Int);Bc (decide (z14<z19)) (El (x1.fields[q2.k]?) fun x2=>(let z11:=Hy x2 z25;let z12:=x1.fields[q2.k]? =some x2;Bc (!z11) (z12∧((0:Int)≤z14)∧z12∧((0:Int)≤z14)∧(Fp 144 [.agg [.seq .shp s],.agg (Fw x2)] [] (.v (vB z11)) [])∧((!z11)=true)∧Lf z27 z26 [] []) (Bc (decide (0<z14)) (El (x1.fields[Int.toNat (z14-1)]?) fun x3=>(let z9:=x1.fields[Int.toNat (z14-1)]? =some x3;z12∧((0:Int)≤z14)∧z12∧((0:Int)≤z14)∧(Fp 144 [.agg [.seq .shp s],.agg (Fw x2)] [] (.v (vB z11)) [])∧((!z11)=false)∧((decide (0<z14))=true)∧(wI (z14-1))∧(wI (z14-1))∧z9∧((0:Int)≤z14-1)∧z9∧((0:Int)≤z14-1)∧z12∧((0:Int)≤z14)∧z12∧((0:Int)≤z14)∧Bc (decide (x2.number≤x3.number)) z24 ((wI (z14+1))∧z17.Nxt q2 [(1,.v (vP 0)),(3,.v (vI z22)),(4,.v (vP 1)),(5,.v (vI (z14+1)))] z16))) (z12∧((0:Int)≤z14)∧z12∧((0:Int)≤z14)∧(Fp 144 [.agg [.seq .shp s],.agg (Fw x2)] [] (.v (vB z11)) [])∧((!z11)=false)∧((decide (0<z14))=false)∧(wI (z14+1))∧z17.Nxt q2 [(1,.v (vP 0)),(3,.v (vI z22)),(4,.v (vP 1)),(5,.v (vI (z14+1)))] z16)))) z23)))))) (Lf (.v (vB true)) z26 [] []))))) Q4 ?_
 refine dsp (fun h1 p1=>?_) fun h1 p1=>?_
 exact⟨(congrArg S.v (congrArg V.c (congrArg C.bool Q43))),rfl⟩
 refine⟨Cn (j:=(⟨0,0⟩:F0)) Q9 rfl (by dsimp only[Gz];exact⟨by omega,by omega,by omega,by omega,rfl⟩),fun (q1:F0) hq_q1=>?_⟩
 have hi_q1:q1.i≤s.length∧(0:Int)≤q1.pv∧(q1.i=0→q1.pv=0)∧(∀y,0<q1.i→s[Int.toNat ((q1.i:Int)-1)]? =some y→q1.pv=y.id)∧D6 (s.length:Int) q1.pv (List.drop q1.i s)=D6 (s.length:Int) 0 s:=hq_q1
 obtain ⟨v1,v2,v3,v4,v5⟩:=hi_q1
 refine dsp (fun h2 p2=>?_) fun h2 p2=>?_
 refine⟨(Bp (l:=s) (i:=q1.i) Q2),fun x1 hx1=>?_⟩
 rw[Fe hx1,D6] at v5
 refine⟨hx1,Q2,fun h3=>have q3:=Aq h3;have p3:=A7 q3;?_,fun h3=>have q3:=Ap h3;have p3:=Aw q3;?_⟩
 exact⟨(By _ _ _),h3,(congrArg S.v (congrArg V.c (congrArg C.bool Q43))),rfl⟩
 refine dsp (fun h4 p4=>?_) fun h4 p4=>?_
 refine⟨(Bp (l:=s) (i:=Int.toNat ((q1.i:Int)-1)) Q2),fun x2 hx2=>?_⟩
 have hy:=v4 _ (by omega) hx2
 refine dsp (fun h5 p5=>?_) fun h5 p5=>?_
 exact⟨(By _ _ _),h3,h4,(Af Q2 Q2),(Af Q2 Q2),hx2,Q2,hx2,Q2,h5,(congrArg S.v (congrArg V.c (congrArg C.bool Q43))),rfl⟩
 refine⟨(By _ _ _),h3,h4,(Af Q2 Q2),(Af Q2 Q2),hx2,Q2,hx2,Q2,h5,dsp (fun h6 p6=>?_) fun h6 p6=>?_⟩
 exact⟨(congrArg S.v (congrArg V.c (congrArg C.bool Q43))),rfl⟩
 refine⟨Cn (j:=(⟨0,0⟩:Di)) Q9 rfl (by dsimp only[C1];exact⟨by omega,by omega,by omega,by omega,rfl⟩),fun (q2:Di) hq_q2=>?_⟩
 have hi_q2:q2.k≤x1.fields.length∧(0:Int)≤q2.pv∧(q2.k=0→q2.pv=0)∧(∀y,0<q2.k→x1.fields[Int.toNat ((q2.k:Int)-1)]? =some y→q2.pv=y.number)∧Cz (s.length:Int) q2.pv (List.drop q2.k x1.fields)=Cz (s.length:Int) 0 x1.fields:=hq_q2
 obtain ⟨w1,w2,w3,w4,w5⟩:=hi_q2
 refine dsp (fun h7 p7=>?_) fun h7 p7=>?_
 refine⟨(Bp (l:=x1.fields) (i:=q2.k) Q2),fun x3 hx3=>?_⟩
 rw[Fe hx3,Cz] at w5
 refine⟨fun h8=>have q8:=Aq h8;?_,fun h8=>have q8:=Ap h8;have p8:=Ye q8;?_⟩
 exact⟨hx3,Q2,hx3,Q2,(Su s x3 Q2),h8,(congrArg S.v (congrArg V.c (congrArg C.bool Q43))),rfl⟩
 refine dsp (fun h9 p9=>?_) fun h9 p9=>?_
 refine⟨(Bp (l:=x1.fields) (i:=Int.toNat ((q2.k:Int)-1)) Q2),fun x4 hx4=>?_⟩
 have hz:=w4 _ (by omega) hx4
 refine⟨hx3,Q2,hx3,Q2,(Su s x3 Q2),h8,h9,(Af Q2 Q2),(Af Q2 Q2),hx4,Q2,hx4,Q2,hx3,Q2,hx3,Q2,dsp (fun h10 p10=>?_) fun h10 p10=>?_⟩
 exact⟨(congrArg S.v (congrArg V.c (congrArg C.bool Q43))),rfl⟩
 exact⟨(Af Q2 Q2),Be (j:=(⟨q2.k+1,x3.number⟩:Di)) Q9 rfl Q40 (by dsimp only[C1];omega)⟩
 exact⟨hx3,Q2,hx3,Q2,(Su s x3 Q2),h8,h9,(Af Q2 Q2),Be (j:=(⟨q2.k+1,x3.number⟩:Di)) Q9 rfl Q40 (by dsimp only[C1];omega)⟩
 rw[Kq p7,Cz] at w5
 exact⟨(Af Q2 Q2),Be (j:=(⟨q1.i+1,x1.id⟩:F0)) Q9 rfl Q34 (by dsimp only[Gz];omega)⟩
 refine⟨(By _ _ _),h3,h4,dsp (fun h5 p5=>?_) fun h5 p5=>?_⟩
 exact⟨(congrArg S.v (congrArg V.c (congrArg C.bool Q43))),rfl⟩
 refine⟨Cn (j:=(⟨0,0⟩:Di)) Q9 rfl (by dsimp only[C1];exact⟨by omega,by omega,by omega,by omega,rfl⟩),fun (q2:Di) hq_q2=>?_⟩
 have hi_q2:q2.k≤x1.fields.length∧(0:Int)≤q2.pv∧(q2.k=0→q2.pv=0)∧(∀y,0<q2.k→x1.fields[Int.toNat ((q2.k:Int)-1)]? =some y→q2.pv=y.number)∧Cz (s.length:Int) q2.pv (List.drop q2.k x1.fields)=Cz (s.length:Int) 0 x1.fields:=hq_q2
 obtain ⟨w1,w2,w3,w4,w5⟩:=hi_q2
 refine dsp (fun h6 p6=>?_) fun h6 p6=>?_
 refine⟨(Bp (l:=x1.fields) (i:=q2.k) Q2),fun x2 hx2=>?_⟩
 rw[Fe hx2,Cz] at w5
 refine⟨fun h7=>have q7:=Aq h7;?_,fun h7=>have q7:=Ap h7;have p7:=Ye q7;?_⟩
 exact⟨hx2,Q2,hx2,Q2,(Su s x2 Q2),h7,(congrArg S.v (congrArg V.c (congrArg C.bool Q43))),rfl⟩
 refine dsp (fun h8 p8=>?_) fun h8 p8=>?_
 refine⟨(Bp (l:=x1.fields) (i:=Int.toNat ((q2.k:Int)-1)) Q2),fun x3 hx3=>?_⟩
 have hz:=w4 _ (by omega) hx3
 refine⟨hx2,Q2,hx2,Q2,(Su s x2 Q2),h7,h8,(Af Q2 Q2),(Af Q2 Q2),hx3,Q2,hx3,Q2,hx2,Q2,hx2,Q2,dsp (fun h9 p9=>?_) fun h9 p9=>?_⟩
 exact⟨(congrArg S.v (congrArg V.c (congrArg C.bool Q43))),rfl⟩
 exact⟨(Af Q2 Q2),Be (j:=(⟨q2.k+1,x2.number⟩:Di)) Q9 rfl Q41 (by dsimp only[C1];omega)⟩
 exact⟨hx2,Q2,hx2,Q2,(Su s x2 Q2),h7,h8,(Af Q2 Q2),Be (j:=(⟨q2.k+1,x2.number⟩:Di)) Q9 rfl Q41 (by dsimp only[C1];omega)⟩
 rw[Kq p6,Cz] at w5
 exact⟨(Af Q2 Q2),Be (j:=(⟨q1.i+1,x1.id⟩:F0)) Q9 rfl Q34 (by dsimp only[Gz];omega)⟩
 rw[Kq p2,D6] at v5
 exact⟨(congrArg S.v (congrArg V.c (congrArg C.bool Q43))),rfl⟩
structure Kw where
 v:Nat
def H3 (n:Int) (x1:Shp):Fam:=⟨Kw,fun q1=>[(2,.v (vI n)),(6,.v (vP 0)),(23,.v (.c (.seq .fld x1.fields))),(24,.v (vI (x1.fields.length:Int))),(25,.v (vI (q1.v:Int)))],fun _=>[.cells [.int .i64 0,.int .i64 0,.bool false,.bool false,.int .i64 0]],fun q1=>q1.v≤x1.fields.length∧Gg (List.drop q1.v x1.fields) n=Gg x1.fields n,fun q1=>x1.fields.length-q1.v⟩
theorem Vk (s:List Shp) (sh:Int) (n:Int) (hp1:s.length≤1000) (hp2: ∀x∈s,x.fields.length≤1000):Fun Tryz.prog 121 [.agg [.seq .shp s],vI sh,vI n] [] (.tup [.agg (Fw ((fieldAt s sh n).getD fld0)),vB (fieldAt s sh n).isSome]) []:=by
 have hN:Bk=274877906944:=rfl
 refine Ar Tryz.func121 Q4 Q4 (w:=let z4:List C:=[.int .i64 0,.int .i64 0,.bool false,.bool false,.int .i64 0];let z5:=(s.length:Int)-1;let z6:S:= .tup [.agg (Fw ((fieldAt s sh n).getD fld0)),vB (fieldAt s sh n).isSome];let z7:=Lf (.tup [.agg z4,vB false]) z6 [] [];(.seg [.as 14 (.v (vI z5)),.call [] (.v (vB (Ai sh 0 z5))) []] (.br (.leaf () []) (.intro (Sx (s[sh.toNat]?)) fun x1=> .seg [.el .shp x1,.at 0,.keep [2,6,23,24,25],.sel [1]] (.loop (H3 n x1) fun q1=> .br (.intro (Sx (x1.fields[q1.v]?)) fun x2=> .seg [.el .fld x2] (.br (.leaf () []) (.seg [.as 34 (.v (vI ((q1.v:Int)+1))),.at 0,.keep [2,6,23,24,25],.sel [0]] (.next)))) (.leaf () [])))),(wI z5)∧(Fp 69 [vI sh,vI 0,vI z5] [] (.v (vB (Ai sh 0 z5))) [])∧Bc (!(Ai sh 0 z5)) z7 (El (s[sh.toNat]?) fun x1=>(let z2:=(x1.fields.length:Int);let z3:=H3 n x1;(s[sh.toNat]? =some x1)∧((0:Int)≤sh)∧z3.Has [(2,.v (vI n)),(6,.v (vP 0)),(23,.v (.c (.seq .fld x1.fields))),(24,.v (vI z2)),(25,.v (vI 0))] [.cells z4]∧∀q1,z3.inv q1→(let z1:=(q1.v:Int);Bc (decide (z1<z2)) (El (x1.fields[q1.v]?) fun x2=>((x1.fields[q1.v]? =some x2)∧((0:Int)≤z1)∧Bc (decide (x2.number=n)) (Lf (.tup [.agg (Fw x2),vB true]) z6 [] []) ((wI (z1+1))∧z3.Nxt q1 [(2,.v (vI n)),(6,.v (vP 0)),(23,.v (.c (.seq .fld x1.fields))),(24,.v (vI z2)),(25,.v (vI (z1+1)))] [.cells z4]))) z7))))) Q4 ?_
 refine⟨(Af Q2 Q2),(Cf _ _ _),fun h1=>have q1:=Aq h1;have p1:=A7 q1;?_,fun h1=>have q1:=Ap h1;have p1:=Aw q1;?_⟩
 refine zE ((fieldAt s sh n).getD fld0) (⟨0,0,false,false,0⟩:Fld) (fun hm1=>⟨(congrArg S.tup (Ac (congrArg V.agg (Ac (congrArg (C.int .i64) ?_) (Ac (congrArg (C.int .i64) ?_) (Ac (congrArg C.bool ?_) (Ac (congrArg C.bool ?_) (Ac (congrArg (C.int .i64) ?_) rfl)))))) (Ac (congrArg V.c (congrArg C.bool ?_)) rfl))),rfl⟩) ?_
 rotate_left 7
 have q1_:=q1
 refine⟨(Bp (l:=s) (i:=sh.toNat) Q2),fun x1 hx1=>?_⟩
 have hfa:=W6 (n:=n) q1_ hx1
 have hfl:=hp2 x1 (List.mem_of_getElem? hx1)
 refine⟨hx1,Q2,Cn (j:=(⟨0⟩:Kw)) Q9 rfl (by dsimp only[H3];exact⟨by omega,by simp⟩),fun (q1:Kw) hq_q1=>?_⟩
 have hi_q1:q1.v≤x1.fields.length∧Gg (List.drop q1.v x1.fields) n=Gg x1.fields n:=hq_q1
 obtain ⟨v1,v2⟩:=hi_q1
 refine dsp (fun h2 p2=>?_) fun h2 p2=>?_
 refine⟨(Bp (l:=x1.fields) (i:=q1.v) Q2),fun x2 hx2=>?_⟩
 rw[Fe hx2,Tv] at v2
 refine⟨hx2,Q2,dsp (fun h3 p3=>?_) fun h3 p3=>?_⟩
 refine zE ((fieldAt s sh n).getD fld0) x2 (fun hm1=>⟨(congrArg S.tup (Ac (congrArg V.agg (Ac (congrArg (C.int .i64) ?_) (Ac (congrArg (C.int .i64) ?_) (Ac (congrArg C.bool ?_) (Ac (congrArg C.bool ?_) (Ac (congrArg (C.int .i64) ?_) rfl)))))) (Ac (congrArg V.c (congrArg C.bool ?_)) rfl))),rfl⟩) ?_
 rotate_left 7
 exact⟨(Af Q2 Q2),Be (j:=(⟨q1.v+1⟩:Kw)) Q9 rfl (by dsimp only[H3];exact⟨by omega,by grind⟩) (by dsimp only[H3];omega)⟩
 rw[Kq p2] at v2
 refine zE ((fieldAt s sh n).getD fld0) (⟨0,0,false,false,0⟩:Fld) (fun hm1=>⟨(congrArg S.tup (Ac (congrArg V.agg (Ac (congrArg (C.int .i64) ?_) (Ac (congrArg (C.int .i64) ?_) (Ac (congrArg C.bool ?_) (Ac (congrArg C.bool ?_) (Ac (congrArg (C.int .i64) ?_) rfl)))))) (Ac (congrArg V.c (congrArg C.bool ?_)) rfl))),rfl⟩) ?_
 rotate_left 7
 all_goals grind[fieldAt,fld0,Gg]
structure Kx where
 i:Nat
def H4 (n:Int) (x1:Shp):Fam:=⟨Kx,fun q1=>[(2,.v (vI n)),(6,.v (vP 0)),(8,.v (.c (.seq .fld x1.fields))),(9,.v (vI (q1.i:Int)))],fun _=>[.cells [.int .i64 0,.int .i64 0,.bool false,.bool false,.int .i64 0]],fun q1=>q1.i≤x1.fields.length∧Gg (List.drop q1.i x1.fields) n=Gg x1.fields n,fun q1=>x1.fields.length-q1.i⟩
theorem Agr (s:List Shp) (sh:Int) (n:Int) (hp1:s.length≤1000) (hp2: ∀x∈s,x.fields.length≤1000):Fun Tryz.prog 129 [.agg [.seq .shp s],vI sh,vI n] [] (.tup [.agg (Fw ((fieldAt s sh n).getD fld0)),vB (fieldAt s sh n).isSome]) []:=by
 have hN:Bk=274877906944:=rfl
 refine Ar Tryz.func129 Q4 Q4 (w:=let z3:List C:=[.int .i64 0,.int .i64 0,.bool false,.bool false,.int .i64 0];let z4:=(s.length:Int)-1;let z5:S:= .tup [.agg (Fw ((fieldAt s sh n).getD fld0)),vB (fieldAt s sh n).isSome];let z6:=Lf (.tup [.agg z3,vB false]) z5 [] [];(.seg [.as 14 (.v (vI z4)),.call [] (.v (vB (Ai sh 0 z4))) []] (.br (.leaf () []) (.intro (Sx (s[sh.toNat]?)) fun x1=> .seg [.el .shp x1,.at 0,.keep [2,6,8,9],.sel [1]] (.loop (H4 n x1) fun q1=> .br (.intro (Sx (x1.fields[q1.i]?)) fun x2=> .seg [.el .fld x2] (.br (.seg [.el .fld x2] (.leaf () [])) (.seg [.as 29 (.v (vI ((q1.i:Int)+1))),.at 0,.keep [2,6,8,9],.sel [0]] (.next)))) (.leaf () [])))),(wI z4)∧(Fp 71 [vI sh,vI 0,vI z4] [] (.v (vB (Ai sh 0 z4))) [])∧Bc (!(Ai sh 0 z4)) z6 (El (s[sh.toNat]?) fun x1=>(let z2:=H4 n x1;(s[sh.toNat]? =some x1)∧((0:Int)≤sh)∧z2.Has [(2,.v (vI n)),(6,.v (vP 0)),(8,.v (.c (.seq .fld x1.fields))),(9,.v (vI 0))] [.cells z3]∧∀q1,z2.inv q1→(let z1:=(q1.i:Int);Bc (decide (z1<(x1.fields.length:Int))) (El (x1.fields[q1.i]?) fun x2=>((x1.fields[q1.i]? =some x2)∧((0:Int)≤z1)∧Bc (decide (x2.number=n)) ((x1.fields[q1.i]? =some x2)∧((0:Int)≤z1)∧Lf (.tup [.agg (Fw x2),vB true]) z5 [] []) ((wI (z1+1))∧z2.Nxt q1 [(2,.v (vI n)),(6,.v (vP 0)),(8,.v (.c (.seq .fld x1.fields))),(9,.v (vI (z1+1)))] [.cells z3]))) z6))))) Q4 ?_
 refine⟨(Af Q2 Q2),(By _ _ _),fun h1=>have q1:=Aq h1;have p1:=A7 q1;?_,fun h1=>have q1:=Ap h1;have p1:=Aw q1;?_⟩
 refine zE ((fieldAt s sh n).getD fld0) (⟨0,0,false,false,0⟩:Fld) (fun hm1=>⟨(congrArg S.tup (Ac (congrArg V.agg (Ac (congrArg (C.int .i64) ?_) (Ac (congrArg (C.int .i64) ?_) (Ac (congrArg C.bool ?_) (Ac (congrArg C.bool ?_) (Ac (congrArg (C.int .i64) ?_) rfl)))))) (Ac (congrArg V.c (congrArg C.bool ?_)) rfl))),rfl⟩) ?_
 rotate_left 7
 have q1_:=q1
 refine⟨(Bp (l:=s) (i:=sh.toNat) Q2),fun x1 hx1=>?_⟩
 have hfa:=W6 (n:=n) q1_ hx1
 have hfl:=hp2 x1 (List.mem_of_getElem? hx1)
 refine⟨hx1,Q2,Cn (j:=(⟨0⟩:Kx)) Q9 rfl (by dsimp only[H4];exact⟨by omega,by simp⟩),fun (q1:Kx) hq_q1=>?_⟩
 have hi_q1:q1.i≤x1.fields.length∧Gg (List.drop q1.i x1.fields) n=Gg x1.fields n:=hq_q1
 obtain ⟨v1,v2⟩:=hi_q1
 refine dsp (fun h2 p2=>?_) fun h2 p2=>?_
 refine⟨(Bp (l:=x1.fields) (i:=q1.i) Q2),fun x2 hx2=>?_⟩
 rw[Fe hx2,Tv] at v2
 refine⟨hx2,Q2,dsp (fun h3 p3=>?_) fun h3 p3=>?_⟩
 refine zE ((fieldAt s sh n).getD fld0) x2 (fun hm1=>⟨hx2,Q2,(congrArg S.tup (Ac (congrArg V.agg (Ac (congrArg (C.int .i64) ?_) (Ac (congrArg (C.int .i64) ?_) (Ac (congrArg C.bool ?_) (Ac (congrArg C.bool ?_) (Ac (congrArg (C.int .i64) ?_) rfl)))))) (Ac (congrArg V.c (congrArg C.bool ?_)) rfl))),rfl⟩) ?_
 rotate_left 7
 exact⟨(Af Q2 Q2),Be (j:=(⟨q1.i+1⟩:Kx)) Q9 rfl (by dsimp only[H4];exact⟨by omega,by grind⟩) (by dsimp only[H4];omega)⟩
 rw[Kq p2] at v2
 refine zE ((fieldAt s sh n).getD fld0) (⟨0,0,false,false,0⟩:Fld) (fun hm1=>⟨(congrArg S.tup (Ac (congrArg V.agg (Ac (congrArg (C.int .i64) ?_) (Ac (congrArg (C.int .i64) ?_) (Ac (congrArg C.bool ?_) (Ac (congrArg C.bool ?_) (Ac (congrArg (C.int .i64) ?_) rfl)))))) (Ac (congrArg V.c (congrArg C.bool ?_)) rfl))),rfl⟩) ?_
 rotate_left 7
 all_goals grind[fieldAt,fld0,Gg]
theorem Acr (p:Pln):Fun Tryz.prog 57 [.agg (Fh p)] [] (.v (vB (Br p))) []:=by
 have hN:Bk=274877906944:=rfl
 refine Ar Tryz.func57 Q4 Q4 (w:=let z1:=(p.shapes.length:Int)-1;let z2:=Lf (.v (vB false)) (.v (vB (Br p))) [] [];let z3:S:= .v (vB (Ai p.most 0 2000));let z4:=Ai p.root 0 z1;let z5:=C5 p.shapes;let z6:=Ai p.deep 1 8;(.seg [.call [] (.v (vB z5)) []] (.br (.seg [.as 13 (.v (vI z1)),.call [] (.v (vB z4)) []] (.br (.seg [.call [] (.v (vB z6)) []] (.br (.seg [.call [] z3 []] (.leaf () [])) (.leaf () []))) (.leaf () []))) (.leaf () [])),(Fp 109 [.agg [.seq .shp p.shapes]] [] (.v (vB z5)) [])∧Bc z5 ((wI z1)∧(Fp 69 [vI p.root,vI 0,vI z1] [] (.v (vB z4)) [])∧Bc z4 ((Fp 69 [vI p.deep,vI 1,vI 8] [] (.v (vB z6)) [])∧Bc z6 ((Fp 69 [vI p.most,vI 0,vI 2000] [] z3 [])∧Lf z3 (.v (vB (Br p))) [] []) z2) z2) z2)) Q4 ?_
 refine⟨(Ad0 p.shapes),fun h1=>have p1:=So h1;?_,fun h1=>?_⟩
 refine⟨(Af Q2 Q2),(Cf _ _ _),fun h2=>have p2:=Aw h2;?_,fun h2=>have p2:=A7 h2;?_⟩
 refine⟨(Cf _ _ _),fun h3=>have p3:=Aw h3;?_,fun h3=>have p3:=A7 h3;?_⟩
 exact⟨(Cf _ _ _),(congrArg S.v (congrArg V.c (congrArg C.bool Q56))),rfl⟩
 exact⟨(congrArg S.v (congrArg V.c (congrArg C.bool Q56))),rfl⟩
 exact⟨(congrArg S.v (congrArg V.c (congrArg C.bool Q56))),rfl⟩
 exact⟨(congrArg S.v (congrArg V.c (congrArg C.bool Q56))),rfl⟩
theorem Ue (p:Pln):Fun Tryz.prog 42 [.agg (Fh p)] [] (.v (vB (Br p))) []:=by
 have hN:Bk=274877906944:=rfl
 refine Ar Tryz.func42 Q4 Q4 (w:=let z1:=(p.shapes.length:Int)-1;let z2:=Lf (.v (vB false)) (.v (vB (Br p))) [] [];let z3:S:= .v (vB (Ai p.most 0 2000));let z4:=Ai p.root 0 z1;let z5:=C5 p.shapes;let z6:=Ai p.deep 1 8;(.seg [.call [] (.v (vB z5)) []] (.br (.seg [.as 13 (.v (vI z1)),.call [] (.v (vB z4)) []] (.br (.seg [.call [] (.v (vB z6)) []] (.br (.seg [.call [] z3 []] (.leaf () [])) (.leaf () []))) (.leaf () []))) (.leaf () [])),(Fp 89 [.agg [.seq .shp p.shapes]] [] (.v (vB z5)) [])∧Bc z5 ((wI z1)∧(Fp 71 [vI p.root,vI 0,vI z1] [] (.v (vB z4)) [])∧Bc z4 ((Fp 71 [vI p.deep,vI 1,vI 8] [] (.v (vB z6)) [])∧Bc z6 ((Fp 71 [vI p.most,vI 0,vI 2000] [] z3 [])∧Lf z3 (.v (vB (Br p))) [] []) z2) z2) z2)) Q4 ?_
 refine⟨(Ad1 p.shapes),fun h1=>have p1:=So h1;?_,fun h1=>?_⟩
 refine⟨(Af Q2 Q2),(By _ _ _),fun h2=>have p2:=Aw h2;?_,fun h2=>have p2:=A7 h2;?_⟩
 refine⟨(By _ _ _),fun h3=>have p3:=Aw h3;?_,fun h3=>have p3:=A7 h3;?_⟩
 exact⟨(By _ _ _),(congrArg S.v (congrArg V.c (congrArg C.bool Q56))),rfl⟩
 exact⟨(congrArg S.v (congrArg V.c (congrArg C.bool Q56))),rfl⟩
 exact⟨(congrArg S.v (congrArg V.c (congrArg C.bool Q56))),rfl⟩
 exact⟨(congrArg S.v (congrArg V.c (congrArg C.bool Q56))),rfl⟩
theorem Ad2 (k:Int):Fun Tryz.prog 135 [vI k] [] (.v (vB (Fy k))) []:=by
 have hN:Bk=274877906944:=rfl
 refine Ar Tryz.func135 Q4 Q4 (w:=let z1:=Lf (.v (vB true)) (.v (vB (Fy k))) [] [];(.br (.leaf () []) (.br (.leaf () []) (.leaf () [])),Bc (decide (k=2)) z1 (Bc (decide (k=3)) z1 (Lf (.v (vB (decide (k=6)))) (.v (vB (Fy k))) [] [])))) Q4 ?_
 refine dsp (fun h1 p1=>?_) fun h1 p1=>?_
 exact⟨(congrArg S.v (congrArg V.c (congrArg C.bool (by grind[Fy])))),rfl⟩
 refine dsp (fun h2 p2=>?_) fun h2 p2=>?_
 exact⟨(congrArg S.v (congrArg V.c (congrArg C.bool (by grind[Fy])))),rfl⟩
 exact⟨(congrArg S.v (congrArg V.c (congrArg C.bool (by grind[Fy])))),rfl⟩
structure Aoz where
 count:Int
 v:Nat
structure Ao0 where
 n:Int
 i:Nat
structure Aih where
 i:Int
structure Aii where
 i:Int
theorem Dz (d:Dcd) (hp1:List.length (d).stack≤Bk):Fun Tryz.prog 152 [.agg (C4 d)] [] (.v (vI (Eb d))) []:=by
 have hN:Bk=274877906944:=rfl
 refine Ar Tryz.func152 Q4 Q4 (w:=let z1:=((List.length d.stack:Nat):Int);(.br (.leaf () []) (.seg [.as 12 (.v (vI (z1-1)))] (.intro (Sx (d.stack[Int.toNat (z1-1)]?)) fun x1=> .seg [.el .lev x1] (.leaf () []))),Bc (decide (z1=0)) (Lf (.v (vI 0)) (.v (vI (Eb d))) [] []) ((wI (z1-1))∧El (d.stack[Int.toNat (z1-1)]?) fun x1=>((d.stack[Int.toNat (z1-1)]? =some x1)∧((0:Int)≤z1-1)∧Lf (.v (vI x1.left)) (.v (vI (Eb d))) [] [])))) Q4 ?_
 refine dsp (fun h1 p1=>?_) fun h1 p1=>?_
 refine⟨(sI ?_),rfl⟩
 rotate_left
 refine⟨(Af Q2 Q2),(Bp (l:=d.stack) (i:=Int.toNat (((List.length d.stack:Nat):Int)-1)) Q2),fun x1 hx1=>?_⟩
 have htop:Eb d=x1.left:=by unfold Eb;rw[U8 (by rw[←hx1];congr 1;omega)]
 refine⟨hx1,Q2,(sI ?_),rfl⟩
 rotate_left
 all_goals first|(exact htop.symm)|((unfold Eb;rw[List.eq_nil_of_length_eq_zero (by omega:List.length d.stack=0)];rfl))|(grind)
theorem Ags (p:Pln) (k:Int) (hp1:List.length (p).shapes≤Bk):Fun Tryz.prog 260 [.agg (Fh p),vI k] [] (.v (vB (Ai k 0 (((List.length (p).shapes:Nat):Int)-1)))) []:=by
 have hN:Bk=274877906944:=rfl
 refine Ar Tryz.func260 Q4 Q4 (w:=let z1:=((List.length p.shapes:Nat):Int)-1;let z2:S:= .v (vB (Ai k 0 z1));(.seg [.as 10 (.v (vI z1)),.call [] z2 []] (.leaf () []),(wI z1)∧(Fp 69 [vI k,vI 0,vI z1] [] z2 [])∧Lf z2 (.v (vB (Ai k 0 (((List.length (p).shapes:Nat):Int)-1)))) [] [])) Q4 ?_
 exact⟨(Af Q2 Q2),(Cf _ _ _),(congrArg S.v (congrArg V.c (congrArg C.bool (by rfl)))),rfl⟩
theorem Agt (p:Pln) (l:Lev) (hp1:List.length (p).shapes≤Bk):Fun Tryz.prog 210 [.agg (Fh p),.agg (Apz l)] [] (.v (vB (Hj ((List.length (p).shapes:Nat):Int) l))) []:=by
 have hN:Bk=274877906944:=rfl
 refine Ar Tryz.func210 Q4 Q4 (w:=let z1:=((List.length (p).shapes:Nat):Int);let z2:S:= .v (vB (Ai l.left 0 2000));let z3:=Ai l.msg 0 (z1-1);(.seg [.call [] (.v (vB z3)) []] (.br (.seg [.call [] z2 []] (.leaf () [])) (.leaf () [])),(Fp 260 [.agg (Fh p),vI l.msg] [] (.v (vB z3)) [])∧Bc z3 ((Fp 69 [vI l.left,vI 0,vI 2000] [] z2 [])∧Lf z2 (.v (vB (Hj z1 l))) [] []) (Lf (.v (vB false)) (.v (vB (Hj z1 l))) [] []))) Q4 ?_
 refine⟨(Ags p _ Q2),fun h1=>have p1:=Aw h1;?_,fun h1=>have p1:=A7 h1;?_⟩
 refine⟨(Cf _ _ _),(sB ?_),rfl⟩
 rotate_left
 refine⟨(sB ?_),rfl⟩
 rotate_left
 all_goals first|(simp[Hj, *];done)|(simp_all[Hj];done)|(grind[Hj])
theorem Ajb (l:Lev) (d:Dcd) (hp1:List.length (d).plan.shapes≤Bk):Fun Tryz.prog 209 [.agg (Apz l),vP 0] [.cells (C4 d)] (.v (vB (!Hj ((List.length (d).plan.shapes:Nat):Int) l))) [.cells (C4 d)]:=by
 have hN:Bk=274877906944:=rfl
 refine Ar Tryz.func209 Q4 Q4 (w:=let z1:=Hj ((List.length (d.plan).shapes:Nat):Int) l;(.seg [.call [] (.v (vB z1)) []] (.leaf () [0]),(Fp 210 [.agg (Fh d.plan),.agg (Apz l)] [] (.v (vB z1)) [])∧Lf (.v (vB (!z1))) (.v (vB (!Hj ((List.length (d).plan.shapes:Nat):Int) l))) [.cells (C4 d)] [.cells (C4 d)])) Q4 ?_
 exact⟨(Agt d.plan l Q2),(congrArg S.v (congrArg V.c (congrArg C.bool (by rfl)))),rfl⟩
structure Ru where
 v:Nat
def Rv (s:List Lev) (d:Dcd):Fam:=⟨Ru,fun q1=>[(0,.v (.c (.seq .lev s))),(1,.v (.c (.fn 209 [0]))),(7,.v (vI ((List.length s:Nat):Int))),(8,.v (vI ((q1.v:Nat):Int)))],fun _=>[.cells (C4 d)],fun q1=>q1.v≤List.length s∧Agc (List.length d.plan.shapes:Int) (List.drop q1.v s)+q1.v=Agc (List.length d.plan.shapes:Int) s,fun q1=>List.length s-q1.v⟩
theorem Ao1 (s:List Lev) (d:Dcd) (hp1:List.length (d).plan.shapes≤Bk) (hp2:List.length s≤Bk):Fun Tryz.prog 259 [.c (.seq .lev s),.c (.fn 209 [0])] [.cells (C4 d)] (.v (vI (Ks ((List.length (d).plan.shapes:Nat):Int) s))) [.cells (C4 d)]:=by
 have hN:Bk=274877906944:=rfl
 refine Ar Tryz.func259 Q4 Q4 (w:=let z3:=((List.length (d).plan.shapes:Nat):Int);let z4:List Blk:=[.cells (C4 d)];let z5:=((List.length s:Nat):Int);let z6:=Rv s d;(.seg [.at 0,.keep [0,1,7,8],.sel [0]] (.loop z6 fun q1=> .br (.intro (Sx (s[q1.v]?)) fun x1=> .seg [.el .lev x1,.call [0] (.v (vB (!Hj z3 x1))) z4] (.br (.leaf () [0]) (.seg [.as 18 (.v (vI (((q1.v:Nat):Int)+1))),.at 0,.keep [0,1,7,8],.sel [0]] (.next)))) (.leaf () [0])),z6.Has [(0,.v (.c (.seq .lev s))),(1,.v (.c (.fn 209 [0]))),(7,.v (vI z5)),(8,.v (vI 0))] z4∧∀q1,z6.inv q1→(let z2:=((q1.v:Nat):Int);Bc (decide (z2<z5)) (El (s[q1.v]?) fun x1=>(let z1:= !Hj z3 x1;(s[q1.v]? =some x1)∧((0:Int)≤z2)∧(Fp 209 [.agg (Apz x1),vP 0] z4 (.v (vB z1)) z4)∧Bc z1 (Lf (.v (vI z2)) (.v (vI (Ks z3 s))) z4 z4) ((wI (z2+1))∧z6.Nxt q1 [(0,.v (.c (.seq .lev s))),(1,.v (.c (.fn 209 [0]))),(7,.v (vI z5)),(8,.v (vI (z2+1)))] z4))) (Lf (.v (vI (-1))) (.v (vI (Ks z3 s))) z4 z4)))) Q4 ?_
 refine⟨Cn (j:=(⟨0⟩:Ru)) Q9 rfl (by dsimp only[Rv];exact⟨by omega,rfl⟩),fun (q1:Ru) hq_q1=>?_⟩
 have hi_q1:q1.v≤List.length s∧Agc (List.length d.plan.shapes:Int) (List.drop q1.v s)+q1.v=Agc (List.length d.plan.shapes:Int) s:=hq_q1
 obtain ⟨v1,v3⟩:=hi_q1
 refine dsp (fun h1 p1=>?_) fun h1 p1=>?_
 refine⟨(Bp (l:=s) (i:=q1.v) Q2),fun x1 hx1=>?_⟩
 rw[Fe hx1,Zu] at v3
 have hll:=congrArg List.length (Fe hx1)
 rw[List.length_drop,List.length_cons,List.length_drop] at hll
 refine⟨hx1,Q2,(Ajb x1 d Q2),fun h2=>have q2:=Aq h2;?_,fun h2=>have q2:=Ap h2;?_⟩
 rw[if_neg (by simp[q2])] at v3
 have hbl:Ks (List.length d.plan.shapes:Int) s=q1.v:=by unfold Ks;rw[if_neg (by omega)];omega
 refine⟨(sI ?_),rfl⟩
 rotate_left
 rw[if_pos q2] at v3
 exact⟨(Af Q2 Q2),Be (j:=(⟨q1.v+1⟩:Ru)) Q9 rfl (by dsimp only[Rv];exact⟨by omega,by omega⟩) (by dsimp only[Rv];omega)⟩
 rw[List.drop_eq_nil_of_le (by omega)] at v3
 simp only[Agc] at v3
 have hbl:Ks (List.length d.plan.shapes:Int) s= -1:=by unfold Ks;rw[if_pos (by omega)]
 refine⟨(sI ?_),rfl⟩
 rotate_left
 all_goals first|(exact hbl.symm)|(grind)
theorem Ao2 (s:List Lev) (d:Dcd) (hp1:List.length (d).plan.shapes≤Bk) (hp2:List.length s≤Bk):Fun Tryz.prog 208 [.c (.seq .lev s),.c (.fn 209 [0])] [.cells (C4 d)] (.v (vB (decide (0≤Ks ((List.length (d).plan.shapes:Nat):Int) s)))) [.cells (C4 d)]:=by
 have hN:Bk=274877906944:=rfl
 refine Ar Tryz.func208 Q4 Q4 (w:=let z1:=((List.length (d).plan.shapes:Nat):Int);let z2:List Blk:=[.cells (C4 d)];let z3:S:= .v (vB (decide (0≤Ks z1 s)));(.seg [.call [0] (.v (vI (Ks z1 s))) z2] (.leaf () [0]),(Fp 259 [.c (.seq .lev s),.c (.fn 209 [0])] z2 (.v (vI (Ks z1 s))) z2)∧Lf z3 z3 z2 z2)) Q4 ?_
 exact⟨(Ao1 _ d Q2 Q2),rfl,rfl⟩
theorem Xg (d:Dcd) (hp1:List.length (d).stack≤Bk) (hp2:List.length (d).plan.shapes≤Bk):Fun Tryz.prog 147 [.agg (C4 d)] [] (.v (vB (Bv d))) []:=by
 have hN:Bk=274877906944:=rfl
 refine Ar Tryz.func147 Q4 Q4 (w:=let z1:=decide (0≤Ks ((List.length (d).plan.shapes:Nat):Int) d.stack);let z2:=Lf (.v (vB false)) (.v (vB (Bv d))) [] [];(.seg [.call [] (.v (vB (Br d.plan))) []] (.br (.br (.seg [.call [0] (.v (vB z1)) [.cells (C4 d)]] (.leaf () [])) (.leaf () [])) (.leaf () [])),(Fp 57 [.agg (Fh d.plan)] [] (.v (vB (Br d.plan))) [])∧Bc (Br d.plan) (Bc (decide (((List.length d.stack:Nat):Int)≤d.plan.deep)) ((Fp 208 [.c (.seq .lev d.stack),.c (.fn 209 [0])] [.cells (C4 d)] (.v (vB z1)) [.cells (C4 d)])∧Lf (.v (vB (!z1))) (.v (vB (Bv d))) [] []) z2) z2)) Q4 ?_
 refine⟨(Acr d.plan),fun h1=>have p1:=B8 h1;?_,fun h1=>?_⟩
 refine dsp (fun h2 p2=>?_) fun h2 p2=>?_
 refine⟨(Ao2 _ d Q2 Q2),(sB ?_),rfl⟩
 rotate_left
 refine⟨(sB ?_),rfl⟩
 rotate_left
 refine⟨(sB ?_),rfl⟩
 rotate_left
 all_goals first|(simp_all[Bv];done)|((unfold Bv;rw[Yf];grind[Ks]))|(grind[Bv,Ks,Yf])
theorem Rw (k:Int):Fun Tryz.prog 211 [vI k] [] (.v (vB (Qs k))) []:=by
 have hN:Bk=274877906944:=rfl
 refine Ar Tryz.func211 Q4 Q4 (w:=let z1:S:= .v (vB (Ai k 1 10));(.seg [.call [] z1 []] (.leaf () []),(Fp 69 [vI k,vI 1,vI 10] [] z1 [])∧Lf z1 (.v (vB (Qs k))) [] [])) Q4 ?_
 exact⟨(Cf _ _ _),(congrArg S.v (congrArg V.c (congrArg C.bool (by rfl)))),rfl⟩
theorem Ym (e:Ev):Fun Tryz.prog 212 [.agg (cEv e)] [] (.v (.agg (cEv (E9 e)))) []:=by
 have hN:Bk=274877906944:=rfl
 refine Ar Tryz.func212 Q4 Q4 (w:=let zi:Int→C:= .int .i64;let z1:List C:=[.int .u64 0,zi e.len,.str [],zi 0,zi 0];let z2:S:= .v (.agg (cEv (E9 e)));let z3:S:= .v (.agg (zi e.kind::zi e.field::z1));let z4:=os 8 [5,7];(.br (.leaf () []) (.br (.seg [.ord z4 [2]] (.leaf () [])) (.br (.seg [.br true,.ord z4 [2]] (.leaf () [])) (.br (.seg [.ord z4 [2]] (.leaf () [])) (.br (.leaf () []) (.br (.leaf () []) (.br (.seg [.ord z4 [2]] (.leaf () [])) (.leaf () []))))))),Bc (decide (e.kind=1)) (Lf (.v (.agg (zi e.kind::zi 0::z1))) z2 [] []) (Bc (decide (e.kind=2)) (Lf (.v (.agg [zi e.kind,zi e.field,.int .u64 e.bits,zi 0,.str [],zi 0,zi 0])) z2 [] []) (Bc (decide (e.kind=3)) (((decide (e.kind=3))=true)∧Lf z3 z2 [] []) (Bc (decide (e.kind=6)) (Lf z3 z2 [] []) (Bc (decide (e.kind=4)) (Lf (.v (.agg [zi e.kind,zi 0,.int .u64 0,zi 0,.str e.text,zi 0,zi 0])) z2 [] []) (Bc (decide (e.kind=9)) (Lf (.v (.agg [zi e.kind,zi 0,.int .u64 0,zi 0,.str [],zi 0,zi e.at_])) z2 [] []) (Bc (decide (e.kind=10)) (Lf (.v (.agg [zi e.kind,zi 0,.int .u64 0,zi 0,.str [],zi e.code,zi e.at_])) z2 [] []) (Lf (.v (.agg [zi e.kind,zi 0,.int .u64 0,zi 0,.str [],zi 0,zi 0])) z2 [] []))))))))) Q4 ?_
 refine dsp (fun h1 p1=>?_) fun h1 p1=>?_
 refine zE (E9 e) (⟨e.kind,0,0,e.len,[],0,0⟩:Ev) (fun hm1=>⟨Q7,rfl⟩) ?_
 rotate_left
 refine dsp (fun h2 p2=>?_) fun h2 p2=>?_
 refine zE (E9 e) (⟨e.kind,e.field,e.bits,0,[],0,0⟩:Ev) (fun hm1=>⟨Q7,rfl⟩) ?_
 rotate_left
 refine dsp (fun h3 p3=>?_) fun h3 p3=>?_
 refine zE (E9 e) (⟨e.kind,e.field,0,e.len,[],0,0⟩:Ev) (fun hm1=>⟨h3,Q7,rfl⟩) ?_
 rotate_left
 refine dsp (fun h4 p4=>?_) fun h4 p4=>?_
 refine zE (E9 e) (⟨e.kind,e.field,0,e.len,[],0,0⟩:Ev) (fun hm1=>⟨Q7,rfl⟩) ?_
 rotate_left
 refine dsp (fun h5 p5=>?_) fun h5 p5=>?_
 refine zE (E9 e) (⟨e.kind,0,0,0,e.text,0,0⟩:Ev) (fun hm1=>⟨Q7,rfl⟩) ?_
 rotate_left
 refine dsp (fun h6 p6=>?_) fun h6 p6=>?_
 refine zE (E9 e) (⟨e.kind,0,0,0,[],0,e.at_⟩:Ev) (fun hm1=>⟨Q7,rfl⟩) ?_
 rotate_left
 refine dsp (fun h7 p7=>?_) fun h7 p7=>?_
 refine zE (E9 e) (⟨e.kind,0,0,0,[],e.code,e.at_⟩:Ev) (fun hm1=>⟨Q7,rfl⟩) ?_
 rotate_left
 refine zE (E9 e) (⟨e.kind,0,0,0,[],0,0⟩:Ev) (fun hm1=>⟨Q7,rfl⟩) ?_
 rotate_left
 all_goals first|(simp_all[E9];done)|(grind[E9])
theorem Xh (e:Ev):Fun Tryz.prog 151 [.agg (cEv e)] [] (.v (vB (Ht e))) []:=by
 have hN:Bk=274877906944:=rfl
 refine Ar Tryz.func151 Q4 Q4 (w:=(.br (.leaf () []) (.leaf () []),Bc (decide (e.kind=9)) (Lf (.v (vB true)) (.v (vB (Ht e))) [] []) (Lf (.v (vB (decide (e.kind=10)))) (.v (vB (Ht e))) [] []))) Q4 ?_
 refine dsp (fun h1 p1=>?_) fun h1 p1=>?_
 refine⟨(sB ?_),rfl⟩
 rotate_left
 refine⟨(sB ?_),rfl⟩
 rotate_left
 all_goals first|(simp_all[Ht];done)|(grind[Ht])
theorem Z3 (e:Ev):Fun Tryz.prog 150 [.agg (cEv e)] [] (.v (vB (Mo e))) []:=by
 have hN:Bk=274877906944:=rfl
 refine Ar Tryz.func150 Q4 Q4 (w:=let z2:=Qs e.kind;let z3:S:= .v (vB (Mo e));let z5:S:= .v (vB (Ai e.field 1 536870911));let z6:S:= .v (vB z2);let z7:=decide (e.len<0);let z8:=E9 e;let z1:= !(decide (e.kind=z8.kind)&&(decide (e.field=z8.field)&&(decide (e.bits=z8.bits)&&(decide (e.len=z8.len)&&(decide (e.text=z8.text)&&(decide (e.code=z8.code)&&decide (e.at_=z8.at_)))))));let z4:S:= .v (.agg (cEv z8));let z9:S:= .v (vB false);let z10:=os 21 [2,7];(.case (!z2) (.seg [.ord z10 [],.call [] z6 [],.br true] (.leaf () [])) (.case z1 (.seg [.ord z10 [],.call [] z6 [],.br false,.call [] z4 [],.br true] (.leaf () [])) (.case z7 (.seg [.ord z10 [],.call [] z6 [],.br false,.call [] z4 [],.br false,.br true] (.leaf () [])) (.seg [.ord z10 [],.call [] z6 [],.br false,.call [] z4 [],.br false,.br false] (.br (.leaf () []) (.seg [.call [] (.v (vB (Fy e.kind))) []] (.br (.seg [.call [] z5 []] (.leaf () [])) (.br (.leaf () []) (.br (.leaf () []) (.leaf () []))))))))),Bc (!z2) ((Fp 211 [vI e.kind] [] z6 [])∧((!z2)=true)∧Lf z9 z3 [] []) (Bc z1 ((Fp 211 [vI e.kind] [] z6 [])∧((!z2)=false)∧(Fp 212 [.agg (cEv e)] [] z4 [])∧(z1=true)∧Lf z9 z3 [] []) (Bc z7 ((Fp 211 [vI e.kind] [] z6 [])∧((!z2)=false)∧(Fp 212 [.agg (cEv e)] [] z4 [])∧(z1=false)∧(z7=true)∧Lf z9 z3 [] []) ((Fp 211 [vI e.kind] [] z6 [])∧((!z2)=false)∧(Fp 212 [.agg (cEv e)] [] z4 [])∧(z1=false)∧(z7=false)∧Bc (decide (e.at_<0)) (Lf z9 z3 [] []) ((Fp 135 [vI e.kind] [] (.v (vB (Fy e.kind))) [])∧Bc (Fy e.kind) ((Fp 69 [vI e.field,vI 1,vI 536870911] [] z5 [])∧Lf z5 z3 [] []) (Bc (decide (e.kind=4)) (Lf (.v (vB (!decide (e.text=[])))) z3 [] []) (Bc (decide (e.kind=10)) (Lf (.v (vB (decide (1≤e.code)))) z3 [] []) (Lf (.v (vB true)) z3 [] []))))))))) Q4 ?_
 refine⟨fun h1=>have q1:=Aq h1;?_,fun h1=>have q1:=Ap h1;?_⟩
 refine⟨(Rw _),h1,(sB ?_),rfl⟩
 rotate_left
 refine⟨fun h2=>have q2:=Aq h2;have p2:=(Dh dT (Dh dT (Dh dT (Dh dT (Dh dT (Dh dT dF)))))).1 q2;?_,fun h2=>have q2:=Ap h2;have p2:=(Dg dT (Dg dT (Dg dT (Dg dT (Dg dT (Dg dT dT)))))).1 q2;?_⟩
 have hib:W8 e=false:=by rw[Zv rfl];exact q2
 refine⟨(Rw _),h1,(Ym e),h2,(sB ?_),rfl⟩
 rotate_left
 have hib:W8 e=true:=by rw[Zv rfl];exact q2
 refine dsp (fun h3 p3=>?_) fun h3 p3=>?_
 refine⟨(Rw _),h1,(Ym e),h2,h3,(sB ?_),rfl⟩
 rotate_left
 refine⟨(Rw _),h1,(Ym e),h2,h3,dsp (fun h4 p4=>?_) fun h4 p4=>?_⟩
 refine⟨(sB ?_),rfl⟩
 rotate_left
 refine⟨(Ad2 _),fun h5=>?_,fun h5=>?_⟩
 refine⟨(Cf _ _ _),(sB ?_),rfl⟩
 rotate_left
 refine dsp (fun h6 p6=>?_) fun h6 p6=>?_
 refine⟨(sB ?_),rfl⟩
 rotate_left
 refine dsp (fun h7 p7=>?_) fun h7 p7=>?_
 refine⟨(sB ?_),rfl⟩
 rotate_left
 refine⟨(sB ?_),rfl⟩
 rotate_left
 all_goals first|((simp only[Mo,hib];simp[Qs,Fy, *];done))|(grind[Mo,Fy,Qs])
structure Aij where
 want:Ev
theorem Acs (s:Scn):Fun Tryz.prog 214 [.agg (Zt s)] [] (.v (vB (Ex s))) []:=by
 have hN:Bk=274877906944:=rfl
 refine Ar Tryz.func214 Q4 Q4 (w:=let z1:=7*s.have_;let z2:=Ai s.have_ 0 9;(.seg [.call [] (.v (vB z2)) []] (.br (.seg [.as 11 (.v (vI z1)),.as 12 (.v (.c (.int .u64 z1)))] (.leaf () [])) (.leaf () [])),(Fp 69 [vI s.have_,vI 0,vI 9] [] (.v (vB z2)) [])∧Bc z2 ((wI z1)∧(wU z1)∧((0:Int)≤7*s.have_)∧Lf (.v (vB (decide (Int.fdiv s.bits (2 ^ min (Int.toNat z1) 64)=0)))) (.v (vB (Ex s))) [] []) (Lf (.v (vB false)) (.v (vB (Ex s))) [] []))) Q4 ?_
 refine⟨(Cf _ _ _),fun h1=>have p1:=Aw h1;?_,fun h1=>have p1:=A7 h1;?_⟩
 refine⟨(Af Q2 Q2),(Bu Q2 Q2),Q2,(sB ?_),rfl⟩
 rotate_left
 refine⟨(sB ?_),rfl⟩
 rotate_left
 all_goals first|(simp_all[Ex];done)|(grind[Ex])
theorem Pv (d:Dcd):Fun Tryz.prog 213 [.agg (C4 d)] [] (.v (vI (Bx d))) []:=by
 have hN:Bk=274877906944:=rfl
 refine Ar Tryz.func213 Q4 Q4 (w:=let z1:=Ba d.field.kind;let z2:S:= .v (vI (Ak d.wire));let z3:S:= .v (vI (Ak z1));let z4:S:= .v (vI (Bx d));(.br (.seg [.call [] z2 []] (.leaf () [])) (.br (.seg [.call [] (.v (vI z1)) [],.call [] z3 []] (.leaf () [])) (.leaf () [])),Bc (decide (d.mode=5)) ((Fp 189 [vI d.wire] [] z2 [])∧Lf z2 z4 [] []) (Bc (decide (d.mode=8)) ((Fp 184 [vI d.field.kind] [] (.v (vI z1)) [])∧(Fp 189 [vI z1] [] z3 [])∧Lf z3 z4 [] []) (Lf (.v (vI 0)) z4 [] [])))) Q4 ?_
 refine dsp (fun h1 p1=>?_) fun h1 p1=>?_
 refine⟨(Fi _),(sI ?_),rfl⟩
 rotate_left
 refine dsp (fun h2 p2=>?_) fun h2 p2=>?_
 refine⟨(Yk _),(Fi _),(sI ?_),rfl⟩
 rotate_left
 refine⟨(sI ?_),rfl⟩
 rotate_left
 all_goals first|(simp_all[Bx];done)|(grind[Bx])
structure Lo where
 v:Nat
def Jr (p:Pln) (f:Fld):Fam:=⟨Lo,fun q1=>[(2,.v (vP 0)),(3,.v (vP 1)),(11,.v (vI ((List.length p.shapes:Nat):Int))),(12,.v (vI ((q1.v:Nat):Int)))],fun _=>[.cells (Fh p),.cells (Fw f)],fun q1=>q1.v≤List.length p.shapes∧Hz p.shapes f q1.v=false,fun q1=>List.length p.shapes-q1.v⟩
theorem Ana (p:Pln) (f:Fld) (hp1:List.length (p).shapes≤1000) (hp2: ∀x∈(p).shapes,List.length x.fields≤1000):Fun Tryz.prog 149 [.agg (Fh p),.agg (Fw f)] [] (.v (vB (known (p).shapes f))) []:=by
 have hN:Bk=274877906944:=rfl
 refine Ar Tryz.func149 Q4 Q4 (w:=let z5:=((List.length p.shapes:Nat):Int);let z6:=Jr p f;(.seg [.at 0,.keep [2,3,11,12],.sel [0,1]] (.loop z6 fun q1=>let z1:=((q1.v:Nat):Int);.br (.seg [.call [] (.tup [.agg (Fw ((fieldAt p.shapes z1 f.number).getD fld0)),vB (fieldAt p.shapes z1 f.number).isSome]) []] (.br (.br (.leaf () []) (.seg [.as 30 (.v (vI (z1+1))),.at 0,.keep [2,3,11,12],.sel [0,1]] (.next))) (.seg [.as 30 (.v (vI (z1+1))),.at 0,.keep [2,3,11,12],.sel [0,1]] (.next)))) (.leaf () [])),z6.Has [(2,.v (vP 0)),(3,.v (vP 1)),(11,.v (vI z5)),(12,.v (vI 0))] [.cells (Fh p),.cells (Fw f)]∧∀q1,z6.inv q1→(let z4:=((q1.v:Nat):Int);let z2:=fieldAt p.shapes z4 f.number;let z3:=(wI (z4+1))∧z6.Nxt q1 [(2,.v (vP 0)),(3,.v (vP 1)),(11,.v (vI z5)),(12,.v (vI (z4+1)))] [.cells (Fh p),.cells (Fw f)];Bc (decide (z4<z5)) ((Fp 121 [.agg [.seq .shp p.shapes],vI z4,vI f.number] [] (.tup [.agg (Fw (z2.getD fld0)),vB z2.isSome]) [])∧Bc (z2.isSome) (Bc (decide ((z2.getD fld0).number=f.number)&&(decide ((z2.getD fld0).kind=f.kind)&&(decide ((z2.getD fld0).rep=f.rep)&&(decide ((z2.getD fld0).packed=f.packed)&&decide ((z2.getD fld0).msg=f.msg))))) (Lf (.v (vB true)) (.v (vB (known (p).shapes f))) [] []) z3) z3) (Lf (.v (vB false)) (.v (vB (known (p).shapes f))) [] [])))) Q4 ?_
 refine⟨Cn (j:=(⟨0⟩:Lo)) Q9 rfl (by dsimp only[Jr];exact⟨by omega,rfl⟩),fun (q1:Lo) hq_q1=>?_⟩
 have hi_q1:q1.v≤List.length p.shapes∧Hz p.shapes f q1.v=false:=hq_q1
 obtain ⟨v1,v2⟩:=hi_q1
 refine dsp (fun h1 p1=>?_) fun h1 p1=>?_
 refine⟨(Vk p.shapes _ _ Q2 Q2),fun h2=>?_,fun h2=>?_⟩
 obtain ⟨o,ho⟩:=Option.isSome_iff_exists.1 h2
 have hg:(fieldAt p.shapes (q1.v:Int) f.number).getD fld0=o:=by rw[ho];rfl
 refine⟨fun h3=>have p3:=(Dg dT (Dg dT (Dg dT (Dg dT dT)))).1 h3;?_,fun h3=>have p3:=(Dh dT (Dh dT (Dh dT (Dh dT dF)))).1 h3;?_⟩
 rw[hg] at p3
 have hkk:=Acj (by omega) (show (fieldAt p.shapes (q1.v:Int) f.number)=some f by rw[ho,Ak6 p3])
 refine⟨(sB ?_),rfl⟩
 rotate_left
 rw[hg] at p3
 have hkn:Hz p.shapes f (q1.v+1)=false:=Vf v2 (by rw[ho];intro e;exact Aow p3 (Option.some.inj e))
 exact⟨(Af Q2 Q2),Be (j:=(⟨q1.v+1⟩:Lo)) Q9 rfl (by dsimp only[Jr];exact⟨by omega,hkn⟩) (by dsimp only[Jr];omega)⟩
 have hkn:Hz p.shapes f (q1.v+1)=false:=Vf v2 (by intro e;rw[e] at h2;simp at h2)
 exact⟨(Af Q2 Q2),Be (j:=(⟨q1.v+1⟩:Lo)) Q9 rfl (by dsimp only[Jr];exact⟨by omega,hkn⟩) (by dsimp only[Jr];omega)⟩
 have hkk:=Ai2 v2 (by omega)
 refine⟨(sB ?_),rfl⟩
 rotate_left
 all_goals first|(exact hkk.symm)|(grind)
structure Ajc where
 i:Nat
theorem Acu {s:Scn} :s=scn0↔s.bits=0∧s.have_=0:=⟨fun h=>by subst h;exact⟨rfl,rfl⟩,fun h=>by cases s;simp_all[scn0]⟩
theorem F7 {f:Fld} :f=fld0↔f.number=0∧f.kind=0∧f.rep=false∧f.packed=false∧f.msg=0:=⟨fun h=>by subst h;exact⟨rfl,rfl,rfl,rfl,rfl⟩,Ai3⟩
theorem Agu {e:Ev} :e=ev0↔e.kind=0∧e.field=0∧e.bits=0∧e.len=0∧e.text=[]∧e.code=0∧e.at_=0:=⟨fun h=>by subst h;exact⟨rfl,rfl,rfl,rfl,rfl,rfl,rfl⟩,fun h=>Aox h⟩
theorem Rx (d:Dcd):0≤Bx d∧Bx d≤8:=by
 unfold Bx
 have h1:=Df d.wire
 have h2:=Df (Ba d.field.kind)
 split
 ·exact h1
 ·split
  ·exact h2
  ·omega
structure Anb where
 i:Nat
theorem Cq (d:Dcd) (hp1:List.length (d).stack≤Bk):Fun Tryz.prog 154 [.agg (C4 d)] [] (.v (vB (J2 d))) []:=by
 have hN:Bk=274877906944:=rfl
 have hwd:=Rx d
 refine Ar Tryz.func154 Q4 Q4 (w:=let z3:=8*d.scan.have_;let z7:S:= .v (vB (J2 d));let z1:=Lf (.v (vB (decide (d.scan.bits=0)&&decide (d.scan.have_=0)))) z7 [] [];let z4:=Lf (.v (vB false)) z7 [] [];let z8:=decide (Int.fdiv d.scan.bits (2 ^ min (Int.toNat z3) 64)=0);let z9:=Bx d-1;let z2:=Ai d.scan.have_ 0 z9;let z10:S:= .v (vB (Ex d.scan));let z11:=Bx d;let z5:=(.v (vI (IntKind.i64.wrap (z11-1))):S)= .v (vI z9);let z6:=z11-d.scan.have_;(.seg [.call [] (.v (vI z11)) []] (.br (.seg [.call [] (.v (vI (Eb d))) []] (.br (.seg [.as 21 (.v (vI z9)),.call [] (.v (vB z2)) []] (.br (.seg [.as 30 (.v (vI z3)),.as 31 (.v (.c (.int .u64 z3)))] (.br (.seg [.as 40 (.v (vI z6))] (.leaf () [])) (.leaf () []))) (.leaf () []))) (.seg [.as 21 (.v (vI z9)),.call [] (.v (vB z2)) []] (.br (.seg [.as 30 (.v (vI z3)),.as 31 (.v (.c (.int .u64 z3)))] (.br (.seg [.as 40 (.v (vI z6))] (.leaf () [])) (.leaf () []))) (.leaf () []))))) (.br (.leaf () []) (.br (.leaf () []) (.br (.leaf () []) (.seg [.call [] z10 []] (.leaf () [])))))),(Fp 213 [.agg (C4 d)] [] (.v (vI z11)) [])∧Bc (decide (0<Bx d)) ((Fp 152 [.agg (C4 d)] [] (.v (vI (Eb d))) [])∧Bc (decide (d.mode=8)) (z5∧(Fp 69 [vI d.scan.have_,vI 0,vI z9] [] (.v (vB z2)) [])∧Bc z2 ((wI z3)∧(wU z3)∧((0:Int)≤8*d.scan.have_)∧Bc z8 ((wI z6)∧Lf (.v (vB (decide (z11-d.scan.have_≤d.want)))) z7 [] []) z4) z4) (z5∧(Fp 69 [vI d.scan.have_,vI 0,vI z9] [] (.v (vB z2)) [])∧Bc z2 ((wI z3)∧(wU z3)∧((0:Int)≤8*d.scan.have_)∧Bc z8 ((wI z6)∧Lf (.v (vB (decide (z11-d.scan.have_≤Eb d)))) z7 [] []) z4) z4)) (Bc (decide (d.mode=6)) z1 (Bc (decide (d.mode=7)) z1 (Bc (decide (d.mode=9)) z1 ((Fp 214 [.agg (Zt d.scan)] [] z10 [])∧Lf z10 z7 [] [])))))) Q4 ?_
 refine⟨(Pv d),dsp (fun h1 p1=>?_) fun h1 p1=>?_⟩
 refine⟨(Dz d Q2),dsp (fun h2 p2=>?_) fun h2 p2=>?_⟩
 refine⟨(Af Q2 Q2),(Cf _ _ _),fun h3=>have p3:=Aw h3;?_,fun h3=>have p3:=A7 h3;?_⟩
 refine⟨(Af Q2 Q2),(Bu Q2 Q2),Q2,dsp (fun h4 p4=>?_) fun h4 p4=>?_⟩
 refine⟨(Af Q2 Q2),(sB ?_),rfl⟩
 rotate_left
 refine⟨(sB ?_),rfl⟩
 rotate_left
 refine⟨(sB ?_),rfl⟩
 rotate_left
 refine⟨(Af Q2 Q2),(Cf _ _ _),fun h3=>have p3:=Aw h3;?_,fun h3=>have p3:=A7 h3;?_⟩
 refine⟨(Af Q2 Q2),(Bu Q2 Q2),Q2,dsp (fun h4 p4=>?_) fun h4 p4=>?_⟩
 refine⟨(Af Q2 Q2),(sB ?_),rfl⟩
 rotate_left
 refine⟨(sB ?_),rfl⟩
 rotate_left
 refine⟨(sB ?_),rfl⟩
 rotate_left
 refine dsp (fun h2 p2=>?_) fun h2 p2=>?_
 refine⟨(sB ?_),rfl⟩
 rotate_left
 refine dsp (fun h3 p3=>?_) fun h3 p3=>?_
 refine⟨(sB ?_),rfl⟩
 rotate_left
 refine dsp (fun h4 p4=>?_) fun h4 p4=>?_
 refine⟨(sB ?_),rfl⟩
 rotate_left
 refine⟨(Acs d.scan),(sB ?_),rfl⟩
 rotate_left
 all_goals first|(simp_all[J2,St,Acu];done)|(grind[J2,St,Acu])
theorem Cr (d:Dcd) (hp1:List.length (d).stack≤Bk):Fun Tryz.prog 153 [.agg (C4 d)] [] (.v (vB (Nt d&&Jd d))) []:=by
 have hN:Bk=274877906944:=rfl
 have hww:Ak d.wire=0∨0≤d.wire:=by unfold Ak;split<;>(try split)<;>omega
 refine Ar Tryz.func153 Q4 Q4 (w:=let z1:= !(!(decide (d.field.number=0)&&(decide (d.field.kind=0)&&(decide (d.field.rep=false)&&(decide (d.field.packed=false)&&decide (d.field.msg=0))))));let z2:S:= .v (vB (Nt d&&Jd d));let z3:S:= .v (vB (Ds d.field d.wire));let z4:=Lf (.v (vB false)) z2 [] [];let z5:=Lf (.v (vB true)) z2 [] [];let z6:=Ai d.want 1 (Eb d);let z7:S:= .v (vB (Va d.field));let z8:=decide (d.mode=6);let z9:=Fw d.field;let z10:S:= .v (vI (Eb d));let z11:S:= .v (vI (Ak d.wire));let z12:=decide (d.mode=8);let z13:List V:=[vI d.want,vI 1,vI (Eb d)];let z14:S:= .v (vB z6);(.br (.seg [.br true,.ord (os 6 [3,4]) [],.call [] z10 [],.call [] z14 []] (.br (.leaf () []) (.seg [.br true] (.br (.leaf () []) (.leaf () []))))) (.br (.seg [.br true,.ord (os 6 [3,4]) [],.call [] z10 [],.call [] z14 []] (.br (.leaf () []) (.seg [.br false] (.br (.seg [.call [] z7 []] (.leaf () [])) (.br (.br (.br (.leaf () []) (.seg [.call [] z3 []] (.leaf () []))) (.leaf () [])) (.br (.br (.br (.leaf () []) (.seg [.call [] z3 []] (.leaf () []))) (.leaf () [])) (.br (.seg [.call [] z11 []] (.br (.br (.leaf () []) (.seg [.call [] z3 []] (.leaf () []))) (.leaf () []))) (.leaf () [])))))))) (.br (.seg [.ord (os 6 [3,4]) [],.call [] z10 [],.call [] z14 []] (.br (.leaf () []) (.seg [.br false,.br true,.call [] z7 []] (.leaf () [])))) (.br (.leaf () []) (.seg [.br false,.br false] (.br (.br (.br (.leaf () []) (.seg [.call [] z3 []] (.leaf () []))) (.leaf () [])) (.br (.br (.br (.leaf () []) (.seg [.call [] z3 []] (.leaf () []))) (.leaf () [])) (.br (.seg [.call [] z11 []] (.br (.br (.leaf () []) (.seg [.call [] z3 []] (.leaf () []))) (.leaf () []))) (.leaf () [])))))))),Bc z8 ((z8=true)∧(Fp 152 [.agg (C4 d)] [] z10 [])∧(Fp 69 z13 [] z14 [])∧Bc (!z6) z4 ((z8=true)∧Bc (decide (d.field.kind=6)) z5 (Lf (.v (vB (decide (d.field.kind=7)))) z2 [] []))) (Bc (decide (d.mode=7)) (((decide (d.mode=7))=true)∧(Fp 152 [.agg (C4 d)] [] z10 [])∧(Fp 69 z13 [] z14 [])∧Bc (!z6) z4 ((z8=false)∧Bc z12 ((Fp 185 [.agg z9] [] z7 [])∧Lf z7 z2 [] []) (Bc (decide (d.mode=3)) (Bc (decide (d.wire=0)) (Bc z1 z5 ((Fp 123 [.agg z9,vI d.wire] [] z3 [])∧Lf z3 z2 [] [])) z4) (Bc (decide (d.mode=4)) (Bc (decide (d.wire=2)) (Bc z1 z5 ((Fp 123 [.agg z9,vI d.wire] [] z3 [])∧Lf z3 z2 [] [])) z4) (Bc (decide (d.mode=5)) ((Fp 189 [vI d.wire] [] z11 [])∧Bc (decide (0<Ak d.wire)) (Bc z1 z5 ((Fp 123 [.agg z9,vI d.wire] [] z3 [])∧Lf z3 z2 [] [])) z4) z5))))) (Bc z12 ((Fp 152 [.agg (C4 d)] [] z10 [])∧(Fp 69 z13 [] z14 [])∧Bc (!z6) z4 ((z8=false)∧(z12=true)∧(Fp 185 [.agg z9] [] z7 [])∧Lf z7 z2 [] [])) (Bc (!decide (d.want=0)) z4 ((z8=false)∧(z12=false)∧Bc (decide (d.mode=3)) (Bc (decide (d.wire=0)) (Bc z1 z5 ((Fp 123 [.agg z9,vI d.wire] [] z3 [])∧Lf z3 z2 [] [])) z4) (Bc (decide (d.mode=4)) (Bc (decide (d.wire=2)) (Bc z1 z5 ((Fp 123 [.agg z9,vI d.wire] [] z3 [])∧Lf z3 z2 [] [])) z4) (Bc (decide (d.mode=5)) ((Fp 189 [vI d.wire] [] z11 [])∧Bc (decide (0<Ak d.wire)) (Bc z1 z5 ((Fp 123 [.agg z9,vI d.wire] [] z3 [])∧Lf z3 z2 [] [])) z4) z5)))))))) Q4 ?_
 refine dsp (fun h1 p1=>?_) fun h1 p1=>?_
 refine⟨h1,(Dz d Q2),(Cf _ _ _),fun h2=>have q2:=Aq h2;have p2:=A7 q2;?_,fun h2=>have q2:=Ap h2;have p2:=Aw q2;?_⟩
 refine⟨(sB ?_),rfl⟩
 rotate_left
 refine⟨h1,dsp (fun h3 p3=>?_) fun h3 p3=>?_⟩
 refine⟨(sB ?_),rfl⟩
 rotate_left
 refine⟨(sB ?_),rfl⟩
 rotate_left
 refine dsp (fun h2 p2=>?_) fun h2 p2=>?_
 refine⟨h2,(Dz d Q2),(Cf _ _ _),fun h3=>have q3:=Aq h3;have p3:=A7 q3;?_,fun h3=>have q3:=Ap h3;have p3:=Aw q3;?_⟩
 refine⟨(sB ?_),rfl⟩
 rotate_left
 refine⟨h1,dsp (fun h4 p4=>?_) fun h4 p4=>?_⟩
 refine⟨(Agj d.field),(sB ?_),rfl⟩
 rotate_left
 refine dsp (fun h5 p5=>?_) fun h5 p5=>?_
 refine dsp (fun h6 p6=>?_) fun h6 p6=>?_
 refine⟨fun h7=>have q7:=Aq h7;have q7':=Ap q7;have p7:=(Dg dT (Dg dT (Dg dT (Dg dT dT)))).1 q7';?_,fun h7=>have q7:=Ap h7;have q7':=Aq q7;have p7:=(Dh dT (Dh dT (Dh dT (Dh dT dF)))).1 q7';?_⟩
 refine⟨(sB ?_),rfl⟩
 rotate_left
 refine⟨(J5 d.field _ Q2),(sB ?_),rfl⟩
 rotate_left
 refine⟨(sB ?_),rfl⟩
 rotate_left
 refine dsp (fun h6 p6=>?_) fun h6 p6=>?_
 refine dsp (fun h7 p7=>?_) fun h7 p7=>?_
 refine⟨fun h8=>have q8:=Aq h8;have q8':=Ap q8;have p8:=(Dg dT (Dg dT (Dg dT (Dg dT dT)))).1 q8';?_,fun h8=>have q8:=Ap h8;have q8':=Aq q8;have p8:=(Dh dT (Dh dT (Dh dT (Dh dT dF)))).1 q8';?_⟩
 refine⟨(sB ?_),rfl⟩
 rotate_left
 refine⟨(J5 d.field _ Q2),(sB ?_),rfl⟩
 rotate_left
 refine⟨(sB ?_),rfl⟩
 rotate_left
 refine dsp (fun h7 p7=>?_) fun h7 p7=>?_
 refine⟨(Fi _),dsp (fun h8 p8=>?_) fun h8 p8=>?_⟩
 refine⟨fun h9=>have q9:=Aq h9;have q9':=Ap q9;have p9:=(Dg dT (Dg dT (Dg dT (Dg dT dT)))).1 q9';?_,fun h9=>have q9:=Ap h9;have q9':=Aq q9;have p9:=(Dh dT (Dh dT (Dh dT (Dh dT dF)))).1 q9';?_⟩
 refine⟨(sB ?_),rfl⟩
 rotate_left
 refine⟨(J5 d.field _ Q2),(sB ?_),rfl⟩
 rotate_left
 refine⟨(sB ?_),rfl⟩
 rotate_left
 refine⟨(sB ?_),rfl⟩
 rotate_left
 refine dsp (fun h3 p3=>?_) fun h3 p3=>?_
 refine⟨(Dz d Q2),(Cf _ _ _),fun h4=>have q4:=Aq h4;have p4:=A7 q4;?_,fun h4=>have q4:=Ap h4;have p4:=Aw q4;?_⟩
 refine⟨(sB ?_),rfl⟩
 rotate_left
 refine⟨h1,h3,(Agj d.field),(sB ?_),rfl⟩
 rotate_left
 refine⟨fun h4=>have q4:=Aq h4;have p4:=of_decide_eq_false q4;?_,fun h4=>have q4:=Ap h4;have p4:=of_decide_eq_true q4;?_⟩
 refine⟨(sB ?_),rfl⟩
 rotate_left
 refine⟨h1,h3,dsp (fun h5 p5=>?_) fun h5 p5=>?_⟩
 refine dsp (fun h6 p6=>?_) fun h6 p6=>?_
 refine⟨fun h7=>have q7:=Aq h7;have q7':=Ap q7;have p7:=(Dg dT (Dg dT (Dg dT (Dg dT dT)))).1 q7';?_,fun h7=>have q7:=Ap h7;have q7':=Aq q7;have p7:=(Dh dT (Dh dT (Dh dT (Dh dT dF)))).1 q7';?_⟩
 refine⟨(sB ?_),rfl⟩
 rotate_left
 refine⟨(J5 d.field _ Q2),(sB ?_),rfl⟩
 rotate_left
 refine⟨(sB ?_),rfl⟩
 rotate_left
 refine dsp (fun h6 p6=>?_) fun h6 p6=>?_
 refine dsp (fun h7 p7=>?_) fun h7 p7=>?_
 refine⟨fun h8=>have q8:=Aq h8;have q8':=Ap q8;have p8:=(Dg dT (Dg dT (Dg dT (Dg dT dT)))).1 q8';?_,fun h8=>have q8:=Ap h8;have q8':=Aq q8;have p8:=(Dh dT (Dh dT (Dh dT (Dh dT dF)))).1 q8';?_⟩
 refine⟨(sB ?_),rfl⟩
 rotate_left
 refine⟨(J5 d.field _ Q2),(sB ?_),rfl⟩
 rotate_left
 refine⟨(sB ?_),rfl⟩
 rotate_left
 refine dsp (fun h7 p7=>?_) fun h7 p7=>?_
 refine⟨(Fi _),dsp (fun h8 p8=>?_) fun h8 p8=>?_⟩
 refine⟨fun h9=>have q9:=Aq h9;have q9':=Ap q9;have p9:=(Dg dT (Dg dT (Dg dT (Dg dT dT)))).1 q9';?_,fun h9=>have q9:=Ap h9;have q9':=Aq q9;have p9:=(Dh dT (Dh dT (Dh dT (Dh dT dF)))).1 q9';?_⟩
 refine⟨(sB ?_),rfl⟩
 rotate_left
 refine⟨(J5 d.field _ Q2),(sB ?_),rfl⟩
 rotate_left
 refine⟨(sB ?_),rfl⟩
 rotate_left
 refine⟨(sB ?_),rfl⟩
 rotate_left
 all_goals first|(simp_all[Nt,Jd,Amw,F7,Gh];done)|(grind[Nt,Jd,Amw,F7,Gh])
theorem Ajd {w:Int} (h:Dc w=true):0≤w∧w≤5:=by simp[Dc] at h;omega
theorem Ad3 {d:Dcd} (h:Bv d=true):Br d.plan=true:=by simp only[Bv,Bool.and_eq_true] at h;exact h.1.1
theorem Abe (d:Dcd) (hp1:List.length (d).stack≤Bk) (hp2:List.length (d).plan.shapes≤Bk):Fun Tryz.prog 96 [.agg (C4 d)] [] (.v (vB (Cd d))) []:=by
 have hN:Bk=274877906944:=rfl
 refine Ar Tryz.func96 Q4 Q4 (w:=let z3:S:= .v (vB (J2 d));let z4:= !(decide (d.end_.kind=0)&&(decide (d.end_.field=0)&&(decide (d.end_.bits=0)&&(decide (d.end_.len=0)&&(decide (d.end_.text=[])&&(decide (d.end_.code=0)&&decide (d.end_.at_=0)))))));let z5:=Nt d&&Jd d;let z2:S:= .v (vB z5);let z6:S:= .v (vB (Cd d));let z1:=Lf (.v (vB false)) z6 [] [];let z7:= !decide (d.mode=9);let z8:=decide (0<((List.length d.stack:Nat):Int));let z9:= !decide (d.mode=1);let z10:S:= .v (vI (Eb d));let z11:=decide (d.mode=1);let z12:=decide (Eb d<1);let z13:S:= .v (vB (Ht d.end_));let z14:S:= .v (vB (Mo d.end_));let z15:=z7=false;let z16:=known (d.plan).shapes d.field;let z17:=z7=true;let z18:=Ai d.at_ 0 1000000000;let z19:=Ai d.start 0 d.at_;let z20:=Ai d.mode 1 9;(.seg [.call [] (.v (vB (Bv d))) []] (.br (.leaf () []) (.seg [.call [] (.v (vB z20)) []] (.br (.leaf () []) (.seg [.call [] (.v (vB z18)) []] (.br (.leaf () []) (.seg [.call [] (.v (vB z19)) []] (.br (.leaf () []) (.seg [.call [] (.v (vB (Ei d.utf))) []] (.br (.leaf () []) (.seg [.call [] (.v (vB (Dc d.wire))) []] (.br (.leaf () []) (.br (.seg [.call [] (.v (vB z16)) []] (.br (.leaf () []) (.br (.seg [.call [] z14 []] (.br (.leaf () []) (.seg [.call [] z13 []] (.br (.leaf () []) (.br (.br (.leaf () []) (.br (.br (.leaf () []) (.br (.seg [.br true,.call [] z10 []] (.br (.leaf () []) (.seg [.call [] z2 []] (.br (.seg [.call [] z3 []] (.leaf () [])) (.leaf () []))))) (.seg [.call [] z2 []] (.br (.seg [.call [] z3 []] (.leaf () [])) (.leaf () []))))) (.br (.seg [.br true,.call [] z10 []] (.br (.leaf () []) (.seg [.call [] z2 []] (.br (.seg [.call [] z3 []] (.leaf () [])) (.leaf () []))))) (.seg [.call [] z2 []] (.br (.seg [.call [] z3 []] (.leaf () [])) (.leaf () [])))))) (.br (.br (.leaf () []) (.br (.seg [.br false,.call [] z2 []] (.br (.seg [.call [] z3 []] (.leaf () [])) (.leaf () []))) (.seg [.call [] z2 []] (.br (.seg [.call [] z3 []] (.leaf () [])) (.leaf () []))))) (.br (.seg [.br false,.call [] z2 []] (.br (.seg [.call [] z3 []] (.leaf () [])) (.leaf () []))) (.seg [.call [] z2 []] (.br (.seg [.call [] z3 []] (.leaf () [])) (.leaf () [])))))))))) (.br (.br (.leaf () []) (.br (.br (.leaf () []) (.br (.seg [.br true,.call [] z10 []] (.br (.leaf () []) (.seg [.call [] z2 []] (.br (.seg [.call [] z3 []] (.leaf () [])) (.leaf () []))))) (.seg [.call [] z2 []] (.br (.seg [.call [] z3 []] (.leaf () [])) (.leaf () []))))) (.br (.seg [.br true,.call [] z10 []] (.br (.leaf () []) (.seg [.call [] z2 []] (.br (.seg [.call [] z3 []] (.leaf () [])) (.leaf () []))))) (.seg [.call [] z2 []] (.br (.seg [.call [] z3 []] (.leaf () [])) (.leaf () [])))))) (.br (.br (.leaf () []) (.br (.seg [.br false,.call [] z2 []] (.br (.seg [.call [] z3 []] (.leaf () [])) (.leaf () []))) (.seg [.call [] z2 []] (.br (.seg [.call [] z3 []] (.leaf () [])) (.leaf () []))))) (.br (.seg [.br false,.call [] z2 []] (.br (.seg [.call [] z3 []] (.leaf () [])) (.leaf () []))) (.seg [.call [] z2 []] (.br (.seg [.call [] z3 []] (.leaf () [])) (.leaf () []))))))))) (.br (.seg [.call [] z14 []] (.br (.leaf () []) (.seg [.call [] z13 []] (.br (.leaf () []) (.br (.br (.leaf () []) (.br (.br (.leaf () []) (.br (.seg [.br true,.call [] z10 []] (.br (.leaf () []) (.seg [.call [] z2 []] (.br (.seg [.call [] z3 []] (.leaf () [])) (.leaf () []))))) (.seg [.call [] z2 []] (.br (.seg [.call [] z3 []] (.leaf () [])) (.leaf () []))))) (.br (.seg [.br true,.call [] z10 []] (.br (.leaf () []) (.seg [.call [] z2 []] (.br (.seg [.call [] z3 []] (.leaf () [])) (.leaf () []))))) (.seg [.call [] z2 []] (.br (.seg [.call [] z3 []] (.leaf () [])) (.leaf () [])))))) (.br (.br (.leaf () []) (.br (.seg [.br false,.call [] z2 []] (.br (.seg [.call [] z3 []] (.leaf () [])) (.leaf () []))) (.seg [.call [] z2 []] (.br (.seg [.call [] z3 []] (.leaf () [])) (.leaf () []))))) (.br (.seg [.br false,.call [] z2 []] (.br (.seg [.call [] z3 []] (.leaf () [])) (.leaf () []))) (.seg [.call [] z2 []] (.br (.seg [.call [] z3 []] (.leaf () [])) (.leaf () [])))))))))) (.br (.br (.leaf () []) (.br (.br (.leaf () []) (.br (.seg [.br true,.call [] z10 []] (.br (.leaf () []) (.seg [.call [] z2 []] (.br (.seg [.call [] z3 []] (.leaf () [])) (.leaf () []))))) (.seg [.call [] z2 []] (.br (.seg [.call [] z3 []] (.leaf () [])) (.leaf () []))))) (.br (.seg [.br true,.call [] z10 []] (.br (.leaf () []) (.seg [.call [] z2 []] (.br (.seg [.call [] z3 []] (.leaf () [])) (.leaf () []))))) (.seg [.call [] z2 []] (.br (.seg [.call [] z3 []] (.leaf () [])) (.leaf () [])))))) (.br (.br (.leaf () []) (.br (.seg [.br false,.call [] z2 []] (.br (.seg [.call [] z3 []] (.leaf () [])) (.leaf () []))) (.seg [.call [] z2 []] (.br (.seg [.call [] z3 []] (.leaf () [])) (.leaf () []))))) (.br (.seg [.br false,.call [] z2 []] (.br (.seg [.call [] z3 []] (.leaf () [])) (.leaf () []))) (.seg [.call [] z2 []] (.br (.seg [.call [] z3 []] (.leaf () [])) (.leaf () []))))))))))))))))))),(Fp 147 [.agg (C4 d)] [] (.v (vB (Bv d))) [])∧Bc (!(Bv d)) z1 ((Fp 69 [vI d.mode,vI 1,vI 9] [] (.v (vB z20)) [])∧Bc (!z20) z1 ((Fp 69 [vI d.at_,vI 0,vI 1000000000] [] (.v (vB z18)) [])∧Bc (!z18) z1 ((Fp 69 [vI d.start,vI 0,vI d.at_] [] (.v (vB z19)) [])∧Bc (!z19) z1 ((Fp 148 [.agg (N9 d.utf)] [] (.v (vB (Ei d.utf))) [])∧Bc (!(Ei d.utf)) z1 ((Fp 122 [vI d.wire] [] (.v (vB (Dc d.wire))) [])∧Bc (!(Dc d.wire)) z1 (Bc (!(decide (d.field.number=0)&&(decide (d.field.kind=0)&&(decide (d.field.rep=false)&&(decide (d.field.packed=false)&&decide (d.field.msg=0)))))) ((Fp 149 [.agg (Fh d.plan),.agg (Fw d.field)] [] (.v (vB z16)) [])∧Bc (!z16) z1 (Bc (decide (d.mode=9)) ((Fp 150 [.agg (cEv d.end_)] [] z14 [])∧Bc (!(Mo d.end_)) z1 ((Fp 151 [.agg (cEv d.end_)] [] z13 [])∧Bc (!(Ht d.end_)) z1 (Bc z7 (Bc z4 z1 (Bc z11 (Bc z8 z1 (Bc z9 (z17∧(Fp 152 [.agg (C4 d)] [] z10 [])∧Bc z12 z1 ((Fp 153 [.agg (C4 d)] [] z2 [])∧Bc z5 ((Fp 154 [.agg (C4 d)] [] z3 [])∧Lf z3 z6 [] []) z1)) ((Fp 153 [.agg (C4 d)] [] z2 [])∧Bc z5 ((Fp 154 [.agg (C4 d)] [] z3 [])∧Lf z3 z6 [] []) z1))) (Bc z9 (z17∧(Fp 152 [.agg (C4 d)] [] z10 [])∧Bc z12 z1 ((Fp 153 [.agg (C4 d)] [] z2 [])∧Bc z5 ((Fp 154 [.agg (C4 d)] [] z3 [])∧Lf z3 z6 [] []) z1)) ((Fp 153 [.agg (C4 d)] [] z2 [])∧Bc z5 ((Fp 154 [.agg (C4 d)] [] z3 [])∧Lf z3 z6 [] []) z1)))) (Bc z11 (Bc z8 z1 (Bc z9 (z15∧(Fp 153 [.agg (C4 d)] [] z2 [])∧Bc z5 ((Fp 154 [.agg (C4 d)] [] z3 [])∧Lf z3 z6 [] []) z1) ((Fp 153 [.agg (C4 d)] [] z2 [])∧Bc z5 ((Fp 154 [.agg (C4 d)] [] z3 [])∧Lf z3 z6 [] []) z1))) (Bc z9 (z15∧(Fp 153 [.agg (C4 d)] [] z2 [])∧Bc z5 ((Fp 154 [.agg (C4 d)] [] z3 [])∧Lf z3 z6 [] []) z1) ((Fp 153 [.agg (C4 d)] [] z2 [])∧Bc z5 ((Fp 154 [.agg (C4 d)] [] z3 [])∧Lf z3 z6 [] []) z1)))))) (Bc z7 (Bc z4 z1 (Bc z11 (Bc z8 z1 (Bc z9 (z17∧(Fp 152 [.agg (C4 d)] [] z10 [])∧Bc z12 z1 ((Fp 153 [.agg (C4 d)] [] z2 [])∧Bc z5 ((Fp 154 [.agg (C4 d)] [] z3 [])∧Lf z3 z6 [] []) z1)) ((Fp 153 [.agg (C4 d)] [] z2 [])∧Bc z5 ((Fp 154 [.agg (C4 d)] [] z3 [])∧Lf z3 z6 [] []) z1))) (Bc z9 (z17∧(Fp 152 [.agg (C4 d)] [] z10 [])∧Bc z12 z1 ((Fp 153 [.agg (C4 d)] [] z2 [])∧Bc z5 ((Fp 154 [.agg (C4 d)] [] z3 [])∧Lf z3 z6 [] []) z1)) ((Fp 153 [.agg (C4 d)] [] z2 [])∧Bc z5 ((Fp 154 [.agg (C4 d)] [] z3 [])∧Lf z3 z6 [] []) z1)))) (Bc z11 (Bc z8 z1 (Bc z9 (z15∧(Fp 153 [.agg (C4 d)] [] z2 [])∧Bc z5 ((Fp 154 [.agg (C4 d)] [] z3 [])∧Lf z3 z6 [] []) z1) ((Fp 153 [.agg (C4 d)] [] z2 [])∧Bc z5 ((Fp 154 [.agg (C4 d)] [] z3 [])∧Lf z3 z6 [] []) z1))) (Bc z9 (z15∧(Fp 153 [.agg (C4 d)] [] z2 [])∧Bc z5 ((Fp 154 [.agg (C4 d)] [] z3 [])∧Lf z3 z6 [] []) z1) ((Fp 153 [.agg (C4 d)] [] z2 [])∧Bc z5 ((Fp 154 [.agg (C4 d)] [] z3 [])∧Lf z3 z6 [] []) z1)))))) (Bc (decide (d.mode=9)) ((Fp 150 [.agg (cEv d.end_)] [] z14 [])∧Bc (!(Mo d.end_)) z1 ((Fp 151 [.agg (cEv d.end_)] [] z13 [])∧Bc (!(Ht d.end_)) z1 (Bc z7 (Bc z4 z1 (Bc z11 (Bc z8 z1 (Bc z9 (z17∧(Fp 152 [.agg (C4 d)] [] z10 [])∧Bc z12 z1 ((Fp 153 [.agg (C4 d)] [] z2 [])∧Bc z5 ((Fp 154 [.agg (C4 d)] [] z3 [])∧Lf z3 z6 [] []) z1)) ((Fp 153 [.agg (C4 d)] [] z2 [])∧Bc z5 ((Fp 154 [.agg (C4 d)] [] z3 [])∧Lf z3 z6 [] []) z1))) (Bc z9 (z17∧(Fp 152 [.agg (C4 d)] [] z10 [])∧Bc z12 z1 ((Fp 153 [.agg (C4 d)] [] z2 [])∧Bc z5 ((Fp 154 [.agg (C4 d)] [] z3 [])∧Lf z3 z6 [] []) z1)) ((Fp 153 [.agg (C4 d)] [] z2 [])∧Bc z5 ((Fp 154 [.agg (C4 d)] [] z3 [])∧Lf z3 z6 [] []) z1)))) (Bc z11 (Bc z8 z1 (Bc z9 (z15∧(Fp 153 [.agg (C4 d)] [] z2 [])∧Bc z5 ((Fp 154 [.agg (C4 d)] [] z3 [])∧Lf z3 z6 [] []) z1) ((Fp 153 [.agg (C4 d)] [] z2 [])∧Bc z5 ((Fp 154 [.agg (C4 d)] [] z3 [])∧Lf z3 z6 [] []) z1))) (Bc z9 (z15∧(Fp 153 [.agg (C4 d)] [] z2 [])∧Bc z5 ((Fp 154 [.agg (C4 d)] [] z3 [])∧Lf z3 z6 [] []) z1) ((Fp 153 [.agg (C4 d)] [] z2 [])∧Bc z5 ((Fp 154 [.agg (C4 d)] [] z3 [])∧Lf z3 z6 [] []) z1)))))) (Bc z7 (Bc z4 z1 (Bc z11 (Bc z8 z1 (Bc z9 (z17∧(Fp 152 [.agg (C4 d)] [] z10 [])∧Bc z12 z1 ((Fp 153 [.agg (C4 d)] [] z2 [])∧Bc z5 ((Fp 154 [.agg (C4 d)] [] z3 [])∧Lf z3 z6 [] []) z1)) ((Fp 153 [.agg (C4 d)] [] z2 [])∧Bc z5 ((Fp 154 [.agg (C4 d)] [] z3 [])∧Lf z3 z6 [] []) z1))) (Bc z9 (z17∧(Fp 152 [.agg (C4 d)] [] z10 [])∧Bc z12 z1 ((Fp 153 [.agg (C4 d)] [] z2 [])∧Bc z5 ((Fp 154 [.agg (C4 d)] [] z3 [])∧Lf z3 z6 [] []) z1)) ((Fp 153 [.agg (C4 d)] [] z2 [])∧Bc z5 ((Fp 154 [.agg (C4 d)] [] z3 [])∧Lf z3 z6 [] []) z1)))) (Bc z11 (Bc z8 z1 (Bc z9 (z15∧(Fp 153 [.agg (C4 d)] [] z2 [])∧Bc z5 ((Fp 154 [.agg (C4 d)] [] z3 [])∧Lf z3 z6 [] []) z1) ((Fp 153 [.agg (C4 d)] [] z2 [])∧Bc z5 ((Fp 154 [.agg (C4 d)] [] z3 [])∧Lf z3 z6 [] []) z1))) (Bc z9 (z15∧(Fp 153 [.agg (C4 d)] [] z2 [])∧Bc z5 ((Fp 154 [.agg (C4 d)] [] z3 [])∧Lf z3 z6 [] []) z1) ((Fp 153 [.agg (C4 d)] [] z2 [])∧Bc z5 ((Fp 154 [.agg (C4 d)] [] z3 [])∧Lf z3 z6 [] []) z1))))))))))))) Q4 ?_
 refine⟨(Xg d Q2 Q2),fun h1=>have q1:=Aq h1;?_,fun h1=>have q1:=Ap h1;?_⟩
 refine⟨(sB ?_),rfl⟩
 rotate_left
 have hpt:=B8 (Ad3 q1)
 refine⟨(Cf _ _ _),fun h2=>have q2:=Aq h2;have p2:=A7 q2;?_,fun h2=>have q2:=Ap h2;have p2:=Aw q2;?_⟩
 refine⟨(sB ?_),rfl⟩
 rotate_left
 refine⟨(Cf _ _ _),fun h3=>have q3:=Aq h3;have p3:=A7 q3;?_,fun h3=>have q3:=Ap h3;have p3:=Aw q3;?_⟩
 refine⟨(sB ?_),rfl⟩
 rotate_left
 refine⟨(Cf _ _ _),fun h4=>have q4:=Aq h4;have p4:=A7 q4;?_,fun h4=>have q4:=Ap h4;have p4:=Aw q4;?_⟩
 refine⟨(sB ?_),rfl⟩
 rotate_left
 refine⟨(Ago d.utf),fun h5=>have q5:=Aq h5;?_,fun h5=>have q5:=Ap h5;have p5:=Jq q5;?_⟩
 refine⟨(sB ?_),rfl⟩
 rotate_left
 refine⟨(Acp _),fun h6=>have q6:=Aq h6;?_,fun h6=>have q6:=Ap h6;?_⟩
 refine⟨(sB ?_),rfl⟩
 rotate_left
 have hwk:=Ajd (w:=d.wire) q6
 refine⟨fun h7=>have q7:=Aq h7;have p7:=(Dh dT (Dh dT (Dh dT (Dh dT dF)))).1 q7;?_,fun h7=>have q7:=Ap h7;have p7:=(Dg dT (Dg dT (Dg dT (Dg dT dT)))).1 q7;?_⟩
 refine⟨(Ana d.plan d.field Q2 (Ff hpt.2.1)),fun h8=>have q8:=Aq h8;?_,fun h8=>have q8:=Ap h8;?_⟩
 refine⟨(sB ?_),rfl⟩
 rotate_left
 refine dsp (fun h9 p9=>?_) fun h9 p9=>?_
 refine⟨(Z3 d.end_),fun h10=>have q10:=Aq h10;?_,fun h10=>have q10:=Ap h10;?_⟩
 refine⟨(sB ?_),rfl⟩
 rotate_left
 refine⟨(Xh d.end_),fun h11=>have q11:=Aq h11;?_,fun h11=>have q11:=Ap h11;?_⟩
 refine⟨(sB ?_),rfl⟩
 rotate_left
 refine⟨fun h12=>have q12:=Aq h12;have p12:=of_decide_eq_false q12;?_,fun h12=>have q12:=Ap h12;have p12:=of_decide_eq_true q12;?_⟩
 refine⟨fun h13=>have q13:=Aq h13;have p13:=(Dh dT (Dh dT (Dh dT (Dh dT (Dh dT (Dh dT dF)))))).1 q13;?_,fun h13=>have q13:=Ap h13;have p13:=(Dg dT (Dg dT (Dg dT (Dg dT (Dg dT (Dg dT dT)))))).1 q13;?_⟩
 refine⟨(sB ?_),rfl⟩
 rotate_left
 refine dsp (fun h14 p14=>?_) fun h14 p14=>?_
 refine dsp (fun h15 p15=>?_) fun h15 p15=>?_
 refine⟨(sB ?_),rfl⟩
 rotate_left
 refine⟨fun h16=>have q16:=Aq h16;have p16:=of_decide_eq_false q16;?_,fun h16=>have q16:=Ap h16;have p16:=of_decide_eq_true q16;?_⟩
 refine⟨h12,(Dz d Q2),dsp (fun h17 p17=>?_) fun h17 p17=>?_⟩
 refine⟨(sB ?_),rfl⟩
 rotate_left
 refine⟨(Cr d Q2),fun h18=>?_,fun h18=>?_⟩
 refine⟨(Cq d Q2),(sB ?_),rfl⟩
 rotate_left
 refine⟨(sB ?_),rfl⟩
 rotate_left
 refine⟨(Cr d Q2),fun h17=>?_,fun h17=>?_⟩
 refine⟨(Cq d Q2),(sB ?_),rfl⟩
 rotate_left
 refine⟨(sB ?_),rfl⟩
 rotate_left
 refine⟨fun h15=>have q15:=Aq h15;have p15:=of_decide_eq_false q15;?_,fun h15=>have q15:=Ap h15;have p15:=of_decide_eq_true q15;?_⟩
 refine⟨h12,(Dz d Q2),dsp (fun h16 p16=>?_) fun h16 p16=>?_⟩
 refine⟨(sB ?_),rfl⟩
 rotate_left
 refine⟨(Cr d Q2),fun h17=>?_,fun h17=>?_⟩
 refine⟨(Cq d Q2),(sB ?_),rfl⟩
 rotate_left
 refine⟨(sB ?_),rfl⟩
 rotate_left
 refine⟨(Cr d Q2),fun h16=>?_,fun h16=>?_⟩
 refine⟨(Cq d Q2),(sB ?_),rfl⟩
 rotate_left
 refine⟨(sB ?_),rfl⟩
 rotate_left
 refine dsp (fun h13 p13=>?_) fun h13 p13=>?_
 refine dsp (fun h14 p14=>?_) fun h14 p14=>?_
 refine⟨(sB ?_),rfl⟩
 rotate_left
 refine⟨fun h15=>have q15:=Aq h15;have p15:=of_decide_eq_false q15;?_,fun h15=>have q15:=Ap h15;have p15:=of_decide_eq_true q15;?_⟩
 refine⟨h12,(Cr d Q2),fun h16=>?_,fun h16=>?_⟩
 refine⟨(Cq d Q2),(sB ?_),rfl⟩
 rotate_left
 refine⟨(sB ?_),rfl⟩
 rotate_left
 refine⟨(Cr d Q2),fun h16=>?_,fun h16=>?_⟩
 refine⟨(Cq d Q2),(sB ?_),rfl⟩
 rotate_left
 refine⟨(sB ?_),rfl⟩
 rotate_left
 refine⟨fun h14=>have q14:=Aq h14;have p14:=of_decide_eq_false q14;?_,fun h14=>have q14:=Ap h14;have p14:=of_decide_eq_true q14;?_⟩
 refine⟨h12,(Cr d Q2),fun h15=>?_,fun h15=>?_⟩
 refine⟨(Cq d Q2),(sB ?_),rfl⟩
 rotate_left
 refine⟨(sB ?_),rfl⟩
 rotate_left
 refine⟨(Cr d Q2),fun h15=>?_,fun h15=>?_⟩
 refine⟨(Cq d Q2),(sB ?_),rfl⟩
 rotate_left
 refine⟨(sB ?_),rfl⟩
 rotate_left
 refine⟨fun h10=>have q10:=Aq h10;have p10:=of_decide_eq_false q10;?_,fun h10=>have q10:=Ap h10;have p10:=of_decide_eq_true q10;?_⟩
 refine⟨fun h11=>have q11:=Aq h11;have p11:=(Dh dT (Dh dT (Dh dT (Dh dT (Dh dT (Dh dT dF)))))).1 q11;?_,fun h11=>have q11:=Ap h11;have p11:=(Dg dT (Dg dT (Dg dT (Dg dT (Dg dT (Dg dT dT)))))).1 q11;?_⟩
 refine⟨(sB ?_),rfl⟩
 rotate_left
 refine dsp (fun h12 p12=>?_) fun h12 p12=>?_
 refine dsp (fun h13 p13=>?_) fun h13 p13=>?_
 refine⟨(sB ?_),rfl⟩
 rotate_left
 refine⟨fun h14=>have q14:=Aq h14;have p14:=of_decide_eq_false q14;?_,fun h14=>have q14:=Ap h14;have p14:=of_decide_eq_true q14;?_⟩
 refine⟨h10,(Dz d Q2),dsp (fun h15 p15=>?_) fun h15 p15=>?_⟩
 refine⟨(sB ?_),rfl⟩
 rotate_left
 refine⟨(Cr d Q2),fun h16=>?_,fun h16=>?_⟩
 refine⟨(Cq d Q2),(sB ?_),rfl⟩
 rotate_left
 refine⟨(sB ?_),rfl⟩
 rotate_left
 refine⟨(Cr d Q2),fun h15=>?_,fun h15=>?_⟩
 refine⟨(Cq d Q2),(sB ?_),rfl⟩
 rotate_left
 refine⟨(sB ?_),rfl⟩
 rotate_left
 refine⟨fun h13=>have q13:=Aq h13;have p13:=of_decide_eq_false q13;?_,fun h13=>have q13:=Ap h13;have p13:=of_decide_eq_true q13;?_⟩
 refine⟨h10,(Dz d Q2),dsp (fun h14 p14=>?_) fun h14 p14=>?_⟩
 refine⟨(sB ?_),rfl⟩
 rotate_left
 refine⟨(Cr d Q2),fun h15=>?_,fun h15=>?_⟩
 refine⟨(Cq d Q2),(sB ?_),rfl⟩
 rotate_left
 refine⟨(sB ?_),rfl⟩
 rotate_left
 refine⟨(Cr d Q2),fun h14=>?_,fun h14=>?_⟩
 refine⟨(Cq d Q2),(sB ?_),rfl⟩
 rotate_left
 refine⟨(sB ?_),rfl⟩
 rotate_left
 refine dsp (fun h11 p11=>?_) fun h11 p11=>?_
 refine dsp (fun h12 p12=>?_) fun h12 p12=>?_
 refine⟨(sB ?_),rfl⟩
 rotate_left
 refine⟨fun h13=>have q13:=Aq h13;have p13:=of_decide_eq_false q13;?_,fun h13=>have q13:=Ap h13;have p13:=of_decide_eq_true q13;?_⟩
 refine⟨h10,(Cr d Q2),fun h14=>?_,fun h14=>?_⟩
 refine⟨(Cq d Q2),(sB ?_),rfl⟩
 rotate_left
 refine⟨(sB ?_),rfl⟩
 rotate_left
 refine⟨(Cr d Q2),fun h14=>?_,fun h14=>?_⟩
 refine⟨(Cq d Q2),(sB ?_),rfl⟩
 rotate_left
 refine⟨(sB ?_),rfl⟩
 rotate_left
 refine⟨fun h12=>have q12:=Aq h12;have p12:=of_decide_eq_false q12;?_,fun h12=>have q12:=Ap h12;have p12:=of_decide_eq_true q12;?_⟩
 refine⟨h10,(Cr d Q2),fun h13=>?_,fun h13=>?_⟩
 refine⟨(Cq d Q2),(sB ?_),rfl⟩
 rotate_left
 refine⟨(sB ?_),rfl⟩
 rotate_left
 refine⟨(Cr d Q2),fun h13=>?_,fun h13=>?_⟩
 refine⟨(Cq d Q2),(sB ?_),rfl⟩
 rotate_left
 refine⟨(sB ?_),rfl⟩
 rotate_left
 refine dsp (fun h8 p8=>?_) fun h8 p8=>?_
 refine⟨(Z3 d.end_),fun h9=>have q9:=Aq h9;?_,fun h9=>have q9:=Ap h9;?_⟩
 refine⟨(sB ?_),rfl⟩
 rotate_left
 refine⟨(Xh d.end_),fun h10=>have q10:=Aq h10;?_,fun h10=>have q10:=Ap h10;?_⟩
 refine⟨(sB ?_),rfl⟩
 rotate_left
 refine⟨fun h11=>have q11:=Aq h11;have p11:=of_decide_eq_false q11;?_,fun h11=>have q11:=Ap h11;have p11:=of_decide_eq_true q11;?_⟩
 refine⟨fun h12=>have q12:=Aq h12;have p12:=(Dh dT (Dh dT (Dh dT (Dh dT (Dh dT (Dh dT dF)))))).1 q12;?_,fun h12=>have q12:=Ap h12;have p12:=(Dg dT (Dg dT (Dg dT (Dg dT (Dg dT (Dg dT dT)))))).1 q12;?_⟩
 refine⟨(sB ?_),rfl⟩
 rotate_left
 refine dsp (fun h13 p13=>?_) fun h13 p13=>?_
 refine dsp (fun h14 p14=>?_) fun h14 p14=>?_
 refine⟨(sB ?_),rfl⟩
 rotate_left
 refine⟨fun h15=>have q15:=Aq h15;have p15:=of_decide_eq_false q15;?_,fun h15=>have q15:=Ap h15;have p15:=of_decide_eq_true q15;?_⟩
 refine⟨h11,(Dz d Q2),dsp (fun h16 p16=>?_) fun h16 p16=>?_⟩
 refine⟨(sB ?_),rfl⟩
 rotate_left
 refine⟨(Cr d Q2),fun h17=>?_,fun h17=>?_⟩
 refine⟨(Cq d Q2),(sB ?_),rfl⟩
 rotate_left
 refine⟨(sB ?_),rfl⟩
 rotate_left
 refine⟨(Cr d Q2),fun h16=>?_,fun h16=>?_⟩
 refine⟨(Cq d Q2),(sB ?_),rfl⟩
 rotate_left
 refine⟨(sB ?_),rfl⟩
 rotate_left
 refine⟨fun h14=>have q14:=Aq h14;have p14:=of_decide_eq_false q14;?_,fun h14=>have q14:=Ap h14;have p14:=of_decide_eq_true q14;?_⟩
 refine⟨h11,(Dz d Q2),dsp (fun h15 p15=>?_) fun h15 p15=>?_⟩
 refine⟨(sB ?_),rfl⟩
 rotate_left
 refine⟨(Cr d Q2),fun h16=>?_,fun h16=>?_⟩
 refine⟨(Cq d Q2),(sB ?_),rfl⟩
 rotate_left
 refine⟨(sB ?_),rfl⟩
 rotate_left
 refine⟨(Cr d Q2),fun h15=>?_,fun h15=>?_⟩
 refine⟨(Cq d Q2),(sB ?_),rfl⟩
 rotate_left
 refine⟨(sB ?_),rfl⟩
 rotate_left
 refine dsp (fun h12 p12=>?_) fun h12 p12=>?_
 refine dsp (fun h13 p13=>?_) fun h13 p13=>?_
 refine⟨(sB ?_),rfl⟩
 rotate_left
 refine⟨fun h14=>have q14:=Aq h14;have p14:=of_decide_eq_false q14;?_,fun h14=>have q14:=Ap h14;have p14:=of_decide_eq_true q14;?_⟩
 refine⟨h11,(Cr d Q2),fun h15=>?_,fun h15=>?_⟩
 refine⟨(Cq d Q2),(sB ?_),rfl⟩
 rotate_left
 refine⟨(sB ?_),rfl⟩
 rotate_left
 refine⟨(Cr d Q2),fun h15=>?_,fun h15=>?_⟩
 refine⟨(Cq d Q2),(sB ?_),rfl⟩
 rotate_left
 refine⟨(sB ?_),rfl⟩
 rotate_left
 refine⟨fun h13=>have q13:=Aq h13;have p13:=of_decide_eq_false q13;?_,fun h13=>have q13:=Ap h13;have p13:=of_decide_eq_true q13;?_⟩
 refine⟨h11,(Cr d Q2),fun h14=>?_,fun h14=>?_⟩
 refine⟨(Cq d Q2),(sB ?_),rfl⟩
 rotate_left
 refine⟨(sB ?_),rfl⟩
 rotate_left
 refine⟨(Cr d Q2),fun h14=>?_,fun h14=>?_⟩
 refine⟨(Cq d Q2),(sB ?_),rfl⟩
 rotate_left
 refine⟨(sB ?_),rfl⟩
 rotate_left
 refine⟨fun h9=>have q9:=Aq h9;have p9:=of_decide_eq_false q9;?_,fun h9=>have q9:=Ap h9;have p9:=of_decide_eq_true q9;?_⟩
 refine⟨fun h10=>have q10:=Aq h10;have p10:=(Dh dT (Dh dT (Dh dT (Dh dT (Dh dT (Dh dT dF)))))).1 q10;?_,fun h10=>have q10:=Ap h10;have p10:=(Dg dT (Dg dT (Dg dT (Dg dT (Dg dT (Dg dT dT)))))).1 q10;?_⟩
 refine⟨(sB ?_),rfl⟩
 rotate_left
 refine dsp (fun h11 p11=>?_) fun h11 p11=>?_
 refine dsp (fun h12 p12=>?_) fun h12 p12=>?_
 refine⟨(sB ?_),rfl⟩
 rotate_left
 refine⟨fun h13=>have q13:=Aq h13;have p13:=of_decide_eq_false q13;?_,fun h13=>have q13:=Ap h13;have p13:=of_decide_eq_true q13;?_⟩
 refine⟨h9,(Dz d Q2),dsp (fun h14 p14=>?_) fun h14 p14=>?_⟩
 refine⟨(sB ?_),rfl⟩
 rotate_left
 refine⟨(Cr d Q2),fun h15=>?_,fun h15=>?_⟩
 refine⟨(Cq d Q2),(sB ?_),rfl⟩
 rotate_left
 refine⟨(sB ?_),rfl⟩
 rotate_left
 refine⟨(Cr d Q2),fun h14=>?_,fun h14=>?_⟩
 refine⟨(Cq d Q2),(sB ?_),rfl⟩
 rotate_left
 refine⟨(sB ?_),rfl⟩
 rotate_left
 refine⟨fun h12=>have q12:=Aq h12;have p12:=of_decide_eq_false q12;?_,fun h12=>have q12:=Ap h12;have p12:=of_decide_eq_true q12;?_⟩
 refine⟨h9,(Dz d Q2),dsp (fun h13 p13=>?_) fun h13 p13=>?_⟩
 refine⟨(sB ?_),rfl⟩
 rotate_left
 refine⟨(Cr d Q2),fun h14=>?_,fun h14=>?_⟩
 refine⟨(Cq d Q2),(sB ?_),rfl⟩
 rotate_left
 refine⟨(sB ?_),rfl⟩
 rotate_left
 refine⟨(Cr d Q2),fun h13=>?_,fun h13=>?_⟩
 refine⟨(Cq d Q2),(sB ?_),rfl⟩
 rotate_left
 refine⟨(sB ?_),rfl⟩
 rotate_left
 refine dsp (fun h10 p10=>?_) fun h10 p10=>?_
 refine dsp (fun h11 p11=>?_) fun h11 p11=>?_
 refine⟨(sB ?_),rfl⟩
 rotate_left
 refine⟨fun h12=>have q12:=Aq h12;have p12:=of_decide_eq_false q12;?_,fun h12=>have q12:=Ap h12;have p12:=of_decide_eq_true q12;?_⟩
 refine⟨h9,(Cr d Q2),fun h13=>?_,fun h13=>?_⟩
 refine⟨(Cq d Q2),(sB ?_),rfl⟩
 rotate_left
 refine⟨(sB ?_),rfl⟩
 rotate_left
 refine⟨(Cr d Q2),fun h13=>?_,fun h13=>?_⟩
 refine⟨(Cq d Q2),(sB ?_),rfl⟩
 rotate_left
 refine⟨(sB ?_),rfl⟩
 rotate_left
 refine⟨fun h11=>have q11:=Aq h11;have p11:=of_decide_eq_false q11;?_,fun h11=>have q11:=Ap h11;have p11:=of_decide_eq_true q11;?_⟩
 refine⟨h9,(Cr d Q2),fun h12=>?_,fun h12=>?_⟩
 refine⟨(Cq d Q2),(sB ?_),rfl⟩
 rotate_left
 refine⟨(sB ?_),rfl⟩
 rotate_left
 refine⟨(Cr d Q2),fun h12=>?_,fun h12=>?_⟩
 refine⟨(Cq d Q2),(sB ?_),rfl⟩
 rotate_left
 refine⟨(sB ?_),rfl⟩
 rotate_left
 all_goals first|(simp_all[Cd,Ae3,Kt,F7,Agu];done)|(grind[Cd,Ae3,Kt,F7,Agu])
structure Acv where
 v:Bool
structure Ak8 where
 u_:Nat
structure Acw where
 wires:Bool
structure Acx where
 v:Bool
theorem Yn (l:List Lev) (hp1:List.length l≤Bk):Fun Tryz.prog 139 [.c (.seq .lev l)] [] (.v (vO 0)) [.lst .lev l]:=by
 refine⟨Mj Tryz.func139 Q4 Q4,?_⟩
 have key:Sm Tryz.prog 8 0 (Ai0 Tryz.f139 1) [(2,.v (.c .nil)),(0,.v (.c (.seq .lev l)))] [] .ret [(2,.v (.c (.own 0)))] [.lst .lev l]:=by
  refine Sm.nilTest' (s:=0) (t3:=3) (t4:=4) (t:= .lev) (l:=l) rfl rfl rfl rfl rfl rfl rfl Tryz.underlying50 Q4 rfl rfl rfl fun p hp=>?_
  cases p with
  |true=>
   have hl:=hp rfl
   subst hl
   exact .inr ⟨by decide,Hi (ds:=[.br true,.at 0,.mkS 2 .lev,.keep [2],.sel [0]]) (ob:=[true=true]) Q4 ⟨rfl,trivial⟩⟩
  |false=>
   exact .inl ⟨[(0,.v (.c (.seq .lev l)))],[],Hi (ds:=[.br false,.at 0,.keep [0],.sel []]) (ob:=[false=false]) Q4 ⟨rfl,trivial⟩,
    (Hi (tm':=[(2,.v (.c (.own 0)))]) (H':=[.lst .lev ([]++l)]) (ds:=[.ty .lev,.ty .lev,.at 0,.keep [2],.sel [1]]) (ob:=[List.length ([]:List Lev)+List.length l≤Bk]) (by kernel_rfl) ⟨by simpa using hp1,trivial⟩).to (by rfl) (by rfl)⟩
 exact W0 Tryz.func139 (res:= .v (.c (.own 0))) (L':=[.lst .lev l]) (ds:=[.jump 1 .ret [(2,.v (.c (.own 0)))] [.lst .lev l]]) (σ:=[0]) (ob:=[Sm Tryz.prog 8 0 (Ai0 Tryz.f139 1) [(2,.v (.c .nil)),(0,.v (.c (.seq .lev l)))] [] .ret [(2,.v (.c (.own 0)))] [.lst .lev l]]) Q4 ⟨key,trivial⟩
theorem Aje (l:List Fld) (hp1:List.length l≤Bk):Fun Tryz.prog 248 [.c (.seq .fld l)] [] (.v (vO 0)) [.lst .fld l]:=by
 refine⟨Mj Tryz.func248 Q4 Q4,?_⟩
 have key:Sm Tryz.prog 8 0 (Ai0 Tryz.f248 1) [(2,.v (.c .nil)),(0,.v (.c (.seq .fld l)))] [] .ret [(2,.v (.c (.own 0)))] [.lst .fld l]:=by
  refine Sm.nilTest' (s:=0) (t3:=3) (t4:=4) (t:= .fld) (l:=l) rfl rfl rfl rfl rfl rfl rfl Tryz.underlying147 Q4 rfl rfl rfl fun p hp=>?_
  cases p with
  |true=>
   have hl:=hp rfl
   subst hl
   exact .inr ⟨by decide,Hi (ds:=[.br true,.at 0,.mkS 2 .fld,.keep [2],.sel [0]]) (ob:=[true=true]) Q4 ⟨rfl,trivial⟩⟩
  |false=>
   exact .inl ⟨[(0,.v (.c (.seq .fld l)))],[],Hi (ds:=[.br false,.at 0,.keep [0],.sel []]) (ob:=[false=false]) Q4 ⟨rfl,trivial⟩,
    (Hi (tm':=[(2,.v (.c (.own 0)))]) (H':=[.lst .fld ([]++l)]) (ds:=[.ty .fld,.ty .fld,.at 0,.keep [2],.sel [1]]) (ob:=[List.length ([]:List Fld)+List.length l≤Bk]) (by kernel_rfl) ⟨by simpa using hp1,trivial⟩).to (by rfl) (by rfl)⟩
 exact W0 Tryz.func248 (res:= .v (.c (.own 0))) (L':=[.lst .fld l]) (ds:=[.jump 1 .ret [(2,.v (.c (.own 0)))] [.lst .fld l]]) (σ:=[0]) (ob:=[Sm Tryz.prog 8 0 (Ai0 Tryz.f248 1) [(2,.v (.c .nil)),(0,.v (.c (.seq .fld l)))] [] .ret [(2,.v (.c (.own 0)))] [.lst .fld l]]) Q4 ⟨key,trivial⟩
structure Ky where
 sh:List Shp
 v:Nat
def Kz (s:List Shp):Fam:=⟨Ky,fun q1=>[(2,.v (vP 0)),(3,.v (vP 1)),(8,.v (.c (.seq .shp s))),(9,.v (vI ((List.length s:Nat):Int))),(10,.v (vI ((q1.v:Nat):Int)))],fun q1=>[.cells [.nil],.cells [.own 2],.tree q1.sh],fun q1=>q1.v≤List.length s∧q1.sh=List.take q1.v s,fun q1=>List.length s-q1.v⟩
theorem Agv (s:List Shp) (hp1:List.length s≤1048576) (hp2: ∀e∈s,List.length e.fields≤1048576):Fun Tryz.prog 202 [.agg [.seq .shp s]] [] (.v (.agg [.own 0])) [.tree s]:=by
 have hN:Bk=274877906944:=rfl
 refine Ar Tryz.func202 Q4 Q4 (w:=let z2:=((List.length s:Nat):Int);let z3:=Kz s;(.seg [.at 0,.mkT 2 0,.keep [2,3,8,9,10],.sel [1,2,3]] (.loop z3 fun q1=> .br (.intro (Sx (s[q1.v]?)) fun x1=> .seg [.el .shp x1,.ord (os 12 [6,8,9,11]) [2],.call [] (.v (vO 0)) [.lst .fld x1.fields],.tyT,.tyT,.as 25 (.v (vI (((q1.v:Nat):Int)+1))),.at 0,.keep [2,3,8,9,10],.sel [0,1,6]] (.next)) (.leaf () [2])),z3.Has [(2,.v (vP 0)),(3,.v (vP 1)),(8,.v (.c (.seq .shp s))),(9,.v (vI z2)),(10,.v (vI 0))] [.cells [.nil],.cells [.own 2],.tree ([]:List Shp)]∧∀q1,z3.inv q1→(let z1:=((q1.v:Nat):Int);Bc (decide (z1<z2)) (El (s[q1.v]?) fun x1=>((s[q1.v]? =some x1)∧((0:Int)≤z1)∧(Fp 248 [.c (.seq .fld x1.fields)] [] (.v (vO 0)) [.lst .fld x1.fields])∧(List.length q1.sh+List.length [(⟨x1.id,x1.fields⟩:Shp)]≤Bk)∧(wI (z1+1))∧z3.Nxt q1 [(2,.v (vP 0)),(3,.v (vP 1)),(8,.v (.c (.seq .shp s))),(9,.v (vI z2)),(10,.v (vI (z1+1)))] [.cells [.nil],.cells [.own 2],.tree (q1.sh++[(⟨x1.id,x1.fields⟩:Shp)])])) (Lf (.v (.agg [.own 0])) (.v (.agg [.own 0])) [.tree q1.sh] [.tree s])))) Q4 ?_
 refine⟨Cn (j:=(⟨([]:List Shp),0⟩:Ky)) Q9 rfl (by dsimp only[Kz];exact⟨by omega,by simp⟩),fun (q1:Ky) hq_q1=>?_⟩
 have hi_q1:q1.v≤List.length s∧q1.sh=List.take q1.v s:=hq_q1
 obtain ⟨v1,v2⟩:=hi_q1
 have hsl:=congrArg List.length v2
 rw[List.length_take] at hsl
 refine dsp (fun h1 p1=>?_) fun h1 p1=>?_
 refine⟨(Bp (l:=s) (i:=q1.v) Q2),fun x1 hx1=>?_⟩
 have hfx:=hp2 x1 (List.mem_of_getElem? hx1)
 exact⟨hx1,Q2,(Aje x1.fields Q2),Q5,(Af Q2 Q2),Be (j:=(⟨q1.sh++[(⟨x1.id,x1.fields⟩:Shp)],q1.v+1⟩:Ky)) Q9 rfl (by dsimp only[Kz];exact⟨by omega,by rw[v2,List.take_succ_eq_append_getElem (by omega)];simp[(List.getElem?_eq_some_iff.1 hx1).2]⟩) (by dsimp only[Kz];omega)⟩
 refine⟨rfl,(Ac (congrArg Blk.tree ?_) rfl)⟩
 rotate_left
 all_goals first|(rfl)|((rw[v2,List.take_of_length_le (by omega)];done))
theorem Ry (p:Pln) (hp1:List.length (p).shapes≤1048576) (hp2: ∀e∈(p).shapes,List.length e.fields≤1048576):Fun Tryz.prog 138 [.agg (Fh p)] [] (.v (.agg (Adu 0 p))) [.tree p.shapes]:=by
 have hN:Bk=274877906944:=rfl
 refine Ar Tryz.func138 Q4 Q4 (w:=(.seg [.call [] (.v (.agg [.own 0])) [.tree p.shapes]] (.leaf () [2]),(Fp 202 [.agg [.seq .shp p.shapes]] [] (.v (.agg [.own 0])) [.tree p.shapes])∧Lf (.v (.agg (Adu 0 p))) (.v (.agg (Adu 0 p))) [.tree p.shapes] [.tree p.shapes])) Q4 ?_
 exact⟨(Agv p.shapes Q2 (hp2)),rfl,rfl⟩
theorem Z4 (d:Dcd) (hp1:List.length (d).plan.shapes≤1048576) (hp2: ∀e∈(d).plan.shapes,List.length e.fields≤1048576) (hp3:List.length (d).stack≤1048576):Fun Tryz.prog 82 [.agg (C4 d)] [] (.v (.agg (C0 0 1 d))) [.tree d.plan.shapes,.lst .lev d.stack]:=by
 have hN:Bk=274877906944:=rfl
 refine Ar Tryz.func82 Q4 Q4 (w:=let zi:Int→C:= .int .i64;let z1:List C:=[.nil,zi 0,zi 0,zi 0,zi 0,.nil,.int .u64 0,zi 0,zi 0,zi 0,zi 0,zi 0,.bool false,.bool false,zi 0,zi 0,zi 0,zi 0,zi 0,zi 0,zi 0,zi 0,.int .u64 0,zi 0,.str [],zi 0,zi 0];let z2:List Blk:=[.cells (C0 1 2 d),.tree d.plan.shapes,.lst .lev d.stack,.cells z1];let z3:S:= .v (.agg (Adu 0 d.plan));let z4:=([(1,.v (vP 0)),(2,.v (vP 3))]:List (Nat×S))=[(1,.v (vP 0)),(2,.v (vP 3))];let z5:List Blk:=[.lst .lev d.stack];let z6:S:= .v (vO 0);(.seg [.tree (.first 0 (.first 3 (.two 1 (.two 2 (.one 4 (.first 6 (.one 5 (.one 7 (.first 8 (.one 9 (.done))))))) 4 (.one 2 (.first 6 (.one 5 (.one 7 (.first 8 (.one 9 (.done)))))))) 4 (.one 1 (.one 2 (.first 6 (.one 5 (.one 7 (.first 8 (.one 9 (.done))))))))))) 9 [0],.call [] z3 [.tree d.plan.shapes],.call [] z6 z5,.at 0,.keep [1,2],.sel [0,2,3,1],.call [] z3 [.tree d.plan.shapes],.call [] z6 z5,.at 0,.keep [1,2],.sel [0,2,3,1],.call [] z3 [.tree d.plan.shapes],.call [] z6 z5,.at 0,.keep [1,2],.sel [0,2,3,1]] (.leaf () [1,2]),(Fp 138 [.agg (Fh d.plan)] [] z3 [.tree d.plan.shapes])∧(Fp 139 [.c (.seq .lev d.stack)] [] z6 z5)∧(Fp 138 [.agg (Fh d.plan)] [] z3 [.tree d.plan.shapes])∧(Fp 139 [.c (.seq .lev d.stack)] [] z6 z5)∧((z2:List Blk)=z2)∧z4∧(Fp 138 [.agg (Fh d.plan)] [] z3 [.tree d.plan.shapes])∧(Fp 139 [.c (.seq .lev d.stack)] [] z6 z5)∧((z2:List Blk)=z2)∧z4∧Lf (.v (.agg (C0 0 1 d))) (.v (.agg (C0 0 1 d))) (L2 d) (L2 d))) Q4 ?_
 exact⟨(Ry d.plan Q2 (hp2)),(Yn d.stack Q2),(Ry d.plan Q2 (hp2)),(Yn d.stack Q2),rfl,rfl,(Ry d.plan Q2 (hp2)),(Yn d.stack Q2),rfl,rfl,rfl,rfl⟩
theorem Yo (p:Pln) (hp1:List.length (p).shapes≤Bk):Fun Tryz.prog 145 [.agg (Fh p)] [] (.tup [.agg (C0 0 1 (Bm p)),vB (Br p)]) [.tree (Bm p).plan.shapes,.lst .lev (Bm p).stack]:=by
 have hN:Bk=274877906944:=rfl
 refine Ar Tryz.func145 Q4 Q4 (w:=let zi:Int→C:= .int .i64;let z1:List C:=[.own 1,.int .u64 0,zi 0,zi 0,zi 0,zi 0,zi 0,.bool false,.bool false,zi 0,zi 0,zi 0,zi 0,zi 0,zi 0,zi 0,zi 0,.int .u64 0,zi 0,.str [],zi 0,zi 0];let z2:S:= .tup [.agg (C0 0 1 (Bm p)),vB (Br p)];(.seg [.call [] (.v (vB (Br p))) []] (.br (.seg [.at 0,.mkT 1 0,.mk 1 5 .lev] (.leaf () [2,3])) (.seg [.call [] (.v (.agg (Adu 0 p))) [.tree p.shapes],.at 0,.mk 1 5 .lev] (.leaf () [2,3]))),(Fp 57 [.agg (Fh p)] [] (.v (vB (Br p))) [])∧Bc (!(Br p)) (Lf (.tup [.agg (.own 0::zi 0::zi 0::zi 0::zi 0::z1),vB false]) z2 [.tree ([]:List Shp),.lst .lev ([]:List Lev)] (L2 (Bm p))) ((Fp 138 [.agg (Fh p)] [] (.v (.agg (Adu 0 p))) [.tree p.shapes])∧Lf (.tup [.agg (.own 0::zi p.root::zi p.deep::zi p.most::zi 1::z1),vB true]) z2 [.tree p.shapes,.lst .lev ([]:List Lev)] (L2 (Bm p))))) Q4 ?_
 refine⟨(Acr p),fun h1=>have q1:=Aq h1;?_,fun h1=>have q1:=Ap h1;have p1:=B8 q1;?_⟩
 refine zE (Bm p) (⟨(⟨([]:List Shp),0,0,0⟩:Pln),0,([]:List Lev),(⟨0,0⟩:Scn),0,0,(⟨0,0,false,false,0⟩:Fld),0,0,(⟨0,0,0⟩:Utf),(⟨0,0,0,0,[],0,0⟩:Ev)⟩:Dcd) (fun hm1=>⟨(congrArg S.tup (Ac (congrArg V.agg (Ac rfl (Ac (congrArg (C.int .i64) ?_) (Ac (congrArg (C.int .i64) ?_) (Ac (congrArg (C.int .i64) ?_) (Ac (congrArg (C.int .i64) ?_) (Ac rfl (Ac (congrArg (C.int .u64) ?_) (Ac (congrArg (C.int .i64) ?_) (Ac (congrArg (C.int .i64) ?_) (Ac (congrArg (C.int .i64) ?_) (Ac (congrArg (C.int .i64) ?_) (Ac (congrArg (C.int .i64) ?_) (Ac (congrArg C.bool ?_) (Ac (congrArg C.bool ?_) (Ac (congrArg (C.int .i64) ?_) (Ac (congrArg (C.int .i64) ?_) (Ac (congrArg (C.int .i64) ?_) (Ac (congrArg (C.int .i64) ?_) (Ac (congrArg (C.int .i64) ?_) (Ac (congrArg (C.int .i64) ?_) (Ac (congrArg (C.int .i64) ?_) (Ac (congrArg (C.int .i64) ?_) (Ac (congrArg (C.int .u64) ?_) (Ac (congrArg (C.int .i64) ?_) (Ac (congrArg C.str ?_) (Ac (congrArg (C.int .i64) ?_) (Ac (congrArg (C.int .i64) ?_) rfl)))))))))))))))))))))))))))) (Ac (congrArg V.c (congrArg C.bool ?_)) rfl))),Q7⟩) ?_
 rotate_left 27
 have hpt:=B8 q1
 refine zE (Bm p) (⟨p,1,([]:List Lev),(⟨0,0⟩:Scn),0,0,(⟨0,0,false,false,0⟩:Fld),0,0,(⟨0,0,0⟩:Utf),(⟨0,0,0,0,[],0,0⟩:Ev)⟩:Dcd) (fun hm1=>⟨(Ry p Q2 (Hm hpt.2.1)),(congrArg S.tup (Ac (congrArg V.agg (Ac rfl (Ac (congrArg (C.int .i64) ?_) (Ac (congrArg (C.int .i64) ?_) (Ac (congrArg (C.int .i64) ?_) (Ac (congrArg (C.int .i64) ?_) (Ac rfl (Ac (congrArg (C.int .u64) ?_) (Ac (congrArg (C.int .i64) ?_) (Ac (congrArg (C.int .i64) ?_) (Ac (congrArg (C.int .i64) ?_) (Ac (congrArg (C.int .i64) ?_) (Ac (congrArg (C.int .i64) ?_) (Ac (congrArg C.bool ?_) (Ac (congrArg C.bool ?_) (Ac (congrArg (C.int .i64) ?_) (Ac (congrArg (C.int .i64) ?_) (Ac (congrArg (C.int .i64) ?_) (Ac (congrArg (C.int .i64) ?_) (Ac (congrArg (C.int .i64) ?_) (Ac (congrArg (C.int .i64) ?_) (Ac (congrArg (C.int .i64) ?_) (Ac (congrArg (C.int .i64) ?_) (Ac (congrArg (C.int .u64) ?_) (Ac (congrArg (C.int .i64) ?_) (Ac (congrArg C.str ?_) (Ac (congrArg (C.int .i64) ?_) (Ac (congrArg (C.int .i64) ?_) rfl)))))))))))))))))))))))))))) (Ac (congrArg V.c (congrArg C.bool ?_)) rfl))),Q7⟩) ?_
 rotate_left 27
 all_goals first|(simp_all[Bm,utf0];done)|(grind[Bm,utf0])
structure K0 where
 sh:List Shp
 i:Nat
def K2 (s:List Shp):Fam:=⟨K0,fun q1=>[(1,.v (vP 0)),(2,.v (vP 1)),(3,.v (vP 2)),(4,.v (vI ((q1.i:Nat):Int)))],fun q1=>[.cells [.seq .shp s],.cells [.nil],.cells [.own 3],.tree q1.sh],fun q1=>q1.i≤List.length s∧q1.sh=List.take q1.i s,fun q1=>List.length s-q1.i⟩
theorem Agw (s:List Shp) (hp1:List.length s≤1048576) (hp2: ∀e∈s,List.length e.fields≤1048576):Fun Tryz.prog 95 [.agg [.seq .shp s]] [] (.v (.agg [.own 0])) [.tree s]:=by
 have hN:Bk=274877906944:=rfl
 refine Ar Tryz.func95 Q4 Q4 (w:=let z4:=K2 s;(.seg [.at 0,.mkT 2 0,.keep [1,2,3,4],.sel [0,1,2,3]] (.loop z4 fun q1=> .br (.intro (Sx (s[q1.i]?)) fun x1=> .seg [.ord [(0,true),(1,true),(2,true),(3,true),(4,true),(5,true),(6,true),(7,true),(9,true),(10,true),(11,true),(12,true),(13,true),(14,true),(8,false),(15,false),(16,true),(17,false),(18,false),(19,true),(20,false)] [3],.el .shp x1,.el .shp x1,.ty .fld,.ty .fld,.tyT,.tyT,.as 12 (.v (vI (((q1.i:Nat):Int)+1))),.at 0,.keep [1,2,3,4],.sel [0,1,2,7]] (.next)) (.leaf () [3])),z4.Has [(1,.v (vP 0)),(2,.v (vP 1)),(3,.v (vP 2)),(4,.v (vI 0))] [.cells [.seq .shp s],.cells [.nil],.cells [.own 3],.tree ([]:List Shp)]∧∀q1,z4.inv q1→(let z3:=((q1.i:Nat):Int);Bc (decide (z3<((List.length s:Nat):Int))) (El (s[q1.i]?) fun x1=>(let z1:=s[q1.i]? =some x1;let z2:=(⟨x1.id,([]:List Fld)++x1.fields⟩:Shp);z1∧((0:Int)≤z3)∧z1∧((0:Int)≤z3)∧z1∧((0:Int)≤z3)∧z1∧((0:Int)≤z3)∧(List.length ([]:List Fld)+List.length x1.fields≤Bk)∧(List.length q1.sh+List.length [z2]≤Bk)∧(wI (z3+1))∧z4.Nxt q1 [(1,.v (vP 0)),(2,.v (vP 1)),(3,.v (vP 2)),(4,.v (vI (z3+1)))] [.cells [.seq .shp s],.cells [.nil],.cells [.own 3],.tree (q1.sh++[z2])])) (Lf (.v (.agg [.own 0])) (.v (.agg [.own 0])) [.tree q1.sh] [.tree s])))) Q4 ?_
 refine⟨Cn (j:=(⟨([]:List Shp),0⟩:K0)) Q9 rfl (by dsimp only[K2];exact⟨by omega,by simp⟩),fun (q1:K0) hq_q1=>?_⟩
 have hi_q1:q1.i≤List.length s∧q1.sh=List.take q1.i s:=hq_q1
 obtain ⟨v1,v2⟩:=hi_q1
 have hsl:=congrArg List.length v2
 rw[List.length_take] at hsl
 refine dsp (fun h1 p1=>?_) fun h1 p1=>?_
 refine⟨(Bp (l:=s) (i:=q1.i) Q2),fun x1 hx1=>?_⟩
 have hfx:=hp2 x1 (List.mem_of_getElem? hx1)
 exact⟨hx1,Q2,hx1,Q2,hx1,Q2,hx1,Q2,Q5,Q28,(Af Q2 Q2),Be (j:=(⟨q1.sh++[(⟨x1.id,([]:List Fld)++x1.fields⟩:Shp)],q1.i+1⟩:K0)) Q9 rfl (by dsimp only[K2];exact⟨by omega,by rw[v2,List.take_succ_eq_append_getElem (by omega)];simp[(List.getElem?_eq_some_iff.1 hx1).2]⟩) (by dsimp only[K2];omega)⟩
 refine⟨rfl,(Ac (congrArg Blk.tree ?_) rfl)⟩
 rotate_left
 all_goals first|(rfl)|((rw[v2,List.take_of_length_le (by omega)];done))
theorem Ajf (p:Pln) (hp1:List.length (p).shapes≤Bk):Fun Tryz.prog 46 [.agg (Fh p)] [] (.tup [.agg (C0 0 1 (Bm p)),vB (Br p)]) [.tree (Bm p).plan.shapes,.lst .lev (Bm p).stack]:=by
 have hN:Bk=274877906944:=rfl
 refine Ar Tryz.func46 Q4 Q4 (w:=let zi:Int→C:= .int .i64;let z1:List C:=[.own 1,.int .u64 0,zi 0,zi 0,zi 0,zi 0,zi 0,.bool false,.bool false,zi 0,zi 0,zi 0,zi 0,zi 0,zi 0,zi 0,zi 0,.int .u64 0,zi 0,.str [],zi 0,zi 0];let z2:S:= .tup [.agg (C0 0 1 (Bm p)),vB (Br p)];(.seg [.call [] (.v (vB (Br p))) []] (.br (.seg [.at 0,.mkT 1 0,.mk 1 5 .lev] (.leaf () [2,3])) (.seg [.call [] (.v (.agg [.own 0])) [.tree p.shapes],.at 0,.mk 1 5 .lev] (.leaf () [2,3]))),(Fp 42 [.agg (Fh p)] [] (.v (vB (Br p))) [])∧Bc (!(Br p)) (Lf (.tup [.agg (.own 0::zi 0::zi 0::zi 0::zi 0::z1),vB false]) z2 [.tree ([]:List Shp),.lst .lev ([]:List Lev)] (L2 (Bm p))) ((Fp 95 [.agg [.seq .shp p.shapes]] [] (.v (.agg [.own 0])) [.tree p.shapes])∧Lf (.tup [.agg (.own 0::zi p.root::zi p.deep::zi p.most::zi 1::z1),vB true]) z2 [.tree p.shapes,.lst .lev ([]:List Lev)] (L2 (Bm p))))) Q4 ?_
 refine⟨(Ue p),fun h1=>have q1:=Aq h1;?_,fun h1=>have q1:=Ap h1;have p1:=B8 q1;?_⟩
 refine zE (Bm p) (⟨(⟨([]:List Shp),0,0,0⟩:Pln),0,([]:List Lev),(⟨0,0⟩:Scn),0,0,(⟨0,0,false,false,0⟩:Fld),0,0,(⟨0,0,0⟩:Utf),(⟨0,0,0,0,[],0,0⟩:Ev)⟩:Dcd) (fun hm1=>⟨(congrArg S.tup (Ac (congrArg V.agg (Ac rfl (Ac (congrArg (C.int .i64) ?_) (Ac (congrArg (C.int .i64) ?_) (Ac (congrArg (C.int .i64) ?_) (Ac (congrArg (C.int .i64) ?_) (Ac rfl (Ac (congrArg (C.int .u64) ?_) (Ac (congrArg (C.int .i64) ?_) (Ac (congrArg (C.int .i64) ?_) (Ac (congrArg (C.int .i64) ?_) (Ac (congrArg (C.int .i64) ?_) (Ac (congrArg (C.int .i64) ?_) (Ac (congrArg C.bool ?_) (Ac (congrArg C.bool ?_) (Ac (congrArg (C.int .i64) ?_) (Ac (congrArg (C.int .i64) ?_) (Ac (congrArg (C.int .i64) ?_) (Ac (congrArg (C.int .i64) ?_) (Ac (congrArg (C.int .i64) ?_) (Ac (congrArg (C.int .i64) ?_) (Ac (congrArg (C.int .i64) ?_) (Ac (congrArg (C.int .i64) ?_) (Ac (congrArg (C.int .u64) ?_) (Ac (congrArg (C.int .i64) ?_) (Ac (congrArg C.str ?_) (Ac (congrArg (C.int .i64) ?_) (Ac (congrArg (C.int .i64) ?_) rfl)))))))))))))))))))))))))))) (Ac (congrArg V.c (congrArg C.bool ?_)) rfl))),Q7⟩) ?_
 rotate_left 27
 have hpt:=B8 q1
 refine zE (Bm p) (⟨p,1,([]:List Lev),(⟨0,0⟩:Scn),0,0,(⟨0,0,false,false,0⟩:Fld),0,0,(⟨0,0,0⟩:Utf),(⟨0,0,0,0,[],0,0⟩:Ev)⟩:Dcd) (fun hm1=>⟨(Agw p.shapes Q2 (Hm hpt.2.1)),(congrArg S.tup (Ac (congrArg V.agg (Ac rfl (Ac (congrArg (C.int .i64) ?_) (Ac (congrArg (C.int .i64) ?_) (Ac (congrArg (C.int .i64) ?_) (Ac (congrArg (C.int .i64) ?_) (Ac rfl (Ac (congrArg (C.int .u64) ?_) (Ac (congrArg (C.int .i64) ?_) (Ac (congrArg (C.int .i64) ?_) (Ac (congrArg (C.int .i64) ?_) (Ac (congrArg (C.int .i64) ?_) (Ac (congrArg (C.int .i64) ?_) (Ac (congrArg C.bool ?_) (Ac (congrArg C.bool ?_) (Ac (congrArg (C.int .i64) ?_) (Ac (congrArg (C.int .i64) ?_) (Ac (congrArg (C.int .i64) ?_) (Ac (congrArg (C.int .i64) ?_) (Ac (congrArg (C.int .i64) ?_) (Ac (congrArg (C.int .i64) ?_) (Ac (congrArg (C.int .i64) ?_) (Ac (congrArg (C.int .i64) ?_) (Ac (congrArg (C.int .u64) ?_) (Ac (congrArg (C.int .i64) ?_) (Ac (congrArg C.str ?_) (Ac (congrArg (C.int .i64) ?_) (Ac (congrArg (C.int .i64) ?_) rfl)))))))))))))))))))))))))))) (Ac (congrArg V.c (congrArg C.bool ?_)) rfl))),Q7⟩) ?_
 rotate_left 27
 all_goals first|(simp_all[Bm,utf0];done)|(grind[Bm,utf0])
structure Com (d:Dcd):Prop where
 lv:Bv d=true
 at_:0≤d.at_∧d.at_≤1000000000
 st:0≤d.start∧d.start≤d.at_
 ut:Ei d.utf=true
 wi:Dc d.wire=true
 fl:d.field=fld0∨known d.plan.shapes d.field=true
 en:d.end_=ev0
theorem Hu {d:Dcd} (lv:Bv d=true) (hm:1≤d.mode∧d.mode≤9) (at_:0≤d.at_∧d.at_≤1000000000) (st:0≤d.start∧d.start≤d.at_) (ut:Ei d.utf=true) (wi:Dc d.wire=true) (fl:d.field=fld0∨known d.plan.shapes d.field=true)
  (h8:Ae3 d=true) (h9:Kt d=true) (h10:Nt d=true) (h11:Jd d=true) (h12:J2 d=true):Cd d=true:=by
 simp only[Cd,Bool.and_eq_true,Bool.or_eq_true,decide_eq_true_eq]
 refine⟨⟨⟨⟨⟨⟨⟨⟨⟨⟨⟨lv,?_⟩,?_⟩,?_⟩,ut⟩,wi⟩,fl⟩,h8⟩,h9⟩,h10⟩,h11⟩,h12⟩<;>simp only[Ai,Bool.and_eq_true,decide_eq_true_eq]<;>assumption
theorem Ak9 {d:Dcd} {c a:Int} (lv:Bv d=true) (at_:0≤d.at_∧d.at_≤1000000000) (st:0≤d.start∧d.start≤d.at_) (ut:Ei d.utf=true) (wi:Dc d.wire=true) (fl:d.field=fld0∨known d.plan.shapes d.field=true) (hc:1≤c) (ha:0≤a):Cd (Gw d c a)=true:=by
 have hs:(⟨0,0⟩:Scn)=scn0:=rfl
 refine Hu (B3 lv rfl rfl) (show (1:Int)≤9∧(9:Int)≤9 by decide) at_ st ut wi fl ?_ ?_ ?_ ?_ ?_
 ·simp[Ae3,Gw,Mo,Qs,Ai,W8,E9,Bj,Fy,Ht,hc,ha]
 ·simp[Kt,Gw]
 ·simp[Nt,Gw]
 ·simp[Jd,Gw]
 ·simp[J2,Gw,Bx,hs]
theorem Com.fail {d:Dcd} (h:Com d) {c a:Int} (hc:1≤c) (ha:0≤a):Cd (Gw d c a)=true:=Ak9 h.lv h.at_ h.st h.ut h.wi h.fl hc ha
theorem Yp {m:Mac} (h:m.d.mode=9∨m.d.mode=1):A2 m=none:=by
 unfold A2
 rw[if_neg (by omega),if_neg (by omega),if_neg (by omega)]
structure Pre (d:Dcd):Prop extends Com d where
 sc:d.scan=scn0
 ne:0<d.stack.length
 md:(d.mode=2∧d.want=0)∨(d.mode=6∧Gh d.field.kind=true∧0≤d.want∧d.want≤Eb d)∨(d.mode=7∧0≤d.want∧d.want≤Eb d)∨(d.mode=8∧Va d.field=true∧0≤d.want∧d.want≤Eb d∧(d.want=0∨Ak (Ba d.field.kind)≤d.want))
theorem Qu:Ex scn0=true:=by simp[Ex,scn0,Ai]
theorem Rz {d e:Dcd} {k:Nat} (h:Bv d=true) (hp:e.plan=d.plan) (hs:e.stack=d.stack.take k):Bv e=true:=by
 have hb:=Co h
 refine Hk (by rw[hp];exact hb.1) ?_ fun l hl=>?_
 ·rw[hs,hp];have:=hb.2.1;simp only[List.length_take];omega
 ·rw[hp];rw[hs] at hl;exact hb.2.2.2 l (List.mem_of_mem_take hl)
theorem Vm:Ei ⟨0,0,0⟩=true:=by decide
set_option maxHeartbeats 3200000 in
theorem Pre.close {d:Dcd} (h:Pre d) (o:List Ev):(A2 ⟨d,o⟩=none∧Cd d=true)∨∃q,A2 ⟨d,o⟩=some q∧(Pre q.d∨(Cd q.d=true∧A2 q=none)):=by
 have hb:=No h.lv
 have hsc:=h.sc
 have hne:=h.ne
 have h0:d.scan.have_=0:=by rw[hsc];rfl
 have hb0:d.scan.bits=0:=by rw[hsc];rfl
 have hend:d.mode≠9→Ae3 d=true:=fun h9=>by unfold Ae3;rw[if_neg h9];exact decide_eq_true h.en
 have hst:d.mode≠1→1≤Eb d→Kt d=true:=fun h1 ht=>by unfold Kt;rw[if_neg h1];split;rfl;exact decide_eq_true ht
 rcases h.md with ⟨hm,hw⟩|⟨hm,hk,hw0,hw1⟩|⟨hm,hw0,hw1⟩|⟨hm,hk,hw0,hw1,hw2⟩
 ·by_cases ht:Eb d=0
  ·right
   by_cases h1:d.stack.length=1
   ·refine⟨_,Vh hm h0 hne ht h1,.inr ⟨?_,Yp (.inr rfl)⟩⟩
    have hn:d.stack.take (d.stack.length-1)=[]:=by rw[h1];rfl
    refine Hu (Rz h.lv rfl rfl) (show (1:Int)≤1∧(1:Int)≤9 by decide) h.at_ h.st h.ut h.wi h.fl ?_ ?_ ?_ ?_ ?_
    ·simp[Ae3,h.en]
    ·simp[Kt,hn]
    ·simp[Nt,hw]
    ·simp[Jd]
    ·simp[J2,Bx,hsc,Qu]
   ·refine⟨_,Vi hm h0 hne ht h1,.inl ⟨⟨Rz h.lv rfl rfl,h.at_,h.st,h.ut,h.wi,h.fl,h.en⟩,hsc,?_,.inl ⟨hm,hw⟩⟩⟩
    simp only[List.length_take];omega
  ·left
   refine⟨?_,?_⟩
   ·unfold A2;simp only;rw[if_neg (by omega),if_neg (by omega),if_neg (by omega)]
   ·refine Hu h.lv (by omega) h.at_ h.st h.ut h.wi h.fl (hend (by omega)) (hst (by omega) (by omega)) ?_ ?_ ?_
    ·simp[Nt,hm,hw]
    ·simp[Jd,hm]
    ·simp[J2,Bx,hm,hsc,Qu]
 ·by_cases hw:d.want<1
  ·right
   by_cases hu:0<d.utf.want
   ·refine⟨A3 ⟨d,o⟩ 5 d.at_,by unfold A2;simp only;rw[if_pos ⟨hm,hw⟩,if_pos hu],.inr ⟨h.toCom.fail (by decide) h.at_.1,Yp (.inl rfl)⟩⟩
   ·refine⟨_,by unfold A2;simp only;rw[if_pos ⟨hm,hw⟩,if_neg hu],.inl ⟨⟨B3 h.lv rfl rfl,h.at_,h.st,Vm,h.wi,h.fl,h.en⟩,hsc,hne,.inl ⟨rfl,rfl⟩⟩⟩
  ·left
   refine⟨?_,?_⟩
   ·unfold A2;simp only;rw[if_neg (by omega),if_neg (by omega),if_neg (by omega)]
   ·refine Hu h.lv (by omega) h.at_ h.st h.ut h.wi h.fl (hend (by omega)) (hst (by omega) (by omega)) ?_ ?_ ?_
    ·simp[Nt,hm,Ai];omega
    ·simp[Jd,hm,hk]
    ·simp[J2,Bx,hm,hsc]
 ·by_cases hw:d.want<1
  ·right
   refine⟨_,by unfold A2;simp only;rw[if_neg (by omega),if_pos ⟨.inl hm,hw⟩],.inl ⟨⟨B3 h.lv rfl rfl,h.at_,h.st,h.ut,h.wi,h.fl,h.en⟩,hsc,hne,.inl ⟨rfl,rfl⟩⟩⟩
  ·left
   refine⟨?_,?_⟩
   ·unfold A2;simp only;rw[if_neg (by omega),if_neg (by omega),if_neg (by omega)]
   ·refine Hu h.lv (by omega) h.at_ h.st h.ut h.wi h.fl (hend (by omega)) (hst (by omega) (by omega)) ?_ ?_ ?_
    ·simp[Nt,hm,Ai];omega
    ·simp[Jd,hm]
    ·simp[J2,Bx,hm,hsc]
 ·by_cases hw:d.want<1
  ·right
   refine⟨_,by unfold A2;simp only;rw[if_neg (by omega),if_pos ⟨.inr ⟨hm,h0⟩,hw⟩],.inl ⟨⟨B3 h.lv rfl rfl,h.at_,h.st,h.ut,h.wi,h.fl,h.en⟩,hsc,hne,.inl ⟨rfl,rfl⟩⟩⟩
  ·left
   refine⟨?_,?_⟩
   ·unfold A2;simp only;rw[if_neg (by omega),if_neg (by omega),if_neg (by omega)]
   ·refine Hu h.lv (by omega) h.at_ h.st h.ut h.wi h.fl (hend (by omega)) (hst (by omega) (by omega)) ?_ ?_ ?_
    ·simp[Nt,hm,Ai];omega
    ·simp[Jd,hm,hk]
    ·have hwd:Bx d=Ak (Ba d.field.kind):=by unfold Bx;rw[if_neg (by omega),if_pos hm]
     have hr:St d=d.want:=by unfold St;rw[if_pos hm]
     unfold J2
     split
     ·rw[h0,hb0,hr]
      simp[Ai]
      omega
     ·rw[if_neg (by omega),hsc];exact Qu
theorem Pre.settle: ∀(k:Nat) (m:Mac),wM m≤k→Pre m.d→Cd (Ao m).d=true:=by
 intro k
 induction k with
 |zero=>
  intro m hk h
  have:=h.ne
  have:m.d.stack.length≤wM m:=by unfold wM;omega
  omega
 |succ k ih=>
  intro m hk h
  rcases h.close m.out with ⟨h1,h2⟩|⟨q,h1,h2⟩
  ·rw[B6 h1];exact h2
  ·rw[Cu h1]
   rcases h2 with h2|⟨h2,h3⟩
   ·exact ih q (by have h3:wM q<wM m:=(D2 h1).1;omega) h2
   ·rw[B6 h3];exact h2
theorem F8 {m:Mac} (h:Pre m.d):Cd (Ao m).d=true:=Pre.settle _ m (Nat.le_refl _) h
theorem Ajg {d:Dcd} {o:List Ev} {u:Int} (h:Com d) (hw:d.want=0) (hu:0≤u):Cd (Ed ⟨d,o⟩ u).d=true:=by
 unfold Ed
 simp only
 split
 ·exact h.fail (by decide) h.st.1
 ·exact F8 ⟨⟨Qf (u:=u) h.lv rfl rfl hu (by omega),h.at_,h.st,h.ut,h.wi,h.fl,h.en⟩,rfl,Nat.zero_lt_one,.inl ⟨rfl,hw⟩⟩
theorem Ajh {d:Dcd} {n:Int} (h:Com d) (hn:d.stack.length≠0):(fieldAt d.plan.shapes (Gi d).msg n).getD fld0=fld0∨known d.plan.shapes ((fieldAt d.plan.shapes (Gi d).msg n).getD fld0)=true:=by
 cases hf:fieldAt d.plan.shapes (Gi d).msg n with
 |none=>exact .inl rfl
 |some f=>
  right
  have hb:=Co h.lv
  have hl:=hb.2.2.2 _ (Rr hn)
  simp only[Hj,Bool.and_eq_true] at hl
  have hl:=Aw hl.1
  have hk:=(Sp (B8 hb.1).2.1 hf).2
  show known d.plan.shapes f=true
  refine Acj (k:=(Gi d).msg.toNat) Q2 ?_
  rw[hk,show (((Gi d).msg.toNat:Nat):Int)=(Gi d).msg by omega];exact hf
theorem Ao3 {d:Dcd} {o:List Ev} {u:Int} (h:Com d) (hw:d.want=0):Cd (Li ⟨d,o⟩ u).d=true:=by
 unfold Li
 simp only
 split
 ·exact h.fail (by decide) h.st.1
 ·rename_i h1
  simp only[not_or] at h1
  have hk:=Ajh (n:=Bh u) h h1.2
  split
  ·exact h.fail (by decide) h.st.1
  ·rename_i h2
   have h2:Dc (Ah u)=true:=by simpa using h2
   split
   ·exact h.fail (by decide) h.st.1
   ·rename_i h3
    split
    ·exact Ak9 (d:=⟨d.plan,d.mode,d.stack,⟨0,0⟩,d.start,d.at_,(fieldAt d.plan.shapes (Gi d).msg (Bh u)).getD fld0,Ah u,d.want,d.utf,d.end_⟩) (B3 h.lv rfl rfl) h.at_ h.st h.ut h2 hk (by decide) h.at_.1
    ·rename_i h4
     have hfit:(fieldAt d.plan.shapes (Gi d).msg (Bh u)).getD fld0=fld0∨Ds ((fieldAt d.plan.shapes (Gi d).msg (Bh u)).getD fld0) (Ah u)=true:=by
      cases hf:fieldAt d.plan.shapes (Gi d).msg (Bh u) with
      |none=>exact .inl rfl
      |some f=>right;rw[hf] at h3;simpa using h3
     have hwi:Ah u=0∨Ah u=1∨Ah u=2∨Ah u=5:=by
      simp only[Dc,Bool.or_eq_true,decide_eq_true_eq] at h2;omega
     have hwb:=Df (Ah u)
     have htop: ∀e:Dcd,e.stack=d.stack→Eb e=Eb d:=fun e he=>by unfold Eb;rw[he]
     generalize (fieldAt d.plan.shapes (Gi d).msg (Bh u)).getD fld0=f at *
     generalize Ah u=w at *
     refine Hu (B3 h.lv rfl rfl) ?_ h.at_ h.st h.ut h2 hk ?_ ?_ ?_ ?_ ?_
     ·show 1≤(if w=0 then (3:Int) else if w=2 then 4 else 5)∧(if w=0 then (3:Int) else if w=2 then 4 else 5)≤9
      split<;>(try split)<;>omega
     ·rcases hwi with rfl|rfl|rfl|rfl<;>simp[Ae3,h.en]
     ·have:=htop ⟨d.plan,if w=0 then 3 else if w=2 then 4 else 5,d.stack,⟨0,0⟩,d.start,d.at_,f,w,d.want,d.utf,d.end_⟩ rfl
      rcases hwi with rfl|rfl|rfl|rfl<;>simp[Kt] at this ⊢ <;>rw[this]<;>omega
     ·rcases hwi with rfl|rfl|rfl|rfl<;>simp[Nt,hw]
     ·rcases hwi with rfl|rfl|rfl|rfl<;>simp[Jd,Amw,Ak]<;>exact hfit
     ·have:=htop ⟨d.plan,if w=0 then 3 else if w=2 then 4 else 5,d.stack,⟨0,0⟩,d.start,d.at_,f,w,d.want,d.utf,d.end_⟩ rfl
      rcases hwi with rfl|rfl|rfl|rfl<;>simp[J2,Bx,Ak,St,Ai,Ex] at this h4 ⊢ <;>rw[this]<;>omega
theorem Anc {f:Fld} (h:f=fld0∨Ds f 2=true) (h0:f≠fld0) (h8:f.kind≠8) (hb:Gh f.kind=false):Va f=true:=by
 rcases h with h|h
 ·exact absurd h h0
 ·simp only[Ds,Bool.or_eq_true,Bool.and_eq_true,decide_eq_true_eq] at h
  rcases h with h|h
  ·exfalso
   simp only[Gh,Bool.or_eq_false_iff,decide_eq_false_iff_not] at hb
   unfold Ba Dx at h
   split at h
   ·rename_i hk
    have hk:=Aw hk
    repeat' split at h
    all_goals omega
   ·omega
  ·exact h.2
theorem Ane {d:Dcd} {o:List Ev} {u:Int} (h:Com d) (hw:d.want=0) (hu:0≤u) (hf:d.field=fld0∨Ds d.field 2=true):Cd (Ey ⟨d,o⟩ u).d=true:=by
 unfold Ey
 simp only
 split
 ·exact h.fail (by decide) h.st.1
 ·rename_i h1
  simp only[not_or] at h1
  have hn:0<d.stack.length:=by omega
  split
  ·exact F8 ⟨⟨B3 h.lv rfl rfl,h.at_,h.st,h.ut,h.wi,h.fl,h.en⟩,rfl,hn,.inr (.inr (.inl ⟨rfl,hu,by show u≤Eb d;omega⟩))⟩
  ·rename_i h0
   split
   ·rename_i h8
    split
    ·exact h.fail (by decide) h.st.1
    ·rename_i hd
     have hk:=h.fl.resolve_left h0
     exact F8 ⟨⟨Rs (u:=u) h.lv hk h8 h1.1 Q2 hu Q2 rfl rfl,h.at_,h.st,h.ut,h.wi,h.fl,h.en⟩,rfl,by simp,.inl ⟨rfl,rfl⟩⟩
   ·rename_i h8
    split
    ·rename_i hb
     exact F8 ⟨⟨B3 h.lv rfl rfl,h.at_,h.st,Vm,h.wi,h.fl,h.en⟩,rfl,hn,.inr (.inl ⟨rfl,hb,hu,by show u≤Eb d;omega⟩)⟩
    ·rename_i hb
     split
     ·exact h.fail (by decide) h.at_.1
     ·rename_i hx
      exact F8 ⟨⟨B3 h.lv rfl rfl,h.at_,h.st,h.ut,h.wi,h.fl,h.en⟩,rfl,hn,.inr (.inr (.inr ⟨rfl,Anc hf h0 h8 (by simpa using hb),hu,by show u≤Eb d;omega,by show u=0∨Ak (Ba d.field.kind)≤u;omega⟩))⟩
theorem Com.start {d:Dcd} (h:Com d) {a:Int} (ha:0≤a∧a≤d.at_):Com (Nn d a):=by
 refine⟨B3 h.lv rfl rfl,h.at_,?_,h.ut,h.wi,h.fl,h.en⟩
 show 0≤(if d.scan.have_=0∧(d.mode=1∨d.mode=2∨d.mode=4) then a else d.start)∧(if d.scan.have_=0∧(d.mode=1∨d.mode=2∨d.mode=4) then a else d.start)≤d.at_
 split
 ·exact ha
 ·exact h.st
theorem Com.scan {d:Dcd} (h:Com d) (s:Scn):Com (Mq d s):=⟨B3 h.lv rfl rfl,h.at_,h.st,h.ut,h.wi,h.fl,h.en⟩
theorem Agx {s:Scn} {b:Int} (h0:0≤s.bits) (h:(An s b).2=0):Ex (An s b).1=true:=by
 unfold An at h ⊢
 split at h
 ·simp at h
 ·rename_i hc
  rw[if_neg hc]
  simp only[not_or] at hc
  have hs:Ex s=true:=by simpa using hc.1
  have hb:=Aw (show Ai b 0 255=true by simpa using hc.2.1)
  have hk:=Yi hs h0
  have hb2: ¬b<128:=fun hx=>by rw[if_pos hx] at h;simp at h
  have h9:s.have_≠9:=fun e=>hc.2.2 ⟨e,by omega⟩
  obtain ⟨u,hv⟩:=s
  simp only at h0 hk h9 ⊢
  obtain ⟨k,rfl⟩:=Int.eq_ofNat_of_zero_le hk.1
  have hk9:k<9:=by omega
  have hu:=hk.2.2
  rw[Int.toNat_natCast] at hu ⊢
  have hp:(0:Int)<2 ^ (7*(k+1)):=Int.pow_pos (by decide)
  have hp2:(2:Int) ^ (7*(k+1))=2 ^ (7*k)*128:=by rw[show 7*(k+1)=7*k+7 by omega,Int.pow_add];rfl
  have hp0:(0:Int)<2 ^ (7*k):=Int.pow_pos (by decide)
  have hm:b % 128*2 ^ (7*k)≤127*2 ^ (7*k):=Int.mul_le_mul_of_nonneg_right (by omega) (by omega)
  have hm0:0≤b % 128*2 ^ (7*k):=Int.mul_nonneg (by omega) (by omega)
  simp only[Ex,Ai,Bool.and_eq_true,decide_eq_true_eq]
  refine⟨⟨by omega,by omega⟩,?_⟩
  rw[show min (Int.toNat (7*((k:Int)+1))) 64=7*(k+1) by omega,Int.fdiv_eq_ediv_of_nonneg _ (Int.le_of_lt hp)]
  exact Int.ediv_eq_zero_of_lt Q2 Q2
theorem Ao4 {d:Dcd} {o:List Ev} {b a:Int} (h:Com d) (hb:0≤d.scan.bits∧d.scan.bits≤18446744073709551615) (ha:0≤a∧a≤d.at_) (h1:d.mode=1→d.stack=[]) (hn:d.mode≠1→0<d.stack.length) (hk:Jd d=true)
  (hm:((d.mode=1∨d.mode=2∨d.mode=3∨d.mode=4)∧d.want=0)∨(d.mode=8∧Ak (Ba d.field.kind)=0∧0≤d.want∧d.want≤Eb d)):Cd (Dq ⟨d,o⟩ b a).d=true:=by
 have hcs:=h.start ha
 have hbt:=No h.lv
 have hbb:=Xc (b:=b) hb.1 hb.2
 unfold Dq
 simp only
 split
 ·exact hcs.fail (by decide) ha.1
 ·split
  ·rename_i hc
   have hsn:=Agx hb.1 hc
   unfold Zw
   simp only
   split
   ·exact(hcs.scan _).fail (by decide) h.at_.1
   ·rename_i hx
    simp only[not_or,not_and] at hx
    have hcc:=hcs.scan (An d.scan b).1
    refine Hu hcc.lv (show 1≤d.mode∧d.mode≤9 by omega) hcc.at_ hcc.st hcc.ut hcc.wi hcc.fl ?_ ?_ ?_ hk ?_
    ·show (if d.mode=9 then _ else _)=true
     rw[if_neg (by omega)];exact decide_eq_true h.en
    ·show (if d.mode=1 then decide (d.stack=[]) else if d.mode=9 then true else decide (1≤Eb d))=true
     split
     ·rename_i hm1;exact decide_eq_true (h1 hm1)
     ·rename_i hm1
      rw[if_neg (by omega)];exact decide_eq_true (by have:=hx.1 hm1;omega)
    ·show (if d.mode=6∨d.mode=7∨d.mode=8 then Ai d.want 1 (Eb d) else decide (d.want=0))=true
     split
     ·have:=hx.2 (by omega)
      simp only[Ai,Bool.and_eq_true,decide_eq_true_eq];omega
     ·exact decide_eq_true (by omega)
    ·have hw:Bx (Mq (Nn d a) (An d.scan b).1)=0:=by
      show (if d.mode=5 then Ak d.wire else if d.mode=8 then Ak (Ba d.field.kind) else 0)=0
      rw[if_neg (by omega)]
      split<;>omega
     unfold J2
     rw[hw,if_neg (by decide)]
     show (if d.mode=6∨d.mode=7∨d.mode=9 then decide ((An d.scan b).1=scn0) else Ex (An d.scan b).1)=true
     rw[if_neg (by omega)]
     exact hsn
  ·split
   ·rename_i hm1
    exact Ajg (hcs.scan _) (show d.want=0 by omega) hbb.1
   ·split
    ·rename_i hm1
     exact Ao3 (hcs.scan _) (show d.want=0 by omega)
    ·split
     ·rename_i hm1
      refine Ane (hcs.scan _) (show d.want=0 by omega) hbb.1 ?_
      unfold Jd at hk
      rw[if_neg (by omega),if_neg (by omega),if_neg (by omega),if_pos hm1] at hk
      simp only[Bool.and_eq_true,decide_eq_true_eq,Amw,Bool.or_eq_true] at hk
      rw[hk.1] at hk
      exact hk.2
     ·rename_i hc1 hc2 hc3 hc4 hc5
      have hcc:=hcs.scan scn0
      refine F8 ⟨⟨B3 hcc.lv rfl rfl,hcc.at_,hcc.st,hcc.ut,hcc.wi,hcc.fl,hcc.en⟩,rfl,hn hc3,?_⟩
      rcases hm with hm|hm
      ·exact .inl ⟨by show (if d.mode=8 then (8:Int) else 2)=2;rw[if_neg (by omega)],hm.2⟩
      ·refine .inr (.inr (.inr ⟨by show (if d.mode=8 then (8:Int) else 2)=8;rw[if_pos hm.1],?_,hm.2.2.1,hm.2.2.2,?_⟩))
       ·unfold Jd at hk
        rw[if_neg (by omega),if_pos hm.1] at hk
        exact hk
       ·right;show Ak (Ba d.field.kind)≤d.want;omega
theorem Aji {s:Scn} {b w:Int} (h:0≤s.have_∧s.have_+1<w) (hw:w≤8) (hf:Int.fdiv s.bits (2 ^ min (Int.toNat (8*s.have_)) 64)=0) (hb:0≤b∧b≤255):(B9 s b).have_=s.have_+1∧Int.fdiv (B9 s b).bits (2 ^ min (Int.toNat (8*(s.have_+1))) 64)=0:=by
 obtain ⟨u,hv⟩:=s
 simp only at h hf
 unfold B9
 rw[if_pos ⟨by simp only[Ai,Bool.and_eq_true,decide_eq_true_eq];omega,by simp only[Ai,Bool.and_eq_true,decide_eq_true_eq];omega⟩]
 refine⟨rfl,?_⟩
 simp only
 obtain ⟨k,rfl⟩:=Int.eq_ofNat_of_zero_le h.1
 have hk:k<7:=by omega
 rw[show min (Int.toNat (8*(k:Int))) 64=8*k by omega] at hf ⊢
 rw[show min (Int.toNat (8*((k:Int)+1))) 64=8*(k+1) by omega]
 have hp0:(0:Int)<2 ^ (8*k):=Int.pow_pos (by decide)
 have hp:(0:Int)<2 ^ (8*(k+1)):=Int.pow_pos (by decide)
 have hp2:(2:Int) ^ (8*(k+1))=2 ^ (8*k)*256:=by rw[show 8*(k+1)=8*k+8 by omega,Int.pow_add];rfl
 have hp3:(2:Int) ^ (8*(k+1))≤2 ^ 56:=by
  rcases (show k=0∨k=1∨k=2∨k=3∨k=4∨k=5∨k=6 by omega) with rfl|rfl|rfl|rfl|rfl|rfl|rfl<;>decide
 have hp56:(2:Int) ^ 56=72057594037927936:=rfl
 rw[Int.fdiv_eq_ediv_of_nonneg _ (Int.le_of_lt hp0)] at hf
 have hd:=Int.mul_ediv_add_emod u (2 ^ (8*k))
 rw[hf,Int.mul_zero,Int.zero_add] at hd
 have hu0:=Int.emod_nonneg u (show (2:Int) ^ (8*k)≠0 by omega)
 have hu1:=Int.emod_lt_of_pos u hp0
 have hm:b*2 ^ (8*k)≤255*2 ^ (8*k):=Int.mul_le_mul_of_nonneg_right (by omega) (by omega)
 have hm0:0≤b*2 ^ (8*k):=Int.mul_nonneg (by omega) (by omega)
 rw[Int.fdiv_eq_ediv_of_nonneg _ (Int.le_of_lt hp),IntKind.wrap_u64,IntKind.wrap_u64]
 have e1:b*2 ^ (8*k) % 18446744073709551616=b*2 ^ (8*k):=Int.emod_eq_of_lt hm0 (by omega)
 rw[e1,Int.emod_eq_of_lt (by omega) (by omega)]
 exact Int.ediv_eq_zero_of_lt Q2 Q2
theorem Ao5 {d:Dcd} {o:List Ev} {b:Int} (h:Com d) (hn:0<d.stack.length) (hk:Jd d=true) (hb:0≤b∧b≤255) (h0:0≤d.scan.have_∧d.scan.have_≤Bx d-1) (hf:Int.fdiv d.scan.bits (2 ^ min (Int.toNat (8*d.scan.have_)) 64)=0) (hr:Bx d-d.scan.have_-1≤St d)
  (hm:(d.mode=5∧d.want=0)∨(d.mode=8∧0≤d.want∧d.want≤Eb d)):Cd (Hb ⟨d,o⟩ b).d=true:=by
 have hbt:=No h.lv
 have hwb:0≤Bx d∧Bx d≤8:=by
  have h1:=Df d.wire
  have h2:=Df (Ba d.field.kind)
  unfold Bx
  split
  ·omega
  ·split<;>omega
 have hro:St d=if d.mode=8 then d.want else Eb d:=rfl
 unfold Hb
 simp only
 split
 ·rename_i hx
  have h1:d.scan.have_+1<Bx d:=by
   unfold B9 at hx
   rw[if_pos ⟨by simp only[Ai,Bool.and_eq_true,decide_eq_true_eq];omega,by simp only[Ai,Bool.and_eq_true,decide_eq_true_eq];omega⟩] at hx
   exact hx
  have hfn:=Aji ⟨h0.1,h1⟩ hwb.2 hf hb
  have hcc:=h.scan (B9 d.scan b)
  refine Hu hcc.lv (show 1≤d.mode∧d.mode≤9 by omega) hcc.at_ hcc.st hcc.ut hcc.wi hcc.fl ?_ ?_ ?_ hk ?_
  ·show (if d.mode=9 then _ else _)=true
   rw[if_neg (by omega)];exact decide_eq_true h.en
  ·show (if d.mode=1 then decide (d.stack=[]) else if d.mode=9 then true else decide (1≤Eb d))=true
   rw[if_neg (by omega),if_neg (by omega)]
   refine decide_eq_true ?_
   split at hro<;>omega
  ·show (if d.mode=6∨d.mode=7∨d.mode=8 then Ai d.want 1 (Eb d) else decide (d.want=0))=true
   split
   ·rw[if_pos (by omega)] at hro
    simp only[Ai,Bool.and_eq_true,decide_eq_true_eq];omega
   ·exact decide_eq_true (by omega)
  ·have hw:Bx (Mq d (B9 d.scan b))=Bx d:=rfl
   have hrr:St (Mq d (B9 d.scan b))=St d:=rfl
   have hss:(Mq d (B9 d.scan b)).scan=B9 d.scan b:=rfl
   unfold J2
   rw[hw,if_pos (by omega),hrr,hss,hfn.1]
   simp only[Ai,Bool.and_eq_true,decide_eq_true_eq]
   exact⟨⟨⟨by omega,by omega⟩,hfn.2⟩,by omega⟩
 ·have hcc:=h.scan scn0
  have hcv:Com (Ce ⟨Mq d scn0,o⟩ (B9 d.scan b).bits).d:=⟨B3 hcc.lv rfl rfl,hcc.at_,hcc.st,hcc.ut,hcc.wi,hcc.fl,hcc.en⟩
  split
  ·exact hcv.fail (by decide) h.at_.1
  ·rename_i hx
   refine F8 ⟨hcv,rfl,hn,?_⟩
   rcases hm with hm|hm
   ·exact .inl ⟨by show (if d.mode=8 then (8:Int) else 2)=2;rw[if_neg (by omega)],hm.2⟩
   ·have hw:Bx d=Ak (Ba d.field.kind):=by unfold Bx;rw[if_neg (by omega),if_pos hm.1]
    refine .inr (.inr (.inr ⟨by show (if d.mode=8 then (8:Int) else 2)=8;rw[if_pos hm.1],?_,hm.2.1,hm.2.2,?_⟩))
    ·unfold Jd at hk
     rw[if_neg (by omega),if_pos hm.1] at hk
     exact hk
    ·show d.want=0∨Ak (Ba d.field.kind)≤d.want
     omega
theorem Anf {d:Dcd} {o:List Ev} {b:Int} (h:Com d) (h1:1≤d.at_) (hm:d.mode=6) (hk:Gh d.field.kind=true) (hw:0≤d.want∧d.want≤Eb d) (hn:0<d.stack.length) (hs:d.scan=scn0):Cd (Ej ⟨d,o⟩ b).d=true:=by
 unfold Ej
 simp only
 split
 ·split
  ·exact h.fail (by decide) (by omega)
  ·rename_i u hu
   exact F8 ⟨⟨B3 h.lv rfl rfl,h.at_,h.st,W7 hu,h.wi,h.fl,h.en⟩,hs,hn,.inr (.inl ⟨hm,hk,hw.1,hw.2⟩)⟩
 ·exact F8 ⟨h,hs,hn,.inr (.inl ⟨hm,hk,hw.1,hw.2⟩)⟩
theorem Ama {u:Int} {k:Nat} (hk:k≤64) (h:Int.fdiv u (2 ^ k)=0):0≤u∧u≤18446744073709551615:=by
 have hp0:(0:Int)<2 ^ k:=Int.pow_pos (by decide)
 rw[Int.fdiv_eq_ediv_of_nonneg _ (Int.le_of_lt hp0)] at h
 have hd:=Int.mul_ediv_add_emod u (2 ^ k)
 rw[h,Int.mul_zero,Int.zero_add] at hd
 have hu0:=Int.emod_nonneg u (show (2:Int) ^ k≠0 by omega)
 have hu1:=Int.emod_lt_of_pos u hp0
 have hp:(2:Nat) ^ k≤2 ^ 64:=Nat.pow_le_pow_right (by decide) hk
 have hc:((2 ^ k:Nat):Int)=(2:Int) ^ k:=by simp
 have h64:(2:Nat) ^ 64=18446744073709551616:=rfl
 omega
theorem Sv {d:Dcd} (h:Cd d=true):0≤d.scan.bits∧d.scan.bits≤18446744073709551615:=by
 have hs:=(Qt h).2.2.2.2.2.2.2.2.2.2.2
 unfold J2 at hs
 split at hs
 ·simp only[Bool.and_eq_true,decide_eq_true_eq] at hs
  exact Ama (Nat.min_le_right _ _) hs.1.2
 ·split at hs
  ·have e:d.scan=scn0:=of_decide_eq_true hs
   rw[e];decide
  ·simp only[Ex,Bool.and_eq_true,decide_eq_true_eq] at hs
   exact Ama (Nat.min_le_right _ _) hs.2
theorem Agy {d:Dcd} (h:d.stack.length≠0):Eb (Da d)=Eb d-1:=by
 show (List.getD (Da d).stack ((Da d).stack.length-1) Ap7).left=_
 rw[J3]
 unfold Da
 simp only
 rw[if_neg h,List.getD_eq_getElem?_getD,List.getElem?_set_self (by omega)]
 rfl
end Go.Proofs.YtijacopaadmncaaGreat.Ax
