/- Schemas. Events. Decoders: what is valid. Decoders: what is valid, more. Decoders: what is valid, F5. Decoders: what is valid, at last. Decoders: what is valid: both sides. Copies. The machine: closing. -/
import Derived.Test.YtphecbmdhbphgaaGreatKFnBroken1
set_option linter.unusedSimpArgs false
set_option linter.unusedVariables false
namespace Go.Proofs.YtphecbmdhbphgaaGreat.Ax
open Go.RowKit
theorem Amx (f:Fld) (before:Int) (n:Int) (hp1:(0:Int)≤n∧n≤1000):Fun Tryz.prog 160 [.agg (Fv f),vI before,vI n] [] (.v (vB (decide (before<(f).number)&&H5 f n))) []:=by
 have hN:Bn=274877906944:=rfl
 refine Av Tryz.func160 Q4 Q4 (w:=let z1:S:= .v (vB (decide (before<(f).number)&&H5 f n));let z2:S:= .v (vB (Ai f.msg 0 (n-1)));let z3:=Lf (.v (vB false)) z1 [] [];let z4:=Lf (.v (vB (decide (f.msg=(-1))))) z1 [] [];let z5:=Dd f.number;(.seg [.call [] (.v (vB z5)) []] (.br (.leaf () []) (.br (.leaf () []) (.seg [.call [] (.v (vB (Dy f.kind))) []] (.br (.leaf () []) (.br (.br (.leaf () []) (.seg [.call [] (.v (vB (Cf f.kind))) []] (.br (.leaf () []) (.br (.seg [.as 45 (.v (vI (n-1))),.call [] z2 []] (.leaf () [])) (.leaf () []))))) (.br (.seg [.as 45 (.v (vI (n-1))),.call [] z2 []] (.leaf () [])) (.leaf () []))))))),(Fp 207 [vI f.number] [] (.v (vB z5)) [])∧Bc (!z5) z3 (Bc (decide (f.number≤before)) z3 ((Fp 208 [vI f.kind] [] (.v (vB (Dy f.kind))) [])∧Bc (!(Dy f.kind)) z3 (Bc f.packed (Bc (!f.rep) z3 ((Fp 209 [vI f.kind] [] (.v (vB (Cf f.kind))) [])∧Bc (!(Cf f.kind)) z3 (Bc (decide (f.kind=8)) ((wI (n-1))∧(Fp 97 [vI f.msg,vI 0,vI (n-1)] [] z2 [])∧Lf z2 z1 [] []) z4))) (Bc (decide (f.kind=8)) ((wI (n-1))∧(Fp 97 [vI f.msg,vI 0,vI (n-1)] [] z2 [])∧Lf z2 z1 [] []) z4)))))) Q4 ?_
 refine⟨(Adu _),fun h1=>have q1:=Aq h1;?_,fun h1=>have q1:=Ao h1;?_⟩
 refine⟨(sB ?_),rfl⟩
 rotate_left
 refine dsp (fun h2 p2=>?_) fun h2 p2=>?_
 refine⟨(sB ?_),rfl⟩
 rotate_left
 refine⟨(Acm _),fun h3=>have q3:=Aq h3;have p3:=A7 q3;?_,fun h3=>have q3:=Ao h3;have p3:=Aw q3;?_⟩
 refine⟨(sB ?_),rfl⟩
 rotate_left
 refine⟨fun h4=>?_,fun h4=>?_⟩
 refine⟨fun h5=>have q5:=Aq h5;?_,fun h5=>have q5:=Ao h5;?_⟩
 refine⟨(sB ?_),rfl⟩
 rotate_left
 refine⟨(Zy _),fun h6=>have q6:=Aq h6;have p6:=A7 q6;?_,fun h6=>have q6:=Ao h6;have p6:=Aw q6;?_⟩
 refine⟨(sB ?_),rfl⟩
 rotate_left
 refine dsp (fun h7 p7=>?_) fun h7 p7=>?_
 refine⟨(Af Q2 Q2),(Cc _ _ _),(sB ?_),rfl⟩
 rotate_left
 refine⟨(sB ?_),rfl⟩
 rotate_left
 refine dsp (fun h5 p5=>?_) fun h5 p5=>?_
 refine⟨(Af Q2 Q2),(Cc _ _ _),(sB ?_),rfl⟩
 rotate_left
 refine⟨(sB ?_),rfl⟩
 rotate_left
 all_goals first|(simp[H5, *];done)|(simp_all[H5];done)|(simp_all[H5];omega)|(rw[Bool.eq_iff_iff];simp_all[H5];omega)
theorem Su (s:List Shp) (f:Fld) (hp1:s.length≤1000):Fun Tryz.prog 92 [.agg [.seq .shp s],.agg (Fv f)] [] (.v (vB (H5 f (s.length:Int)))) []:=by
 have hN:Bn=274877906944:=rfl
 refine Av Tryz.func92 Q4 Q4 (w:=let z1:=(s.length:Int);let z2:S:= .v (vB (Ai f.msg 0 (z1-1)));let z4:S:= .v (vB (H5 f z1));let z3:=Lf (.v (vB false)) z4 [] [];let z5:=Lf (.v (vB (decide (f.msg=(-1))))) z4 [] [];let z6:=Dd f.number;(.seg [.call [] (.v (vB z6)) []] (.br (.leaf () []) (.seg [.call [] (.v (vB (Dy f.kind))) []] (.br (.leaf () []) (.br (.br (.leaf () []) (.seg [.call [] (.v (vB (Cf f.kind))) []] (.br (.leaf () []) (.br (.seg [.as 38 (.v (vI (z1-1))),.call [] z2 []] (.leaf () [])) (.leaf () []))))) (.br (.seg [.as 38 (.v (vI (z1-1))),.call [] z2 []] (.leaf () [])) (.leaf () [])))))),(Fp 156 [vI f.number] [] (.v (vB z6)) [])∧Bc (!z6) z3 ((Fp 157 [vI f.kind] [] (.v (vB (Dy f.kind))) [])∧Bc (!(Dy f.kind)) z3 (Bc f.packed (Bc (!f.rep) z3 ((Fp 158 [vI f.kind] [] (.v (vB (Cf f.kind))) [])∧Bc (!(Cf f.kind)) z3 (Bc (decide (f.kind=8)) ((wI (z1-1))∧(Fp 44 [vI f.msg,vI 0,vI (z1-1)] [] z2 [])∧Lf z2 z4 [] []) z5))) (Bc (decide (f.kind=8)) ((wI (z1-1))∧(Fp 44 [vI f.msg,vI 0,vI (z1-1)] [] z2 [])∧Lf z2 z4 [] []) z5))))) Q4 ?_
 refine⟨(Xb _),fun h1=>have q1:=Aq h1;?_,fun h1=>have q1:=Ao h1;?_⟩
 refine⟨(sB ?_),rfl⟩
 rotate_left
 refine⟨(Ue _),fun h2=>have q2:=Aq h2;have p2:=A7 q2;?_,fun h2=>have q2:=Ao h2;have p2:=Aw q2;?_⟩
 refine⟨(sB ?_),rfl⟩
 rotate_left
 refine⟨fun h3=>?_,fun h3=>?_⟩
 refine⟨fun h4=>have q4:=Aq h4;?_,fun h4=>have q4:=Ao h4;?_⟩
 refine⟨(sB ?_),rfl⟩
 rotate_left
 refine⟨(Lq _),fun h5=>have q5:=Aq h5;have p5:=A7 q5;?_,fun h5=>have q5:=Ao h5;have p5:=Aw q5;?_⟩
 refine⟨(sB ?_),rfl⟩
 rotate_left
 refine dsp (fun h6 p6=>?_) fun h6 p6=>?_
 refine⟨(Af Q2 Q2),(Bw _ _ _),(sB ?_),rfl⟩
 rotate_left
 refine⟨(sB ?_),rfl⟩
 rotate_left
 refine dsp (fun h4 p4=>?_) fun h4 p4=>?_
 refine⟨(Af Q2 Q2),(Bw _ _ _),(sB ?_),rfl⟩
 rotate_left
 refine⟨(sB ?_),rfl⟩
 rotate_left
 all_goals first|(simp[H5, *];done)|(simp_all[H5];done)|(simp_all[H5];omega)|(rw[Bool.eq_iff_iff];simp_all[H5];omega)
structure G4 where
 id:Int
 v:Nat
def Jo (s:List Shp):Fam:=⟨G4,fun q1=>[(1,.v (vP 0)),(3,.v (vI q1.id)),(14,.v (.c (.seq .shp s))),(15,.v (vI (s.length:Int))),(16,.v (vI (q1.v:Int)))],fun _=>[.cells [.seq .shp s]],fun q1=>q1.v≤s.length∧D7 (s.length:Int) q1.id (List.drop q1.v s)=D7 (s.length:Int) 0 s,fun q1=>s.length-q1.v⟩
structure Jp where
 number:Int
 v:Nat
def G5 (s:List Shp) (q1:G4) (x1:Shp):Fam:=⟨Jp,fun q2=>[(1,.v (vP 0)),(5,.v (vP 1)),(6,.v (vI q2.number)),(14,.v (.c (.seq .shp s))),(15,.v (vI (s.length:Int))),(16,.v (vI (q1.v:Int))),(36,.v (.c (.seq .fld x1.fields))),(37,.v (vI (x1.fields.length:Int))),(38,.v (vI (q2.v:Int)))],fun _=>[.cells [.seq .shp s],.cells (Apj x1)],fun q2=>q2.v≤x1.fields.length∧Cz (s.length:Int) q2.number (List.drop q2.v x1.fields)=Cz (s.length:Int) 0 x1.fields,fun q2=>x1.fields.length-q2.v⟩
theorem Ady (s:List Shp):Fun Tryz.prog 96 [.agg [.seq .shp s]] [] (.v (vB (C3 s))) []:=by
 have hN:Bn=274877906944:=rfl
 refine Av Tryz.func96 Q4 Q4 (w:=let z7:=(s.length:Int);let z8:=Lf (.v (vB false)) (.v (vB (C3 s))) [] [];let z9:=Jo s;(.br (.leaf () []) (.seg [.at 0,.keep [1,3,14,15,16],.sel [0]] (.loop z9 fun q1=> .br (.intro (Sx (s[q1.v]?)) fun x1=> .seg [.el .shp x1] (.br (.leaf () []) (.br (.leaf () []) (.br (.leaf () []) (.seg [.at 0,.keep [1,5,6,14,15,16,36,37,38],.sel [0,1]] (.loop (G5 s q1 x1) fun q2=> .br (.intro (Sx (x1.fields[q2.v]?)) fun x2=> .seg [.el .fld x2,.call [] (.v (vB (decide (q2.number<(x2).number)&&H5 x2 z7))) []] (.br (.leaf () []) (.seg [.as 51 (.v (vI ((q2.v:Int)+1))),.at 0,.keep [1,5,6,14,15,16,36,37,38],.sel [0,1]] (.next)))) (.seg [.as 54 (.v (vI ((q1.v:Int)+1))),.at 0,.keep [1,3,14,15,16],.sel [0]] (.next)))))))) (.leaf () []))),Bc (decide (6<z7)) z8 (z9.Has [(1,.v (vP 0)),(3,.v (vI 0)),(14,.v (.c (.seq .shp s))),(15,.v (vI z7)),(16,.v (vI 0))] [.cells [.seq .shp s]]∧∀q1,z9.inv q1→(let z6:=(q1.v:Int);Bc (decide (z6<z7)) (El (s[q1.v]?) fun x1=>(let z3:=(x1.fields.length:Int);let z4:=G5 s q1 x1;let z5:List Blk:=[.cells [.seq .shp s],.cells (Apj x1)];(s[q1.v]? =some x1)∧((0:Int)≤z6)∧Bc (decide (x1.id≤q1.id)) z8 (Bc (decide (99<x1.id)) z8 (Bc (decide (8<z3)) z8 (z4.Has [(1,.v (vP 0)),(5,.v (vP 1)),(6,.v (vI 0)),(14,.v (.c (.seq .shp s))),(15,.v (vI z7)),(16,.v (vI z6)),(36,.v (.c (.seq .fld x1.fields))),(37,.v (vI z3)),(38,.v (vI 0))] z5∧∀q2,z4.inv q2→(let z2:=(q2.v:Int);Bc (decide (z2<z3)) (El (x1.fields[q2.v]?) fun x2=>(let z1:=decide (q2.number<(x2).number)&&H5 x2 z7;(x1.fields[q2.v]? =some x2)∧((0:Int)≤z2)∧(Fp 160 [.agg (Fv x2),vI q2.number,vI z7] [] (.v (vB z1)) [])∧Bc (!z1) z8 ((wI (z2+1))∧z4.Nxt q2 [(1,.v (vP 0)),(5,.v (vP 1)),(6,.v (vI x2.number)),(14,.v (.c (.seq .shp s))),(15,.v (vI z7)),(16,.v (vI z6)),(36,.v (.c (.seq .fld x1.fields))),(37,.v (vI z3)),(38,.v (vI (z2+1)))] z5))) ((wI (z6+1))∧z9.Nxt q1 [(1,.v (vP 0)),(3,.v (vI x1.id)),(14,.v (.c (.seq .shp s))),(15,.v (vI z7)),(16,.v (vI (z6+1)))] [.cells [.seq .shp s]]))))))) (Lf (.v (vB true)) (.v (vB (C3 s))) [] []))))) Q4 ?_
 refine dsp (fun h1 p1=>?_) fun h1 p1=>?_
 refine⟨(sB ?_),rfl⟩
 rotate_left
 refine⟨Cm (j:=(⟨0,0⟩:G4)) Q9 rfl (by dsimp only[Jo];exact⟨by omega,rfl⟩),fun (q1:G4) hq_q1=>?_⟩
 have hi_q1:q1.v≤s.length∧D7 (s.length:Int) q1.id (List.drop q1.v s)=D7 (s.length:Int) 0 s:=hq_q1
 obtain ⟨v1,v2⟩:=hi_q1
 refine dsp (fun h2 p2=>?_) fun h2 p2=>?_
 refine⟨(Bo (l:=s) (i:=q1.v) Q2),fun x1 hx1=>?_⟩
 rw[Ef hx1,D7] at v2
 refine⟨hx1,Q2,dsp (fun h3 p3=>?_) fun h3 p3=>?_⟩
 refine⟨(sB ?_),rfl⟩
 rotate_left
 refine dsp (fun h4 p4=>?_) fun h4 p4=>?_
 refine⟨(sB ?_),rfl⟩
 rotate_left
 refine dsp (fun h5 p5=>?_) fun h5 p5=>?_
 refine⟨(sB ?_),rfl⟩
 rotate_left
 refine⟨Cm (j:=(⟨0,0⟩:Jp)) Q9 rfl (by dsimp only[G5];exact⟨by omega,rfl⟩),fun (q2:Jp) hq_q2=>?_⟩
 have hi_q2:q2.v≤x1.fields.length∧Cz (s.length:Int) q2.number (List.drop q2.v x1.fields)=Cz (s.length:Int) 0 x1.fields:=hq_q2
 obtain ⟨w1,w2⟩:=hi_q2
 refine dsp (fun h6 p6=>?_) fun h6 p6=>?_
 refine⟨(Bo (l:=x1.fields) (i:=q2.v) Q2),fun x2 hx2=>?_⟩
 rw[Ef hx2,Cz] at w2
 refine⟨hx2,Q2,(Amx x2 _ _ Q2),fun h7=>have q7:=Aq h7;have p7:=(Db dT Iff.rfl).1 q7;?_,fun h7=>have q7:=Ao h7;have p7:=(Da dT Iff.rfl).1 q7;?_⟩
 refine⟨(sB ?_),rfl⟩
 rotate_left
 exact⟨(Af Q2 Q2),Be (j:=(⟨x2.number,q2.v+1⟩:Jp)) Q9 rfl (by dsimp only[G5];exact⟨by omega,by grind[Cz]⟩) (by dsimp only[G5];omega)⟩
 rw[Kt p6] at w2
 exact⟨(Af Q2 Q2),Be (j:=(⟨x1.id,q1.v+1⟩:G4)) Q9 rfl (by dsimp only[Jo];exact⟨by omega,by grind[D7,Cz]⟩) (by dsimp only[Jo];omega)⟩
 rw[Kt p2] at v2
 refine⟨(sB ?_),rfl⟩
 rotate_left
 all_goals grind[C3,D7,Cz]
structure Fz where
 i:Nat
 pv:Int
def G6 (s:List Shp):Fam:=⟨Fz,fun q1=>[(1,.v (vP 0)),(3,.v (vI (q1.i:Int)))],fun _=>[.cells [.seq .shp s]],fun q1=>q1.i≤s.length∧(0:Int)≤q1.pv∧(q1.i=0→q1.pv=0)∧(∀y,0<q1.i→s[Int.toNat ((q1.i:Int)-1)]? =some y→q1.pv=y.id)∧D7 (s.length:Int) q1.pv (List.drop q1.i s)=D7 (s.length:Int) 0 s,fun q1=>s.length-q1.i⟩
structure Di where
 k:Nat
 pv:Int
def C0 (s:List Shp) (q1:Fz) (x1:Shp):Fam:=⟨Di,fun q2=>[(1,.v (vP 0)),(3,.v (vI (q1.i:Int))),(4,.v (vP 1)),(5,.v (vI (q2.k:Int)))],fun _=>[.cells [.seq .shp s],.cells (Apj x1)],fun q2=>q2.k≤x1.fields.length∧(0:Int)≤q2.pv∧(q2.k=0→q2.pv=0)∧(∀y,0<q2.k→x1.fields[Int.toNat ((q2.k:Int)-1)]? =some y→q2.pv=y.number)∧Cz (s.length:Int) q2.pv (List.drop q2.k x1.fields)=Cz (s.length:Int) 0 x1.fields,fun q2=>x1.fields.length-q2.k⟩
theorem Adz (s:List Shp):Fun Tryz.prog 43 [.agg [.seq .shp s]] [] (.v (vB (C3 s))) []:=by
 have hN:Bn=274877906944:=rfl
 refine Av Tryz.func43 Q4 Q4 (w:=let z25:=(s.length:Int);let z26:S:= .v (vB (C3 s));let z27:S:= .v (vB false);let z24:=Lf z27 z26 [] [];let z28:=G6 s;let z29:=os 28 [6];(.br (.leaf () []) (.seg [.at 0,.keep [1,3],.sel [0]] (.loop z28 fun q1=>let z21:=(q1.i:Int);.br (.intro (Sx (s[q1.i]?)) fun x1=>let z15:S:= .v (vB (Ai x1.id 1 99));.seg [.el .shp x1] (.case (!(Ai x1.id 1 99)) (.seg [.ord (os 26 [2]) [],.call [] z15 [],.br true] (.leaf () [])) (.case (decide (0<z21)) (.intro (Sx (s[Int.toNat (z21-1)]?)) fun x2=> .case (decide (x1.id≤x2.id)) (.seg [.ord (os 26 [2]) [],.call [] z15 [],.br false,.br true,.as 33 (.v (vI (z21-1))),.el .shp x2,.br true] (.leaf () [])) (.seg [.ord (os 26 [2]) [],.call [] z15 [],.br false,.br true,.as 33 (.v (vI (z21-1))),.el .shp x2,.br false] (.br (.leaf () []) (.seg [.at 0,.keep [1,3,4,5],.sel [0,1]] (.loop (C0 s q1 x1) fun q2=>let z5:=(q2.k:Int);.br (.intro (Sx (x1.fields[q2.k]?)) fun x3=>let z2:=H5 x3 z25;.case (!z2) (.seg [.ord z29 [],.el .fld x3,.call [] (.v (vB z2)) [],.br true] (.leaf () [])) (.case (decide (0<z5)) (.intro (Sx (x1.fields[Int.toNat (z5-1)]?)) fun x4=> .seg [.ord z29 [],.el .fld x3,.call [] (.v (vB z2)) [],.br false,.br true,.as 70 (.v (vI (z5-1))),.el .fld x4,.el .fld x3] (.br (.leaf () []) (.seg [.as 54 (.v (vI (z5+1))),.at 0,.keep [1,3,4,5],.sel [0,1]] (.next)))) (.seg [.ord z29 [],.el .fld x3,.call [] (.v (vB z2)) [],.br false,.br false,.as 54 (.v (vI (z5+1))),.at 0,.keep [1,3,4,5],.sel [0,1]] (.next)))) (.seg [.as 16 (.v (vI (z21+1))),.at 0,.keep [1,3],.sel [0]] (.next))))))) (.seg [.ord (os 26 [2]) [],.call [] z15 [],.br false,.br false] (.br (.leaf () []) (.seg [.at 0,.keep [1,3,4,5],.sel [0,1]] (.loop (C0 s q1 x1) fun q2=>let z13:=(q2.k:Int);.br (.intro (Sx (x1.fields[q2.k]?)) fun x2=>let z10:=H5 x2 z25;.case (!z10) (.seg [.ord z29 [],.el .fld x2,.call [] (.v (vB z10)) [],.br true] (.leaf () [])) (.case (decide (0<z13)) (.intro (Sx (x1.fields[Int.toNat (z13-1)]?)) fun x3=> .seg [.ord z29 [],.el .fld x2,.call [] (.v (vB z10)) [],.br false,.br true,.as 70 (.v (vI (z13-1))),.el .fld x3,.el .fld x2] (.br (.leaf () []) (.seg [.as 54 (.v (vI (z13+1))),.at 0,.keep [1,3,4,5],.sel [0,1]] (.next)))) (.seg [.ord z29 [],.el .fld x2,.call [] (.v (vB z10)) [],.br false,.br false,.as 54 (.v (vI (z13+1))),.at 0,.keep [1,3,4,5],.sel [0,1]] (.next)))) (.seg [.as 16 (.v (vI (z21+1))),.at 0,.keep [1,3],.sel [0]] (.next))))))))) (.leaf () []))),Bc (decide (6<z25)) z24 (z28.Has [(1,.v (vP 0)),(3,.v (vI 0))] [.cells [.seq .shp s]]∧∀q1,z28.inv q1→(let z22:=(q1.i:Int);let z23:=(wI (z22+1))∧z28.Nxt q1 [(1,.v (vP 0)),(3,.v (vI (z22+1)))] [.cells [.seq .shp s]];Bc (decide (z22<z25)) (El (s[q1.i]?) fun x1=>(let z16:List Blk:=[.cells [.seq .shp s],.cells (Apj x1)];let z17:=C0 s q1 x1;let z18:=Ai x1.id 1 99;let z19:=(x1.fields.length:Int);let z20:List V:=[vI x1.id,vI 1,vI 99];(s[q1.i]? =some x1)∧((0:Int)≤z22)∧Bc (!z18) ((Fp 44 z20 [] (.v (vB z18)) [])∧((!z18)=true)∧Lf z27 z26 [] []) (Bc (decide (0<z22)) (El (s[Int.toNat (z22-1)]?) fun x2=>(let z7:=s[Int.toNat (z22-1)]? =some x2;let z8:=decide (x1.id≤x2.id);Bc z8 ((Fp 44 z20 [] (.v (vB z18)) [])∧((!z18)=false)∧((decide (0<z22))=true)∧(wI (z22-1))∧(wI (z22-1))∧z7∧((0:Int)≤z22-1)∧z7∧((0:Int)≤z22-1)∧(z8=true)∧Lf z27 z26 [] []) ((Fp 44 z20 [] (.v (vB z18)) [])∧((!z18)=false)∧((decide (0<z22))=true)∧(wI (z22-1))∧(wI (z22-1))∧z7∧((0:Int)≤z22-1)∧z7∧((0:Int)≤z22-1)∧(z8=false)∧Bc (decide (8<z19)) z24 (z17.Has [(1,.v (vP 0)),(3,.v (vI z22)),(4,.v (vP 1)),(5,.v (vI 0))] z16∧∀q2,z17.inv q2→(let z6:=(q2.k:Int);Bc (decide (z6<z19)) (El (x1.fields[q2.k]?) fun x3=>(let z3:=H5 x3 z25;let z4:=x1.fields[q2.k]? =some x3;Bc (!z3) (z4∧((0:Int)≤z6)∧z4∧((0:Int)≤z6)∧(Fp 92 [.agg [.seq .shp s],.agg (Fv x3)] [] (.v (vB z3)) [])∧((!z3)=true)∧Lf z27 z26 [] []) (Bc (decide (0<z6)) (El (x1.fields[Int.toNat (z6-1)]?) fun x4=>(let z1:=x1.fields[Int.toNat (z6-1)]? =some x4;z4∧((0:Int)≤z6)∧z4∧((0:Int)≤z6)∧(Fp 92 [.agg [.seq .shp s],.agg (Fv x3)] [] (.v (vB z3)) [])∧((!z3)=false)∧((decide (0<z6))=true)∧(wI (z6-1))∧(wI (z6-1))∧z1∧((0:Int)≤z6-1)∧z1∧((0:Int)≤z6-1)∧z4∧((0:Int)≤z6)∧z4∧((0:Int)≤z6)∧Bc (decide (x3.number≤x4.number)) z24 ((wI (z6+1))∧z17.Nxt q2 [(1,.v (vP 0)),(3,.v (vI z22)),(4,.v (vP 1)),(5,.v (vI (z6+1)))] z16))) (z4∧((0:Int)≤z6)∧z4∧((0:Int)≤z6)∧(Fp 92 [.agg [.seq .shp s],.agg (Fv x3)] [] (.v (vB z3)) [])∧((!z3)=false)∧((decide (0<z6))=false)∧(wI (z6+1))∧z17.Nxt q2 [(1,.v (vP 0)),(3,.v (vI z22)),(4,.v (vP 1)),(5,.v (vI (z6+1)))] z16)))) z23))))) ((Fp 44 z20 [] (.v (vB z18)) [])∧((!z18)=false)∧((decide (0<z22))=false)∧Bc (decide (8<z19)) z24 (z17.Has [(1,.v (vP 0)),(3,.v (vI z22)),(4,.v (vP 1)),(5,.v (vI 0))] z16∧∀q2,z17.inv q2→(let z14:=(q2.k:Int);Bc (decide (z14<z19)) (El (x1.fields[q2.k]?) fun x2=>(let z11:=H5 x2 z25;let z12:=x1.fields[q2.k]? =some x2;Bc (!z11) (z12∧((0:Int)≤z14)∧z12∧((0:Int)≤z14)∧(Fp 92 [.agg [.seq .shp s],.agg (Fv x2)] [] (.v (vB z11)) [])∧((!z11)=true)∧Lf z27 z26 [] []) (Bc (decide (0<z14)) (El (x1.fields[Int.toNat (z14-1)]?) fun x3=>(let z9:=x1.fields[Int.toNat (z14-1)]? =some x3;z12∧((0:Int)≤z14)∧z12∧((0:Int)≤z14)∧(Fp 92 [.agg [.seq .shp s],.agg (Fv x2)] [] (.v (vB z11)) [])∧((!z11)=false)∧((decide (0<z14))=true)∧(wI (z14-1))∧(wI (z14-1))∧z9∧((0:Int)≤z14-1)∧z9∧((0:Int)≤z14-1)∧z12∧((0:Int)≤z14)∧z12∧((0:Int)≤z14)∧Bc (decide (x2.number≤x3.number)) z24 ((wI (z14+1))∧z17.Nxt q2 [(1,.v (vP 0)),(3,.v (vI z22)),(4,.v (vP 1)),(5,.v (vI (z14+1)))] z16))) (z12∧((0:Int)≤z14)∧z12∧((0:Int)≤z14)∧(Fp 92 [.agg [.seq .shp s],.agg (Fv x2)] [] (.v (vB z11)) [])∧((!z11)=false)∧((decide (0<z14))=false)∧(wI (z14+1))∧z17.Nxt q2 [(1,.v (vP 0)),(3,.v (vI z22)),(4,.v (vP 1)),(5,.v (vI (z14+1)))] z16)))) z23)))))) (Lf (.v (vB true)) z26 [] []))))) Q4 ?_
 refine dsp (fun h1 p1=>?_) fun h1 p1=>?_
 exact⟨(congrArg S.v (congrArg V.c (congrArg C.bool Q45))),rfl⟩
 refine⟨Cm (j:=(⟨0,0⟩:Fz)) Q9 rfl (by dsimp only[G6];exact⟨by omega,by omega,by omega,by omega,rfl⟩),fun (q1:Fz) hq_q1=>?_⟩
 have hi_q1:q1.i≤s.length∧(0:Int)≤q1.pv∧(q1.i=0→q1.pv=0)∧(∀y,0<q1.i→s[Int.toNat ((q1.i:Int)-1)]? =some y→q1.pv=y.id)∧D7 (s.length:Int) q1.pv (List.drop q1.i s)=D7 (s.length:Int) 0 s:=hq_q1
 obtain ⟨v1,v2,v3,v4,v5⟩:=hi_q1
 refine dsp (fun h2 p2=>?_) fun h2 p2=>?_
 refine⟨(Bo (l:=s) (i:=q1.i) Q2),fun x1 hx1=>?_⟩
 rw[Ef hx1,D7] at v5
 refine⟨hx1,Q2,fun h3=>have q3:=Aq h3;have p3:=A7 q3;?_,fun h3=>have q3:=Ao h3;have p3:=Aw q3;?_⟩
 exact⟨(Bw _ _ _),h3,(congrArg S.v (congrArg V.c (congrArg C.bool Q45))),rfl⟩
 refine dsp (fun h4 p4=>?_) fun h4 p4=>?_
 refine⟨(Bo (l:=s) (i:=Int.toNat ((q1.i:Int)-1)) Q2),fun x2 hx2=>?_⟩
 have hy:=v4 _ (by omega) hx2
 refine dsp (fun h5 p5=>?_) fun h5 p5=>?_
 exact⟨(Bw _ _ _),h3,h4,(Af Q2 Q2),(Af Q2 Q2),hx2,Q2,hx2,Q2,h5,(congrArg S.v (congrArg V.c (congrArg C.bool Q45))),rfl⟩
 refine⟨(Bw _ _ _),h3,h4,(Af Q2 Q2),(Af Q2 Q2),hx2,Q2,hx2,Q2,h5,dsp (fun h6 p6=>?_) fun h6 p6=>?_⟩
 exact⟨(congrArg S.v (congrArg V.c (congrArg C.bool Q45))),rfl⟩
 refine⟨Cm (j:=(⟨0,0⟩:Di)) Q9 rfl (by dsimp only[C0];exact⟨by omega,by omega,by omega,by omega,rfl⟩),fun (q2:Di) hq_q2=>?_⟩
 have hi_q2:q2.k≤x1.fields.length∧(0:Int)≤q2.pv∧(q2.k=0→q2.pv=0)∧(∀y,0<q2.k→x1.fields[Int.toNat ((q2.k:Int)-1)]? =some y→q2.pv=y.number)∧Cz (s.length:Int) q2.pv (List.drop q2.k x1.fields)=Cz (s.length:Int) 0 x1.fields:=hq_q2
 obtain ⟨w1,w2,w3,w4,w5⟩:=hi_q2
 refine dsp (fun h7 p7=>?_) fun h7 p7=>?_
 refine⟨(Bo (l:=x1.fields) (i:=q2.k) Q2),fun x3 hx3=>?_⟩
 rw[Ef hx3,Cz] at w5
 refine⟨fun h8=>have q8:=Aq h8;?_,fun h8=>have q8:=Ao h8;have p8:=Yf q8;?_⟩
 exact⟨hx3,Q2,hx3,Q2,(Su s x3 Q2),h8,(congrArg S.v (congrArg V.c (congrArg C.bool Q45))),rfl⟩
 refine dsp (fun h9 p9=>?_) fun h9 p9=>?_
 refine⟨(Bo (l:=x1.fields) (i:=Int.toNat ((q2.k:Int)-1)) Q2),fun x4 hx4=>?_⟩
 have hz:=w4 _ (by omega) hx4
 refine⟨hx3,Q2,hx3,Q2,(Su s x3 Q2),h8,h9,(Af Q2 Q2),(Af Q2 Q2),hx4,Q2,hx4,Q2,hx3,Q2,hx3,Q2,dsp (fun h10 p10=>?_) fun h10 p10=>?_⟩
 exact⟨(congrArg S.v (congrArg V.c (congrArg C.bool Q45))),rfl⟩
 exact⟨(Af Q2 Q2),Be (j:=(⟨q2.k+1,x3.number⟩:Di)) Q9 rfl Q41 (by dsimp only[C0];omega)⟩
 exact⟨hx3,Q2,hx3,Q2,(Su s x3 Q2),h8,h9,(Af Q2 Q2),Be (j:=(⟨q2.k+1,x3.number⟩:Di)) Q9 rfl Q41 (by dsimp only[C0];omega)⟩
 rw[Kt p7,Cz] at w5
 exact⟨(Af Q2 Q2),Be (j:=(⟨q1.i+1,x1.id⟩:Fz)) Q9 rfl Q35 (by dsimp only[G6];omega)⟩
 refine⟨(Bw _ _ _),h3,h4,dsp (fun h5 p5=>?_) fun h5 p5=>?_⟩
 exact⟨(congrArg S.v (congrArg V.c (congrArg C.bool Q45))),rfl⟩
 refine⟨Cm (j:=(⟨0,0⟩:Di)) Q9 rfl (by dsimp only[C0];exact⟨by omega,by omega,by omega,by omega,rfl⟩),fun (q2:Di) hq_q2=>?_⟩
 have hi_q2:q2.k≤x1.fields.length∧(0:Int)≤q2.pv∧(q2.k=0→q2.pv=0)∧(∀y,0<q2.k→x1.fields[Int.toNat ((q2.k:Int)-1)]? =some y→q2.pv=y.number)∧Cz (s.length:Int) q2.pv (List.drop q2.k x1.fields)=Cz (s.length:Int) 0 x1.fields:=hq_q2
 obtain ⟨w1,w2,w3,w4,w5⟩:=hi_q2
 refine dsp (fun h6 p6=>?_) fun h6 p6=>?_
 refine⟨(Bo (l:=x1.fields) (i:=q2.k) Q2),fun x2 hx2=>?_⟩
 rw[Ef hx2,Cz] at w5
 refine⟨fun h7=>have q7:=Aq h7;?_,fun h7=>have q7:=Ao h7;have p7:=Yf q7;?_⟩
 exact⟨hx2,Q2,hx2,Q2,(Su s x2 Q2),h7,(congrArg S.v (congrArg V.c (congrArg C.bool Q45))),rfl⟩
 refine dsp (fun h8 p8=>?_) fun h8 p8=>?_
 refine⟨(Bo (l:=x1.fields) (i:=Int.toNat ((q2.k:Int)-1)) Q2),fun x3 hx3=>?_⟩
 have hz:=w4 _ (by omega) hx3
 refine⟨hx2,Q2,hx2,Q2,(Su s x2 Q2),h7,h8,(Af Q2 Q2),(Af Q2 Q2),hx3,Q2,hx3,Q2,hx2,Q2,hx2,Q2,dsp (fun h9 p9=>?_) fun h9 p9=>?_⟩
 exact⟨(congrArg S.v (congrArg V.c (congrArg C.bool Q45))),rfl⟩
 exact⟨(Af Q2 Q2),Be (j:=(⟨q2.k+1,x2.number⟩:Di)) Q9 rfl Q42 (by dsimp only[C0];omega)⟩
 exact⟨hx2,Q2,hx2,Q2,(Su s x2 Q2),h7,h8,(Af Q2 Q2),Be (j:=(⟨q2.k+1,x2.number⟩:Di)) Q9 rfl Q42 (by dsimp only[C0];omega)⟩
 rw[Kt p6,Cz] at w5
 exact⟨(Af Q2 Q2),Be (j:=(⟨q1.i+1,x1.id⟩:Fz)) Q9 rfl Q35 (by dsimp only[G6];omega)⟩
 rw[Kt p2,D7] at v5
 exact⟨(congrArg S.v (congrArg V.c (congrArg C.bool Q45))),rfl⟩
structure Kz where
 v:Nat
def H7 (n:Int) (x1:Shp):Fam:=⟨Kz,fun q1=>[(2,.v (vI n)),(6,.v (vP 0)),(23,.v (.c (.seq .fld x1.fields))),(24,.v (vI (x1.fields.length:Int))),(25,.v (vI (q1.v:Int)))],fun _=>[.cells [.int .i64 0,.int .i64 0,.bool false,.bool false,.int .i64 0]],fun q1=>q1.v≤x1.fields.length∧Gi (List.drop q1.v x1.fields) n=Gi x1.fields n,fun q1=>x1.fields.length-q1.v⟩
theorem Vm (s:List Shp) (sh:Int) (n:Int) (hp1:s.length≤1000) (hp2: ∀x∈s,x.fields.length≤1000):Fun Tryz.prog 165 [.agg [.seq .shp s],vI sh,vI n] [] (.tup [.agg (Fv ((fieldAt s sh n).getD fld0)),vB (fieldAt s sh n).isSome]) []:=by
 have hN:Bn=274877906944:=rfl
 refine Av Tryz.func165 Q4 Q4 (w:=let z4:List C:=[.int .i64 0,.int .i64 0,.bool false,.bool false,.int .i64 0];let z5:=(s.length:Int)-1;let z6:S:= .tup [.agg (Fv ((fieldAt s sh n).getD fld0)),vB (fieldAt s sh n).isSome];let z7:=Lf (.tup [.agg z4,vB false]) z6 [] [];(.seg [.as 14 (.v (vI z5)),.call [] (.v (vB (Ai sh 0 z5))) []] (.br (.leaf () []) (.intro (Sx (s[sh.toNat]?)) fun x1=> .seg [.el .shp x1,.at 0,.keep [2,6,23,24,25],.sel [1]] (.loop (H7 n x1) fun q1=> .br (.intro (Sx (x1.fields[q1.v]?)) fun x2=> .seg [.el .fld x2] (.br (.leaf () []) (.seg [.as 34 (.v (vI ((q1.v:Int)+1))),.at 0,.keep [2,6,23,24,25],.sel [0]] (.next)))) (.leaf () [])))),(wI z5)∧(Fp 97 [vI sh,vI 0,vI z5] [] (.v (vB (Ai sh 0 z5))) [])∧Bc (!(Ai sh 0 z5)) z7 (El (s[sh.toNat]?) fun x1=>(let z2:=(x1.fields.length:Int);let z3:=H7 n x1;(s[sh.toNat]? =some x1)∧((0:Int)≤sh)∧z3.Has [(2,.v (vI n)),(6,.v (vP 0)),(23,.v (.c (.seq .fld x1.fields))),(24,.v (vI z2)),(25,.v (vI 0))] [.cells z4]∧∀q1,z3.inv q1→(let z1:=(q1.v:Int);Bc (decide (z1<z2)) (El (x1.fields[q1.v]?) fun x2=>((x1.fields[q1.v]? =some x2)∧((0:Int)≤z1)∧Bc (decide (x2.number=n)) (Lf (.tup [.agg (Fv x2),vB true]) z6 [] []) ((wI (z1+1))∧z3.Nxt q1 [(2,.v (vI n)),(6,.v (vP 0)),(23,.v (.c (.seq .fld x1.fields))),(24,.v (vI z2)),(25,.v (vI (z1+1)))] [.cells z4]))) z7))))) Q4 ?_
 refine⟨(Af Q2 Q2),(Cc _ _ _),fun h1=>have q1:=Aq h1;have p1:=A7 q1;?_,fun h1=>have q1:=Ao h1;have p1:=Aw q1;?_⟩
 refine zE ((fieldAt s sh n).getD fld0) (⟨0,0,false,false,0⟩:Fld) (fun hm1=>⟨(congrArg S.tup (Ac (congrArg V.agg (Ac (congrArg (C.int .i64) ?_) (Ac (congrArg (C.int .i64) ?_) (Ac (congrArg C.bool ?_) (Ac (congrArg C.bool ?_) (Ac (congrArg (C.int .i64) ?_) rfl)))))) (Ac (congrArg V.c (congrArg C.bool ?_)) rfl))),rfl⟩) ?_
 rotate_left 7
 have q1_:=q1
 refine⟨(Bo (l:=s) (i:=sh.toNat) Q2),fun x1 hx1=>?_⟩
 have hfa:=W4 (n:=n) q1_ hx1
 have hfl:=hp2 x1 (List.mem_of_getElem? hx1)
 refine⟨hx1,Q2,Cm (j:=(⟨0⟩:Kz)) Q9 rfl (by dsimp only[H7];exact⟨by omega,by simp⟩),fun (q1:Kz) hq_q1=>?_⟩
 have hi_q1:q1.v≤x1.fields.length∧Gi (List.drop q1.v x1.fields) n=Gi x1.fields n:=hq_q1
 obtain ⟨v1,v2⟩:=hi_q1
 refine dsp (fun h2 p2=>?_) fun h2 p2=>?_
 refine⟨(Bo (l:=x1.fields) (i:=q1.v) Q2),fun x2 hx2=>?_⟩
 rw[Ef hx2,Tu] at v2
 refine⟨hx2,Q2,dsp (fun h3 p3=>?_) fun h3 p3=>?_⟩
 refine zE ((fieldAt s sh n).getD fld0) x2 (fun hm1=>⟨(congrArg S.tup (Ac (congrArg V.agg (Ac (congrArg (C.int .i64) ?_) (Ac (congrArg (C.int .i64) ?_) (Ac (congrArg C.bool ?_) (Ac (congrArg C.bool ?_) (Ac (congrArg (C.int .i64) ?_) rfl)))))) (Ac (congrArg V.c (congrArg C.bool ?_)) rfl))),rfl⟩) ?_
 rotate_left 7
 exact⟨(Af Q2 Q2),Be (j:=(⟨q1.v+1⟩:Kz)) Q9 rfl (by dsimp only[H7];exact⟨by omega,by grind⟩) (by dsimp only[H7];omega)⟩
 rw[Kt p2] at v2
 refine zE ((fieldAt s sh n).getD fld0) (⟨0,0,false,false,0⟩:Fld) (fun hm1=>⟨(congrArg S.tup (Ac (congrArg V.agg (Ac (congrArg (C.int .i64) ?_) (Ac (congrArg (C.int .i64) ?_) (Ac (congrArg C.bool ?_) (Ac (congrArg C.bool ?_) (Ac (congrArg (C.int .i64) ?_) rfl)))))) (Ac (congrArg V.c (congrArg C.bool ?_)) rfl))),rfl⟩) ?_
 rotate_left 7
 all_goals grind[fieldAt,fld0,Gi]
structure K0 where
 i:Nat
def H8 (n:Int) (x1:Shp):Fam:=⟨K0,fun q1=>[(2,.v (vI n)),(6,.v (vP 0)),(8,.v (.c (.seq .fld x1.fields))),(9,.v (vI (q1.i:Int)))],fun _=>[.cells [.int .i64 0,.int .i64 0,.bool false,.bool false,.int .i64 0]],fun q1=>q1.i≤x1.fields.length∧Gi (List.drop q1.i x1.fields) n=Gi x1.fields n,fun q1=>x1.fields.length-q1.i⟩
theorem Agn (s:List Shp) (sh:Int) (n:Int) (hp1:s.length≤1000) (hp2: ∀x∈s,x.fields.length≤1000):Fun Tryz.prog 188 [.agg [.seq .shp s],vI sh,vI n] [] (.tup [.agg (Fv ((fieldAt s sh n).getD fld0)),vB (fieldAt s sh n).isSome]) []:=by
 have hN:Bn=274877906944:=rfl
 refine Av Tryz.func188 Q4 Q4 (w:=let z3:List C:=[.int .i64 0,.int .i64 0,.bool false,.bool false,.int .i64 0];let z4:=(s.length:Int)-1;let z5:S:= .tup [.agg (Fv ((fieldAt s sh n).getD fld0)),vB (fieldAt s sh n).isSome];let z6:=Lf (.tup [.agg z3,vB false]) z5 [] [];(.seg [.as 14 (.v (vI z4)),.call [] (.v (vB (Ai sh 0 z4))) []] (.br (.leaf () []) (.intro (Sx (s[sh.toNat]?)) fun x1=> .seg [.el .shp x1,.at 0,.keep [2,6,8,9],.sel [1]] (.loop (H8 n x1) fun q1=> .br (.intro (Sx (x1.fields[q1.i]?)) fun x2=> .seg [.el .fld x2] (.br (.seg [.el .fld x2] (.leaf () [])) (.seg [.as 29 (.v (vI ((q1.i:Int)+1))),.at 0,.keep [2,6,8,9],.sel [0]] (.next)))) (.leaf () [])))),(wI z4)∧(Fp 44 [vI sh,vI 0,vI z4] [] (.v (vB (Ai sh 0 z4))) [])∧Bc (!(Ai sh 0 z4)) z6 (El (s[sh.toNat]?) fun x1=>(let z2:=H8 n x1;(s[sh.toNat]? =some x1)∧((0:Int)≤sh)∧z2.Has [(2,.v (vI n)),(6,.v (vP 0)),(8,.v (.c (.seq .fld x1.fields))),(9,.v (vI 0))] [.cells z3]∧∀q1,z2.inv q1→(let z1:=(q1.i:Int);Bc (decide (z1<(x1.fields.length:Int))) (El (x1.fields[q1.i]?) fun x2=>((x1.fields[q1.i]? =some x2)∧((0:Int)≤z1)∧Bc (decide (x2.number=n)) ((x1.fields[q1.i]? =some x2)∧((0:Int)≤z1)∧Lf (.tup [.agg (Fv x2),vB true]) z5 [] []) ((wI (z1+1))∧z2.Nxt q1 [(2,.v (vI n)),(6,.v (vP 0)),(8,.v (.c (.seq .fld x1.fields))),(9,.v (vI (z1+1)))] [.cells z3]))) z6))))) Q4 ?_
 refine⟨(Af Q2 Q2),(Bw _ _ _),fun h1=>have q1:=Aq h1;have p1:=A7 q1;?_,fun h1=>have q1:=Ao h1;have p1:=Aw q1;?_⟩
 refine zE ((fieldAt s sh n).getD fld0) (⟨0,0,false,false,0⟩:Fld) (fun hm1=>⟨(congrArg S.tup (Ac (congrArg V.agg (Ac (congrArg (C.int .i64) ?_) (Ac (congrArg (C.int .i64) ?_) (Ac (congrArg C.bool ?_) (Ac (congrArg C.bool ?_) (Ac (congrArg (C.int .i64) ?_) rfl)))))) (Ac (congrArg V.c (congrArg C.bool ?_)) rfl))),rfl⟩) ?_
 rotate_left 7
 have q1_:=q1
 refine⟨(Bo (l:=s) (i:=sh.toNat) Q2),fun x1 hx1=>?_⟩
 have hfa:=W4 (n:=n) q1_ hx1
 have hfl:=hp2 x1 (List.mem_of_getElem? hx1)
 refine⟨hx1,Q2,Cm (j:=(⟨0⟩:K0)) Q9 rfl (by dsimp only[H8];exact⟨by omega,by simp⟩),fun (q1:K0) hq_q1=>?_⟩
 have hi_q1:q1.i≤x1.fields.length∧Gi (List.drop q1.i x1.fields) n=Gi x1.fields n:=hq_q1
 obtain ⟨v1,v2⟩:=hi_q1
 refine dsp (fun h2 p2=>?_) fun h2 p2=>?_
 refine⟨(Bo (l:=x1.fields) (i:=q1.i) Q2),fun x2 hx2=>?_⟩
 rw[Ef hx2,Tu] at v2
 refine⟨hx2,Q2,dsp (fun h3 p3=>?_) fun h3 p3=>?_⟩
 refine zE ((fieldAt s sh n).getD fld0) x2 (fun hm1=>⟨hx2,Q2,(congrArg S.tup (Ac (congrArg V.agg (Ac (congrArg (C.int .i64) ?_) (Ac (congrArg (C.int .i64) ?_) (Ac (congrArg C.bool ?_) (Ac (congrArg C.bool ?_) (Ac (congrArg (C.int .i64) ?_) rfl)))))) (Ac (congrArg V.c (congrArg C.bool ?_)) rfl))),rfl⟩) ?_
 rotate_left 7
 exact⟨(Af Q2 Q2),Be (j:=(⟨q1.i+1⟩:K0)) Q9 rfl (by dsimp only[H8];exact⟨by omega,by grind⟩) (by dsimp only[H8];omega)⟩
 rw[Kt p2] at v2
 refine zE ((fieldAt s sh n).getD fld0) (⟨0,0,false,false,0⟩:Fld) (fun hm1=>⟨(congrArg S.tup (Ac (congrArg V.agg (Ac (congrArg (C.int .i64) ?_) (Ac (congrArg (C.int .i64) ?_) (Ac (congrArg C.bool ?_) (Ac (congrArg C.bool ?_) (Ac (congrArg (C.int .i64) ?_) rfl)))))) (Ac (congrArg V.c (congrArg C.bool ?_)) rfl))),rfl⟩) ?_
 rotate_left 7
 all_goals grind[fieldAt,fld0,Gi]
theorem Acn (p:Pln):Fun Tryz.prog 46 [.agg (Gw p)] [] (.v (vB (B1 p))) []:=by
 have hN:Bn=274877906944:=rfl
 refine Av Tryz.func46 Q4 Q4 (w:=let z1:=(p.shapes.length:Int)-1;let z2:=Lf (.v (vB false)) (.v (vB (B1 p))) [] [];let z3:S:= .v (vB (Ai p.most 0 2000));let z4:=Ai p.root 0 z1;let z5:=C3 p.shapes;let z6:=Ai p.deep 1 8;(.seg [.call [] (.v (vB z5)) []] (.br (.seg [.as 13 (.v (vI z1)),.call [] (.v (vB z4)) []] (.br (.seg [.call [] (.v (vB z6)) []] (.br (.seg [.call [] z3 []] (.leaf () [])) (.leaf () []))) (.leaf () []))) (.leaf () [])),(Fp 96 [.agg [.seq .shp p.shapes]] [] (.v (vB z5)) [])∧Bc z5 ((wI z1)∧(Fp 97 [vI p.root,vI 0,vI z1] [] (.v (vB z4)) [])∧Bc z4 ((Fp 97 [vI p.deep,vI 1,vI 8] [] (.v (vB z6)) [])∧Bc z6 ((Fp 97 [vI p.most,vI 0,vI 2000] [] z3 [])∧Lf z3 (.v (vB (B1 p))) [] []) z2) z2) z2)) Q4 ?_
 refine⟨(Ady p.shapes),fun h1=>have p1:=So h1;?_,fun h1=>?_⟩
 refine⟨(Af Q2 Q2),(Cc _ _ _),fun h2=>have p2:=Aw h2;?_,fun h2=>have p2:=A7 h2;?_⟩
 refine⟨(Cc _ _ _),fun h3=>have p3:=Aw h3;?_,fun h3=>have p3:=A7 h3;?_⟩
 exact⟨(Cc _ _ _),(congrArg S.v (congrArg V.c (congrArg C.bool Q57))),rfl⟩
 exact⟨(congrArg S.v (congrArg V.c (congrArg C.bool Q57))),rfl⟩
 exact⟨(congrArg S.v (congrArg V.c (congrArg C.bool Q57))),rfl⟩
 exact⟨(congrArg S.v (congrArg V.c (congrArg C.bool Q57))),rfl⟩
theorem Ug (p:Pln):Fun Tryz.prog 13 [.agg (Gw p)] [] (.v (vB (B1 p))) []:=by
 have hN:Bn=274877906944:=rfl
 refine Av Tryz.func13 Q4 Q4 (w:=let z1:=(p.shapes.length:Int)-1;let z2:=Lf (.v (vB false)) (.v (vB (B1 p))) [] [];let z3:S:= .v (vB (Ai p.most 0 2000));let z4:=Ai p.root 0 z1;let z5:=C3 p.shapes;let z6:=Ai p.deep 1 8;(.seg [.call [] (.v (vB z5)) []] (.br (.seg [.as 13 (.v (vI z1)),.call [] (.v (vB z4)) []] (.br (.seg [.call [] (.v (vB z6)) []] (.br (.seg [.call [] z3 []] (.leaf () [])) (.leaf () []))) (.leaf () []))) (.leaf () [])),(Fp 43 [.agg [.seq .shp p.shapes]] [] (.v (vB z5)) [])∧Bc z5 ((wI z1)∧(Fp 44 [vI p.root,vI 0,vI z1] [] (.v (vB z4)) [])∧Bc z4 ((Fp 44 [vI p.deep,vI 1,vI 8] [] (.v (vB z6)) [])∧Bc z6 ((Fp 44 [vI p.most,vI 0,vI 2000] [] z3 [])∧Lf z3 (.v (vB (B1 p))) [] []) z2) z2) z2)) Q4 ?_
 refine⟨(Adz p.shapes),fun h1=>have p1:=So h1;?_,fun h1=>?_⟩
 refine⟨(Af Q2 Q2),(Bw _ _ _),fun h2=>have p2:=Aw h2;?_,fun h2=>have p2:=A7 h2;?_⟩
 refine⟨(Bw _ _ _),fun h3=>have p3:=Aw h3;?_,fun h3=>have p3:=A7 h3;?_⟩
 exact⟨(Bw _ _ _),(congrArg S.v (congrArg V.c (congrArg C.bool Q57))),rfl⟩
 exact⟨(congrArg S.v (congrArg V.c (congrArg C.bool Q57))),rfl⟩
 exact⟨(congrArg S.v (congrArg V.c (congrArg C.bool Q57))),rfl⟩
 exact⟨(congrArg S.v (congrArg V.c (congrArg C.bool Q57))),rfl⟩
theorem Ad0 (k:Int):Fun Tryz.prog 168 [vI k] [] (.v (vB (Fx k))) []:=by
 have hN:Bn=274877906944:=rfl
 refine Av Tryz.func168 Q4 Q4 (w:=let z1:=Lf (.v (vB true)) (.v (vB (Fx k))) [] [];(.br (.leaf () []) (.br (.leaf () []) (.leaf () [])),Bc (decide (k=2)) z1 (Bc (decide (k=3)) z1 (Lf (.v (vB (decide (k=6)))) (.v (vB (Fx k))) [] [])))) Q4 ?_
 refine dsp (fun h1 p1=>?_) fun h1 p1=>?_
 exact⟨(congrArg S.v (congrArg V.c (congrArg C.bool (by grind[Fx])))),rfl⟩
 refine dsp (fun h2 p2=>?_) fun h2 p2=>?_
 exact⟨(congrArg S.v (congrArg V.c (congrArg C.bool (by grind[Fx])))),rfl⟩
 exact⟨(congrArg S.v (congrArg V.c (congrArg C.bool (by grind[Fx])))),rfl⟩
theorem D0 (d:Dcd) (hp1:List.length (d).stack≤Bn):Fun Tryz.prog 108 [.agg (C4 d)] [] (.v (vI (Ec d))) []:=by
 have hN:Bn=274877906944:=rfl
 refine Av Tryz.func108 Q4 Q4 (w:=let z1:=((List.length d.stack:Nat):Int);(.br (.leaf () []) (.seg [.as 12 (.v (vI (z1-1)))] (.intro (Sx (d.stack[Int.toNat (z1-1)]?)) fun x1=> .seg [.el .lev x1] (.leaf () []))),Bc (decide (z1=0)) (Lf (.v (vI 0)) (.v (vI (Ec d))) [] []) ((wI (z1-1))∧El (d.stack[Int.toNat (z1-1)]?) fun x1=>((d.stack[Int.toNat (z1-1)]? =some x1)∧((0:Int)≤z1-1)∧Lf (.v (vI x1.left)) (.v (vI (Ec d))) [] [])))) Q4 ?_
 refine dsp (fun h1 p1=>?_) fun h1 p1=>?_
 refine⟨(sI ?_),rfl⟩
 rotate_left
 refine⟨(Af Q2 Q2),(Bo (l:=d.stack) (i:=Int.toNat (((List.length d.stack:Nat):Int)-1)) Q2),fun x1 hx1=>?_⟩
 have htop:Ec d=x1.left:=by unfold Ec;rw[U9 (by rw[←hx1];congr 1;omega)]
 refine⟨hx1,Q2,(sI ?_),rfl⟩
 rotate_left
 all_goals first|(exact htop.symm)|((unfold Ec;rw[List.eq_nil_of_length_eq_zero (by omega:List.length d.stack=0)];rfl))|(grind)
theorem Ago (p:Pln) (k:Int) (hp1:List.length (p).shapes≤Bn):Fun Tryz.prog 211 [.agg (Gw p),vI k] [] (.v (vB (Ai k 0 (((List.length (p).shapes:Nat):Int)-1)))) []:=by
 have hN:Bn=274877906944:=rfl
 refine Av Tryz.func211 Q4 Q4 (w:=let z1:=((List.length p.shapes:Nat):Int)-1;let z2:S:= .v (vB (Ai k 0 z1));(.seg [.as 10 (.v (vI z1)),.call [] z2 []] (.leaf () []),(wI z1)∧(Fp 97 [vI k,vI 0,vI z1] [] z2 [])∧Lf z2 (.v (vB (Ai k 0 (((List.length (p).shapes:Nat):Int)-1)))) [] [])) Q4 ?_
 exact⟨(Af Q2 Q2),(Cc _ _ _),(congrArg S.v (congrArg V.c (congrArg C.bool (by rfl)))),rfl⟩
theorem Agp (p:Pln) (l:Lev) (hp1:List.length (p).shapes≤Bn):Fun Tryz.prog 164 [.agg (Gw p),.agg (Apk l)] [] (.v (vB (Hn ((List.length (p).shapes:Nat):Int) l))) []:=by
 have hN:Bn=274877906944:=rfl
 refine Av Tryz.func164 Q4 Q4 (w:=let z1:=((List.length (p).shapes:Nat):Int);let z2:S:= .v (vB (Ai l.left 0 2000));let z3:=Ai l.msg 0 (z1-1);(.seg [.call [] (.v (vB z3)) []] (.br (.seg [.call [] z2 []] (.leaf () [])) (.leaf () [])),(Fp 211 [.agg (Gw p),vI l.msg] [] (.v (vB z3)) [])∧Bc z3 ((Fp 97 [vI l.left,vI 0,vI 2000] [] z2 [])∧Lf z2 (.v (vB (Hn z1 l))) [] []) (Lf (.v (vB false)) (.v (vB (Hn z1 l))) [] []))) Q4 ?_
 refine⟨(Ago p _ Q2),fun h1=>have p1:=Aw h1;?_,fun h1=>have p1:=A7 h1;?_⟩
 refine⟨(Cc _ _ _),(sB ?_),rfl⟩
 rotate_left
 refine⟨(sB ?_),rfl⟩
 rotate_left
 all_goals first|(simp[Hn, *];done)|(simp_all[Hn];done)|(grind[Hn])
theorem Ai4 (l:Lev) (d:Dcd) (hp1:List.length (d).plan.shapes≤Bn):Fun Tryz.prog 163 [.agg (Apk l),vP 0] [.cells (C4 d)] (.v (vB (!Hn ((List.length (d).plan.shapes:Nat):Int) l))) [.cells (C4 d)]:=by
 have hN:Bn=274877906944:=rfl
 refine Av Tryz.func163 Q4 Q4 (w:=let z1:=Hn ((List.length (d.plan).shapes:Nat):Int) l;(.seg [.call [] (.v (vB z1)) []] (.leaf () [0]),(Fp 164 [.agg (Gw d.plan),.agg (Apk l)] [] (.v (vB z1)) [])∧Lf (.v (vB (!z1))) (.v (vB (!Hn ((List.length (d).plan.shapes:Nat):Int) l))) [.cells (C4 d)] [.cells (C4 d)])) Q4 ?_
 exact⟨(Agp d.plan l Q2),(congrArg S.v (congrArg V.c (congrArg C.bool (by rfl)))),rfl⟩
structure Rv where
 v:Nat
def Rw (s:List Lev) (d:Dcd):Fam:=⟨Rv,fun q1=>[(0,.v (.c (.seq .lev s))),(1,.v (.c (.fn 163 [0]))),(7,.v (vI ((List.length s:Nat):Int))),(8,.v (vI ((q1.v:Nat):Int)))],fun _=>[.cells (C4 d)],fun q1=>q1.v≤List.length s∧Af8 (List.length d.plan.shapes:Int) (List.drop q1.v s)+q1.v=Af8 (List.length d.plan.shapes:Int) s,fun q1=>List.length s-q1.v⟩
theorem Aom (s:List Lev) (d:Dcd) (hp1:List.length (d).plan.shapes≤Bn) (hp2:List.length s≤Bn):Fun Tryz.prog 210 [.c (.seq .lev s),.c (.fn 163 [0])] [.cells (C4 d)] (.v (vI (Kv ((List.length (d).plan.shapes:Nat):Int) s))) [.cells (C4 d)]:=by
 have hN:Bn=274877906944:=rfl
 refine Av Tryz.func210 Q4 Q4 (w:=let z3:=((List.length (d).plan.shapes:Nat):Int);let z4:List Blk:=[.cells (C4 d)];let z5:=((List.length s:Nat):Int);let z6:=Rw s d;(.seg [.at 0,.keep [0,1,7,8],.sel [0]] (.loop z6 fun q1=> .br (.intro (Sx (s[q1.v]?)) fun x1=> .seg [.el .lev x1,.call [0] (.v (vB (!Hn z3 x1))) z4] (.br (.leaf () [0]) (.seg [.as 18 (.v (vI (((q1.v:Nat):Int)+1))),.at 0,.keep [0,1,7,8],.sel [0]] (.next)))) (.leaf () [0])),z6.Has [(0,.v (.c (.seq .lev s))),(1,.v (.c (.fn 163 [0]))),(7,.v (vI z5)),(8,.v (vI 0))] z4∧∀q1,z6.inv q1→(let z2:=((q1.v:Nat):Int);Bc (decide (z2<z5)) (El (s[q1.v]?) fun x1=>(let z1:= !Hn z3 x1;(s[q1.v]? =some x1)∧((0:Int)≤z2)∧(Fp 163 [.agg (Apk x1),vP 0] z4 (.v (vB z1)) z4)∧Bc z1 (Lf (.v (vI z2)) (.v (vI (Kv z3 s))) z4 z4) ((wI (z2+1))∧z6.Nxt q1 [(0,.v (.c (.seq .lev s))),(1,.v (.c (.fn 163 [0]))),(7,.v (vI z5)),(8,.v (vI (z2+1)))] z4))) (Lf (.v (vI (-1))) (.v (vI (Kv z3 s))) z4 z4)))) Q4 ?_
 refine⟨Cm (j:=(⟨0⟩:Rv)) Q9 rfl (by dsimp only[Rw];exact⟨by omega,rfl⟩),fun (q1:Rv) hq_q1=>?_⟩
 have hi_q1:q1.v≤List.length s∧Af8 (List.length d.plan.shapes:Int) (List.drop q1.v s)+q1.v=Af8 (List.length d.plan.shapes:Int) s:=hq_q1
 obtain ⟨v1,v3⟩:=hi_q1
 refine dsp (fun h1 p1=>?_) fun h1 p1=>?_
 refine⟨(Bo (l:=s) (i:=q1.v) Q2),fun x1 hx1=>?_⟩
 rw[Ef hx1,Zr] at v3
 have hll:=congrArg List.length (Ef hx1)
 rw[List.length_drop,List.length_cons,List.length_drop] at hll
 refine⟨hx1,Q2,(Ai4 x1 d Q2),fun h2=>have q2:=Aq h2;?_,fun h2=>have q2:=Ao h2;?_⟩
 rw[if_neg (by simp[q2])] at v3
 have hbl:Kv (List.length d.plan.shapes:Int) s=q1.v:=by unfold Kv;rw[if_neg (by omega)];omega
 refine⟨(sI ?_),rfl⟩
 rotate_left
 rw[if_pos q2] at v3
 exact⟨(Af Q2 Q2),Be (j:=(⟨q1.v+1⟩:Rv)) Q9 rfl (by dsimp only[Rw];exact⟨by omega,by omega⟩) (by dsimp only[Rw];omega)⟩
 rw[List.drop_eq_nil_of_le (by omega)] at v3
 simp only[Af8] at v3
 have hbl:Kv (List.length d.plan.shapes:Int) s= -1:=by unfold Kv;rw[if_pos (by omega)]
 refine⟨(sI ?_),rfl⟩
 rotate_left
 all_goals first|(exact hbl.symm)|(grind)
theorem Aon (s:List Lev) (d:Dcd) (hp1:List.length (d).plan.shapes≤Bn) (hp2:List.length s≤Bn):Fun Tryz.prog 162 [.c (.seq .lev s),.c (.fn 163 [0])] [.cells (C4 d)] (.v (vB (decide (0≤Kv ((List.length (d).plan.shapes:Nat):Int) s)))) [.cells (C4 d)]:=by
 have hN:Bn=274877906944:=rfl
 refine Av Tryz.func162 Q4 Q4 (w:=let z1:=((List.length (d).plan.shapes:Nat):Int);let z2:List Blk:=[.cells (C4 d)];let z3:S:= .v (vB (decide (0≤Kv z1 s)));(.seg [.call [0] (.v (vI (Kv z1 s))) z2] (.leaf () [0]),(Fp 210 [.c (.seq .lev s),.c (.fn 163 [0])] z2 (.v (vI (Kv z1 s))) z2)∧Lf z3 z3 z2 z2)) Q4 ?_
 exact⟨(Aom _ d Q2 Q2),rfl,rfl⟩
theorem Xe (d:Dcd) (hp1:List.length (d).stack≤Bn) (hp2:List.length (d).plan.shapes≤Bn):Fun Tryz.prog 102 [.agg (C4 d)] [] (.v (vB (Bt d))) []:=by
 have hN:Bn=274877906944:=rfl
 refine Av Tryz.func102 Q4 Q4 (w:=let z1:=decide (0≤Kv ((List.length (d).plan.shapes:Nat):Int) d.stack);let z2:=Lf (.v (vB false)) (.v (vB (Bt d))) [] [];(.seg [.call [] (.v (vB (B1 d.plan))) []] (.br (.br (.seg [.call [0] (.v (vB z1)) [.cells (C4 d)]] (.leaf () [])) (.leaf () [])) (.leaf () [])),(Fp 46 [.agg (Gw d.plan)] [] (.v (vB (B1 d.plan))) [])∧Bc (B1 d.plan) (Bc (decide (((List.length d.stack:Nat):Int)≤d.plan.deep)) ((Fp 162 [.c (.seq .lev d.stack),.c (.fn 163 [0])] [.cells (C4 d)] (.v (vB z1)) [.cells (C4 d)])∧Lf (.v (vB (!z1))) (.v (vB (Bt d))) [] []) z2) z2)) Q4 ?_
 refine⟨(Acn d.plan),fun h1=>have p1:=Cd h1;?_,fun h1=>?_⟩
 refine dsp (fun h2 p2=>?_) fun h2 p2=>?_
 refine⟨(Aon _ d Q2 Q2),(sB ?_),rfl⟩
 rotate_left
 refine⟨(sB ?_),rfl⟩
 rotate_left
 refine⟨(sB ?_),rfl⟩
 rotate_left
 all_goals first|(simp_all[Bt];done)|((unfold Bt;rw[Yg];grind[Kv]))|(grind[Bt,Kv,Yg])
theorem Rx (k:Int):Fun Tryz.prog 166 [vI k] [] (.v (vB (Qt k))) []:=by
 have hN:Bn=274877906944:=rfl
 refine Av Tryz.func166 Q4 Q4 (w:=let z1:S:= .v (vB (Ai k 1 10));(.seg [.call [] z1 []] (.leaf () []),(Fp 97 [vI k,vI 1,vI 10] [] z1 [])∧Lf z1 (.v (vB (Qt k))) [] [])) Q4 ?_
 exact⟨(Cc _ _ _),(congrArg S.v (congrArg V.c (congrArg C.bool (by rfl)))),rfl⟩
theorem Yn (e:Ev):Fun Tryz.prog 167 [.agg (cEv e)] [] (.v (.agg (cEv (Fc e)))) []:=by
 have hN:Bn=274877906944:=rfl
 refine Av Tryz.func167 Q4 Q4 (w:=let zi:Int→C:= .int .i64;let z1:List C:=[.int .u64 0,zi e.len,.str [],zi 0,zi 0];let z2:S:= .v (.agg (cEv (Fc e)));let z3:S:= .v (.agg (zi e.kind::zi e.field::z1));let z4:=os 8 [5,7];(.br (.leaf () []) (.br (.seg [.ord z4 [2]] (.leaf () [])) (.br (.seg [.br true,.ord z4 [2]] (.leaf () [])) (.br (.seg [.ord z4 [2]] (.leaf () [])) (.br (.leaf () []) (.br (.leaf () []) (.br (.seg [.ord z4 [2]] (.leaf () [])) (.leaf () []))))))),Bc (decide (e.kind=1)) (Lf (.v (.agg (zi e.kind::zi 0::z1))) z2 [] []) (Bc (decide (e.kind=2)) (Lf (.v (.agg [zi e.kind,zi e.field,.int .u64 e.bits,zi 0,.str [],zi 0,zi 0])) z2 [] []) (Bc (decide (e.kind=3)) (((decide (e.kind=3))=true)∧Lf z3 z2 [] []) (Bc (decide (e.kind=6)) (Lf z3 z2 [] []) (Bc (decide (e.kind=4)) (Lf (.v (.agg [zi e.kind,zi 0,.int .u64 0,zi 0,.str e.text,zi 0,zi 0])) z2 [] []) (Bc (decide (e.kind=9)) (Lf (.v (.agg [zi e.kind,zi 0,.int .u64 0,zi 0,.str [],zi 0,zi e.at_])) z2 [] []) (Bc (decide (e.kind=10)) (Lf (.v (.agg [zi e.kind,zi 0,.int .u64 0,zi 0,.str [],zi e.code,zi e.at_])) z2 [] []) (Lf (.v (.agg [zi e.kind,zi 0,.int .u64 0,zi 0,.str [],zi 0,zi 0])) z2 [] []))))))))) Q4 ?_
 refine dsp (fun h1 p1=>?_) fun h1 p1=>?_
 refine zE (Fc e) (⟨e.kind,0,0,e.len,[],0,0⟩:Ev) (fun hm1=>⟨Q7,rfl⟩) ?_
 rotate_left
 refine dsp (fun h2 p2=>?_) fun h2 p2=>?_
 refine zE (Fc e) (⟨e.kind,e.field,e.bits,0,[],0,0⟩:Ev) (fun hm1=>⟨Q7,rfl⟩) ?_
 rotate_left
 refine dsp (fun h3 p3=>?_) fun h3 p3=>?_
 refine zE (Fc e) (⟨e.kind,e.field,0,e.len,[],0,0⟩:Ev) (fun hm1=>⟨h3,Q7,rfl⟩) ?_
 rotate_left
 refine dsp (fun h4 p4=>?_) fun h4 p4=>?_
 refine zE (Fc e) (⟨e.kind,e.field,0,e.len,[],0,0⟩:Ev) (fun hm1=>⟨Q7,rfl⟩) ?_
 rotate_left
 refine dsp (fun h5 p5=>?_) fun h5 p5=>?_
 refine zE (Fc e) (⟨e.kind,0,0,0,e.text,0,0⟩:Ev) (fun hm1=>⟨Q7,rfl⟩) ?_
 rotate_left
 refine dsp (fun h6 p6=>?_) fun h6 p6=>?_
 refine zE (Fc e) (⟨e.kind,0,0,0,[],0,e.at_⟩:Ev) (fun hm1=>⟨Q7,rfl⟩) ?_
 rotate_left
 refine dsp (fun h7 p7=>?_) fun h7 p7=>?_
 refine zE (Fc e) (⟨e.kind,0,0,0,[],e.code,e.at_⟩:Ev) (fun hm1=>⟨Q7,rfl⟩) ?_
 rotate_left
 refine zE (Fc e) (⟨e.kind,0,0,0,[],0,0⟩:Ev) (fun hm1=>⟨Q7,rfl⟩) ?_
 rotate_left
 all_goals first|(simp_all[Fc];done)|(grind[Fc])
theorem Xf (e:Ev):Fun Tryz.prog 107 [.agg (cEv e)] [] (.v (vB (Hw e))) []:=by
 have hN:Bn=274877906944:=rfl
 refine Av Tryz.func107 Q4 Q4 (w:=(.br (.leaf () []) (.leaf () []),Bc (decide (e.kind=9)) (Lf (.v (vB true)) (.v (vB (Hw e))) [] []) (Lf (.v (vB (decide (e.kind=10)))) (.v (vB (Hw e))) [] []))) Q4 ?_
 refine dsp (fun h1 p1=>?_) fun h1 p1=>?_
 refine⟨(sB ?_),rfl⟩
 rotate_left
 refine⟨(sB ?_),rfl⟩
 rotate_left
 all_goals first|(simp_all[Hw];done)|(grind[Hw])
theorem Z0 (e:Ev):Fun Tryz.prog 106 [.agg (cEv e)] [] (.v (vB (Mq e))) []:=by
 have hN:Bn=274877906944:=rfl
 refine Av Tryz.func106 Q4 Q4 (w:=let z2:=Qt e.kind;let z3:S:= .v (vB (Mq e));let z5:S:= .v (vB (Ai e.field 1 536870911));let z6:S:= .v (vB z2);let z7:=decide (e.len<0);let z8:=Fc e;let z1:= !(decide (e.kind=z8.kind)&&(decide (e.field=z8.field)&&(decide (e.bits=z8.bits)&&(decide (e.len=z8.len)&&(decide (e.text=z8.text)&&(decide (e.code=z8.code)&&decide (e.at_=z8.at_)))))));let z4:S:= .v (.agg (cEv z8));let z9:S:= .v (vB false);let z10:=os 21 [2,7];(.case (!z2) (.seg [.ord z10 [],.call [] z6 [],.br true] (.leaf () [])) (.case z1 (.seg [.ord z10 [],.call [] z6 [],.br false,.call [] z4 [],.br true] (.leaf () [])) (.case z7 (.seg [.ord z10 [],.call [] z6 [],.br false,.call [] z4 [],.br false,.br true] (.leaf () [])) (.seg [.ord z10 [],.call [] z6 [],.br false,.call [] z4 [],.br false,.br false] (.br (.leaf () []) (.seg [.call [] (.v (vB (Fx e.kind))) []] (.br (.seg [.call [] z5 []] (.leaf () [])) (.br (.leaf () []) (.br (.leaf () []) (.leaf () []))))))))),Bc (!z2) ((Fp 166 [vI e.kind] [] z6 [])∧((!z2)=true)∧Lf z9 z3 [] []) (Bc z1 ((Fp 166 [vI e.kind] [] z6 [])∧((!z2)=false)∧(Fp 167 [.agg (cEv e)] [] z4 [])∧(z1=true)∧Lf z9 z3 [] []) (Bc z7 ((Fp 166 [vI e.kind] [] z6 [])∧((!z2)=false)∧(Fp 167 [.agg (cEv e)] [] z4 [])∧(z1=false)∧(z7=true)∧Lf z9 z3 [] []) ((Fp 166 [vI e.kind] [] z6 [])∧((!z2)=false)∧(Fp 167 [.agg (cEv e)] [] z4 [])∧(z1=false)∧(z7=false)∧Bc (decide (e.at_<0)) (Lf z9 z3 [] []) ((Fp 168 [vI e.kind] [] (.v (vB (Fx e.kind))) [])∧Bc (Fx e.kind) ((Fp 97 [vI e.field,vI 1,vI 536870911] [] z5 [])∧Lf z5 z3 [] []) (Bc (decide (e.kind=4)) (Lf (.v (vB (!decide (e.text=[])))) z3 [] []) (Bc (decide (e.kind=10)) (Lf (.v (vB (decide (1≤e.code)))) z3 [] []) (Lf (.v (vB true)) z3 [] []))))))))) Q4 ?_
 refine⟨fun h1=>have q1:=Aq h1;?_,fun h1=>have q1:=Ao h1;?_⟩
 refine⟨(Rx _),h1,(sB ?_),rfl⟩
 rotate_left
 refine⟨fun h2=>have q2:=Aq h2;have p2:=(Db dT (Db dT (Db dT (Db dT (Db dT (Db dT dF)))))).1 q2;?_,fun h2=>have q2:=Ao h2;have p2:=(Da dT (Da dT (Da dT (Da dT (Da dT (Da dT dT)))))).1 q2;?_⟩
 have hib:W6 e=false:=by rw[Zs rfl];exact q2
 refine⟨(Rx _),h1,(Yn e),h2,(sB ?_),rfl⟩
 rotate_left
 have hib:W6 e=true:=by rw[Zs rfl];exact q2
 refine dsp (fun h3 p3=>?_) fun h3 p3=>?_
 refine⟨(Rx _),h1,(Yn e),h2,h3,(sB ?_),rfl⟩
 rotate_left
 refine⟨(Rx _),h1,(Yn e),h2,h3,dsp (fun h4 p4=>?_) fun h4 p4=>?_⟩
 refine⟨(sB ?_),rfl⟩
 rotate_left
 refine⟨(Ad0 _),fun h5=>?_,fun h5=>?_⟩
 refine⟨(Cc _ _ _),(sB ?_),rfl⟩
 rotate_left
 refine dsp (fun h6 p6=>?_) fun h6 p6=>?_
 refine⟨(sB ?_),rfl⟩
 rotate_left
 refine dsp (fun h7 p7=>?_) fun h7 p7=>?_
 refine⟨(sB ?_),rfl⟩
 rotate_left
 refine⟨(sB ?_),rfl⟩
 rotate_left
 all_goals first|((simp only[Mq,hib];simp[Qt,Fx, *];done))|(grind[Mq,Fx,Qt])
structure Aib where
 want:Ev
theorem Aco (s:Scn):Fun Tryz.prog 172 [.agg (Zq s)] [] (.v (vB (E1 s))) []:=by
 have hN:Bn=274877906944:=rfl
 refine Av Tryz.func172 Q4 Q4 (w:=let z1:=7*s.have_;let z2:=Ai s.have_ 0 9;(.seg [.call [] (.v (vB z2)) []] (.br (.seg [.as 11 (.v (vI z1)),.as 12 (.v (.c (.int .u64 z1)))] (.leaf () [])) (.leaf () [])),(Fp 97 [vI s.have_,vI 0,vI 9] [] (.v (vB z2)) [])∧Bc z2 ((wI z1)∧(wU z1)∧((0:Int)≤7*s.have_)∧Lf (.v (vB (decide (Int.fdiv s.bits (2 ^ min (Int.toNat z1) 64)=0)))) (.v (vB (E1 s))) [] []) (Lf (.v (vB false)) (.v (vB (E1 s))) [] []))) Q4 ?_
 refine⟨(Cc _ _ _),fun h1=>have p1:=Aw h1;?_,fun h1=>have p1:=A7 h1;?_⟩
 refine⟨(Af Q2 Q2),(Bs Q2 Q2),Q2,(sB ?_),rfl⟩
 rotate_left
 refine⟨(sB ?_),rfl⟩
 rotate_left
 all_goals first|(simp_all[E1];done)|(grind[E1])
theorem Pv (d:Dcd):Fun Tryz.prog 118 [.agg (C4 d)] [] (.v (vI (Bv d))) []:=by
 have hN:Bn=274877906944:=rfl
 refine Av Tryz.func118 Q4 Q4 (w:=let z1:=Ba d.field.kind;let z2:S:= .v (vI (Ak d.wire));let z3:S:= .v (vI (Ak z1));let z4:S:= .v (vI (Bv d));(.br (.seg [.call [] z2 []] (.leaf () [])) (.br (.seg [.call [] (.v (vI z1)) [],.call [] z3 []] (.leaf () [])) (.leaf () [])),Bc (decide (d.mode=5)) ((Fp 171 [vI d.wire] [] z2 [])∧Lf z2 z4 [] []) (Bc (decide (d.mode=8)) ((Fp 181 [vI d.field.kind] [] (.v (vI z1)) [])∧(Fp 171 [vI z1] [] z3 [])∧Lf z3 z4 [] []) (Lf (.v (vI 0)) z4 [] [])))) Q4 ?_
 refine dsp (fun h1 p1=>?_) fun h1 p1=>?_
 refine⟨(Fj _),(sI ?_),rfl⟩
 rotate_left
 refine dsp (fun h2 p2=>?_) fun h2 p2=>?_
 refine⟨(Ym _),(Fj _),(sI ?_),rfl⟩
 rotate_left
 refine⟨(sI ?_),rfl⟩
 rotate_left
 all_goals first|(simp_all[Bv];done)|(grind[Bv])
structure Lr where
 v:Nat
def Jv (p:Pln) (f:Fld):Fam:=⟨Lr,fun q1=>[(2,.v (vP 0)),(3,.v (vP 1)),(11,.v (vI ((List.length p.shapes:Nat):Int))),(12,.v (vI ((q1.v:Nat):Int)))],fun _=>[.cells (Gw p),.cells (Fv f)],fun q1=>q1.v≤List.length p.shapes∧H6 p.shapes f q1.v=false,fun q1=>List.length p.shapes-q1.v⟩
theorem Amy (p:Pln) (f:Fld) (hp1:List.length (p).shapes≤1000) (hp2: ∀x∈(p).shapes,List.length x.fields≤1000):Fun Tryz.prog 105 [.agg (Gw p),.agg (Fv f)] [] (.v (vB (known (p).shapes f))) []:=by
 have hN:Bn=274877906944:=rfl
 refine Av Tryz.func105 Q4 Q4 (w:=let z5:=((List.length p.shapes:Nat):Int);let z6:=Jv p f;(.seg [.at 0,.keep [2,3,11,12],.sel [0,1]] (.loop z6 fun q1=>let z1:=((q1.v:Nat):Int);.br (.seg [.call [] (.tup [.agg (Fv ((fieldAt p.shapes z1 f.number).getD fld0)),vB (fieldAt p.shapes z1 f.number).isSome]) []] (.br (.br (.leaf () []) (.seg [.as 30 (.v (vI (z1+1))),.at 0,.keep [2,3,11,12],.sel [0,1]] (.next))) (.seg [.as 30 (.v (vI (z1+1))),.at 0,.keep [2,3,11,12],.sel [0,1]] (.next)))) (.leaf () [])),z6.Has [(2,.v (vP 0)),(3,.v (vP 1)),(11,.v (vI z5)),(12,.v (vI 0))] [.cells (Gw p),.cells (Fv f)]∧∀q1,z6.inv q1→(let z4:=((q1.v:Nat):Int);let z2:=fieldAt p.shapes z4 f.number;let z3:=(wI (z4+1))∧z6.Nxt q1 [(2,.v (vP 0)),(3,.v (vP 1)),(11,.v (vI z5)),(12,.v (vI (z4+1)))] [.cells (Gw p),.cells (Fv f)];Bc (decide (z4<z5)) ((Fp 165 [.agg [.seq .shp p.shapes],vI z4,vI f.number] [] (.tup [.agg (Fv (z2.getD fld0)),vB z2.isSome]) [])∧Bc (z2.isSome) (Bc (decide ((z2.getD fld0).number=f.number)&&(decide ((z2.getD fld0).kind=f.kind)&&(decide ((z2.getD fld0).rep=f.rep)&&(decide ((z2.getD fld0).packed=f.packed)&&decide ((z2.getD fld0).msg=f.msg))))) (Lf (.v (vB true)) (.v (vB (known (p).shapes f))) [] []) z3) z3) (Lf (.v (vB false)) (.v (vB (known (p).shapes f))) [] [])))) Q4 ?_
 refine⟨Cm (j:=(⟨0⟩:Lr)) Q9 rfl (by dsimp only[Jv];exact⟨by omega,rfl⟩),fun (q1:Lr) hq_q1=>?_⟩
 have hi_q1:q1.v≤List.length p.shapes∧H6 p.shapes f q1.v=false:=hq_q1
 obtain ⟨v1,v2⟩:=hi_q1
 refine dsp (fun h1 p1=>?_) fun h1 p1=>?_
 refine⟨(Vm p.shapes _ _ Q2 Q2),fun h2=>?_,fun h2=>?_⟩
 obtain ⟨o,ho⟩:=Option.isSome_iff_exists.1 h2
 have hg:(fieldAt p.shapes (q1.v:Int) f.number).getD fld0=o:=by rw[ho];rfl
 refine⟨fun h3=>have p3:=(Da dT (Da dT (Da dT (Da dT dT)))).1 h3;?_,fun h3=>have p3:=(Db dT (Db dT (Db dT (Db dT dF)))).1 h3;?_⟩
 rw[hg] at p3
 have hkk:=Acf (by omega) (show (fieldAt p.shapes (q1.v:Int) f.number)=some f by rw[ho,Akz p3])
 refine⟨(sB ?_),rfl⟩
 rotate_left
 rw[hg] at p3
 have hkn:H6 p.shapes f (q1.v+1)=false:=Vg v2 (by rw[ho];intro e;exact Aoi p3 (Option.some.inj e))
 exact⟨(Af Q2 Q2),Be (j:=(⟨q1.v+1⟩:Lr)) Q9 rfl (by dsimp only[Jv];exact⟨by omega,hkn⟩) (by dsimp only[Jv];omega)⟩
 have hkn:H6 p.shapes f (q1.v+1)=false:=Vg v2 (by intro e;rw[e] at h2;simp at h2)
 exact⟨(Af Q2 Q2),Be (j:=(⟨q1.v+1⟩:Lr)) Q9 rfl (by dsimp only[Jv];exact⟨by omega,hkn⟩) (by dsimp only[Jv];omega)⟩
 have hkk:=Aiv v2 (by omega)
 refine⟨(sB ?_),rfl⟩
 rotate_left
 all_goals first|(exact hkk.symm)|(grind)
structure Ai5 where
 i:Nat
theorem Acp {s:Scn} :s=scn0↔s.bits=0∧s.have_=0:=⟨fun h=>by subst h;exact⟨rfl,rfl⟩,fun h=>by cases s;simp_all[scn0]⟩
theorem F8 {f:Fld} :f=fld0↔f.number=0∧f.kind=0∧f.rep=false∧f.packed=false∧f.msg=0:=⟨fun h=>by subst h;exact⟨rfl,rfl,rfl,rfl,rfl⟩,Aiw⟩
theorem Agq {e:Ev} :e=ev0↔e.kind=0∧e.field=0∧e.bits=0∧e.len=0∧e.text=[]∧e.code=0∧e.at_=0:=⟨fun h=>by subst h;exact⟨rfl,rfl,rfl,rfl,rfl,rfl,rfl⟩,fun h=>Aoj h⟩
theorem Ry (d:Dcd):0≤Bv d∧Bv d≤8:=by
 unfold Bv
 have h1:=Dh d.wire
 have h2:=Dh (Ba d.field.kind)
 split
 ·exact h1
 ·split
  ·exact h2
  ·omega
structure Amz where
 i:Nat
theorem Cp (d:Dcd) (hp1:List.length (d).stack≤Bn):Fun Tryz.prog 110 [.agg (C4 d)] [] (.v (vB (J6 d))) []:=by
 have hN:Bn=274877906944:=rfl
 have hwd:=Ry d
 refine Av Tryz.func110 Q4 Q4 (w:=let z3:=8*d.scan.have_;let z7:S:= .v (vB (J6 d));let z1:=Lf (.v (vB (decide (d.scan.bits=0)&&decide (d.scan.have_=0)))) z7 [] [];let z4:=Lf (.v (vB false)) z7 [] [];let z8:=decide (Int.fdiv d.scan.bits (2 ^ min (Int.toNat z3) 64)=0);let z9:=Bv d-1;let z2:=Ai d.scan.have_ 0 z9;let z10:S:= .v (vB (E1 d.scan));let z11:=Bv d;let z5:=(.v (vI (IntKind.i64.wrap (z11-1))):S)= .v (vI z9);let z6:=z11-d.scan.have_;(.seg [.call [] (.v (vI z11)) []] (.br (.seg [.call [] (.v (vI (Ec d))) []] (.br (.seg [.as 21 (.v (vI z9)),.call [] (.v (vB z2)) []] (.br (.seg [.as 30 (.v (vI z3)),.as 31 (.v (.c (.int .u64 z3)))] (.br (.seg [.as 40 (.v (vI z6))] (.leaf () [])) (.leaf () []))) (.leaf () []))) (.seg [.as 21 (.v (vI z9)),.call [] (.v (vB z2)) []] (.br (.seg [.as 30 (.v (vI z3)),.as 31 (.v (.c (.int .u64 z3)))] (.br (.seg [.as 40 (.v (vI z6))] (.leaf () [])) (.leaf () []))) (.leaf () []))))) (.br (.leaf () []) (.br (.leaf () []) (.br (.leaf () []) (.seg [.call [] z10 []] (.leaf () [])))))),(Fp 118 [.agg (C4 d)] [] (.v (vI z11)) [])∧Bc (decide (0<Bv d)) ((Fp 108 [.agg (C4 d)] [] (.v (vI (Ec d))) [])∧Bc (decide (d.mode=8)) (z5∧(Fp 97 [vI d.scan.have_,vI 0,vI z9] [] (.v (vB z2)) [])∧Bc z2 ((wI z3)∧(wU z3)∧((0:Int)≤8*d.scan.have_)∧Bc z8 ((wI z6)∧Lf (.v (vB (decide (z11-d.scan.have_≤d.want)))) z7 [] []) z4) z4) (z5∧(Fp 97 [vI d.scan.have_,vI 0,vI z9] [] (.v (vB z2)) [])∧Bc z2 ((wI z3)∧(wU z3)∧((0:Int)≤8*d.scan.have_)∧Bc z8 ((wI z6)∧Lf (.v (vB (decide (z11-d.scan.have_≤Ec d)))) z7 [] []) z4) z4)) (Bc (decide (d.mode=6)) z1 (Bc (decide (d.mode=7)) z1 (Bc (decide (d.mode=9)) z1 ((Fp 172 [.agg (Zq d.scan)] [] z10 [])∧Lf z10 z7 [] [])))))) Q4 ?_
 refine⟨(Pv d),dsp (fun h1 p1=>?_) fun h1 p1=>?_⟩
 refine⟨(D0 d Q2),dsp (fun h2 p2=>?_) fun h2 p2=>?_⟩
 refine⟨(Af Q2 Q2),(Cc _ _ _),fun h3=>have p3:=Aw h3;?_,fun h3=>have p3:=A7 h3;?_⟩
 refine⟨(Af Q2 Q2),(Bs Q2 Q2),Q2,dsp (fun h4 p4=>?_) fun h4 p4=>?_⟩
 refine⟨(Af Q2 Q2),(sB ?_),rfl⟩
 rotate_left
 refine⟨(sB ?_),rfl⟩
 rotate_left
 refine⟨(sB ?_),rfl⟩
 rotate_left
 refine⟨(Af Q2 Q2),(Cc _ _ _),fun h3=>have p3:=Aw h3;?_,fun h3=>have p3:=A7 h3;?_⟩
 refine⟨(Af Q2 Q2),(Bs Q2 Q2),Q2,dsp (fun h4 p4=>?_) fun h4 p4=>?_⟩
 refine⟨(Af Q2 Q2),(sB ?_),rfl⟩
 rotate_left
 refine⟨(sB ?_),rfl⟩
 rotate_left
 refine⟨(sB ?_),rfl⟩
 rotate_left
 refine dsp (fun h2 p2=>?_) fun h2 p2=>?_
 refine⟨(sB ?_),rfl⟩
 rotate_left
 refine dsp (fun h3 p3=>?_) fun h3 p3=>?_
 refine⟨(sB ?_),rfl⟩
 rotate_left
 refine dsp (fun h4 p4=>?_) fun h4 p4=>?_
 refine⟨(sB ?_),rfl⟩
 rotate_left
 refine⟨(Aco d.scan),(sB ?_),rfl⟩
 rotate_left
 all_goals first|(simp_all[J6,St,Acp];done)|(grind[J6,St,Acp])
theorem Cq (d:Dcd) (hp1:List.length (d).stack≤Bn):Fun Tryz.prog 109 [.agg (C4 d)] [] (.v (vB (Nu d&&Jh d))) []:=by
 have hN:Bn=274877906944:=rfl
 have hww:Ak d.wire=0∨0≤d.wire:=by unfold Ak;split<;>(try split)<;>omega
 refine Av Tryz.func109 Q4 Q4 (w:=let z1:= !(!(decide (d.field.number=0)&&(decide (d.field.kind=0)&&(decide (d.field.rep=false)&&(decide (d.field.packed=false)&&decide (d.field.msg=0))))));let z2:S:= .v (vB (Nu d&&Jh d));let z3:S:= .v (vB (Dt d.field d.wire));let z4:=Lf (.v (vB false)) z2 [] [];let z5:=Lf (.v (vB true)) z2 [] [];let z6:=Ai d.want 1 (Ec d);let z7:S:= .v (vB (Vb d.field));let z8:=decide (d.mode=6);let z9:=Fv d.field;let z10:S:= .v (vI (Ec d));let z11:S:= .v (vI (Ak d.wire));let z12:=decide (d.mode=8);let z13:List V:=[vI d.want,vI 1,vI (Ec d)];let z14:S:= .v (vB z6);(.br (.seg [.br true,.ord (os 6 [3,4]) [],.call [] z10 [],.call [] z14 []] (.br (.leaf () []) (.seg [.br true] (.br (.leaf () []) (.leaf () []))))) (.br (.seg [.br true,.ord (os 6 [3,4]) [],.call [] z10 [],.call [] z14 []] (.br (.leaf () []) (.seg [.br false] (.br (.seg [.call [] z7 []] (.leaf () [])) (.br (.br (.br (.leaf () []) (.seg [.call [] z3 []] (.leaf () []))) (.leaf () [])) (.br (.br (.br (.leaf () []) (.seg [.call [] z3 []] (.leaf () []))) (.leaf () [])) (.br (.seg [.call [] z11 []] (.br (.br (.leaf () []) (.seg [.call [] z3 []] (.leaf () []))) (.leaf () []))) (.leaf () [])))))))) (.br (.seg [.ord (os 6 [3,4]) [],.call [] z10 [],.call [] z14 []] (.br (.leaf () []) (.seg [.br false,.br true,.call [] z7 []] (.leaf () [])))) (.br (.leaf () []) (.seg [.br false,.br false] (.br (.br (.br (.leaf () []) (.seg [.call [] z3 []] (.leaf () []))) (.leaf () [])) (.br (.br (.br (.leaf () []) (.seg [.call [] z3 []] (.leaf () []))) (.leaf () [])) (.br (.seg [.call [] z11 []] (.br (.br (.leaf () []) (.seg [.call [] z3 []] (.leaf () []))) (.leaf () []))) (.leaf () [])))))))),Bc z8 ((z8=true)∧(Fp 108 [.agg (C4 d)] [] z10 [])∧(Fp 97 z13 [] z14 [])∧Bc (!z6) z4 ((z8=true)∧Bc (decide (d.field.kind=6)) z5 (Lf (.v (vB (decide (d.field.kind=7)))) z2 [] []))) (Bc (decide (d.mode=7)) (((decide (d.mode=7))=true)∧(Fp 108 [.agg (C4 d)] [] z10 [])∧(Fp 97 z13 [] z14 [])∧Bc (!z6) z4 ((z8=false)∧Bc z12 ((Fp 169 [.agg z9] [] z7 [])∧Lf z7 z2 [] []) (Bc (decide (d.mode=3)) (Bc (decide (d.wire=0)) (Bc z1 z5 ((Fp 170 [.agg z9,vI d.wire] [] z3 [])∧Lf z3 z2 [] [])) z4) (Bc (decide (d.mode=4)) (Bc (decide (d.wire=2)) (Bc z1 z5 ((Fp 170 [.agg z9,vI d.wire] [] z3 [])∧Lf z3 z2 [] [])) z4) (Bc (decide (d.mode=5)) ((Fp 171 [vI d.wire] [] z11 [])∧Bc (decide (0<Ak d.wire)) (Bc z1 z5 ((Fp 170 [.agg z9,vI d.wire] [] z3 [])∧Lf z3 z2 [] [])) z4) z5))))) (Bc z12 ((Fp 108 [.agg (C4 d)] [] z10 [])∧(Fp 97 z13 [] z14 [])∧Bc (!z6) z4 ((z8=false)∧(z12=true)∧(Fp 169 [.agg z9] [] z7 [])∧Lf z7 z2 [] [])) (Bc (!decide (d.want=0)) z4 ((z8=false)∧(z12=false)∧Bc (decide (d.mode=3)) (Bc (decide (d.wire=0)) (Bc z1 z5 ((Fp 170 [.agg z9,vI d.wire] [] z3 [])∧Lf z3 z2 [] [])) z4) (Bc (decide (d.mode=4)) (Bc (decide (d.wire=2)) (Bc z1 z5 ((Fp 170 [.agg z9,vI d.wire] [] z3 [])∧Lf z3 z2 [] [])) z4) (Bc (decide (d.mode=5)) ((Fp 171 [vI d.wire] [] z11 [])∧Bc (decide (0<Ak d.wire)) (Bc z1 z5 ((Fp 170 [.agg z9,vI d.wire] [] z3 [])∧Lf z3 z2 [] [])) z4) z5)))))))) Q4 ?_
 refine dsp (fun h1 p1=>?_) fun h1 p1=>?_
 refine⟨h1,(D0 d Q2),(Cc _ _ _),fun h2=>have q2:=Aq h2;have p2:=A7 q2;?_,fun h2=>have q2:=Ao h2;have p2:=Aw q2;?_⟩
 refine⟨(sB ?_),rfl⟩
 rotate_left
 refine⟨h1,dsp (fun h3 p3=>?_) fun h3 p3=>?_⟩
 refine⟨(sB ?_),rfl⟩
 rotate_left
 refine⟨(sB ?_),rfl⟩
 rotate_left
 refine dsp (fun h2 p2=>?_) fun h2 p2=>?_
 refine⟨h2,(D0 d Q2),(Cc _ _ _),fun h3=>have q3:=Aq h3;have p3:=A7 q3;?_,fun h3=>have q3:=Ao h3;have p3:=Aw q3;?_⟩
 refine⟨(sB ?_),rfl⟩
 rotate_left
 refine⟨h1,dsp (fun h4 p4=>?_) fun h4 p4=>?_⟩
 refine⟨(Agf d.field),(sB ?_),rfl⟩
 rotate_left
 refine dsp (fun h5 p5=>?_) fun h5 p5=>?_
 refine dsp (fun h6 p6=>?_) fun h6 p6=>?_
 refine⟨fun h7=>have q7:=Aq h7;have q7':=Ao q7;have p7:=(Da dT (Da dT (Da dT (Da dT dT)))).1 q7';?_,fun h7=>have q7:=Ao h7;have q7':=Aq q7;have p7:=(Db dT (Db dT (Db dT (Db dT dF)))).1 q7';?_⟩
 refine⟨(sB ?_),rfl⟩
 rotate_left
 refine⟨(J9 d.field _ Q2),(sB ?_),rfl⟩
 rotate_left
 refine⟨(sB ?_),rfl⟩
 rotate_left
 refine dsp (fun h6 p6=>?_) fun h6 p6=>?_
 refine dsp (fun h7 p7=>?_) fun h7 p7=>?_
 refine⟨fun h8=>have q8:=Aq h8;have q8':=Ao q8;have p8:=(Da dT (Da dT (Da dT (Da dT dT)))).1 q8';?_,fun h8=>have q8:=Ao h8;have q8':=Aq q8;have p8:=(Db dT (Db dT (Db dT (Db dT dF)))).1 q8';?_⟩
 refine⟨(sB ?_),rfl⟩
 rotate_left
 refine⟨(J9 d.field _ Q2),(sB ?_),rfl⟩
 rotate_left
 refine⟨(sB ?_),rfl⟩
 rotate_left
 refine dsp (fun h7 p7=>?_) fun h7 p7=>?_
 refine⟨(Fj _),dsp (fun h8 p8=>?_) fun h8 p8=>?_⟩
 refine⟨fun h9=>have q9:=Aq h9;have q9':=Ao q9;have p9:=(Da dT (Da dT (Da dT (Da dT dT)))).1 q9';?_,fun h9=>have q9:=Ao h9;have q9':=Aq q9;have p9:=(Db dT (Db dT (Db dT (Db dT dF)))).1 q9';?_⟩
 refine⟨(sB ?_),rfl⟩
 rotate_left
 refine⟨(J9 d.field _ Q2),(sB ?_),rfl⟩
 rotate_left
 refine⟨(sB ?_),rfl⟩
 rotate_left
 refine⟨(sB ?_),rfl⟩
 rotate_left
 refine dsp (fun h3 p3=>?_) fun h3 p3=>?_
 refine⟨(D0 d Q2),(Cc _ _ _),fun h4=>have q4:=Aq h4;have p4:=A7 q4;?_,fun h4=>have q4:=Ao h4;have p4:=Aw q4;?_⟩
 refine⟨(sB ?_),rfl⟩
 rotate_left
 refine⟨h1,h3,(Agf d.field),(sB ?_),rfl⟩
 rotate_left
 refine⟨fun h4=>have q4:=Aq h4;have p4:=of_decide_eq_false q4;?_,fun h4=>have q4:=Ao h4;have p4:=of_decide_eq_true q4;?_⟩
 refine⟨(sB ?_),rfl⟩
 rotate_left
 refine⟨h1,h3,dsp (fun h5 p5=>?_) fun h5 p5=>?_⟩
 refine dsp (fun h6 p6=>?_) fun h6 p6=>?_
 refine⟨fun h7=>have q7:=Aq h7;have q7':=Ao q7;have p7:=(Da dT (Da dT (Da dT (Da dT dT)))).1 q7';?_,fun h7=>have q7:=Ao h7;have q7':=Aq q7;have p7:=(Db dT (Db dT (Db dT (Db dT dF)))).1 q7';?_⟩
 refine⟨(sB ?_),rfl⟩
 rotate_left
 refine⟨(J9 d.field _ Q2),(sB ?_),rfl⟩
 rotate_left
 refine⟨(sB ?_),rfl⟩
 rotate_left
 refine dsp (fun h6 p6=>?_) fun h6 p6=>?_
 refine dsp (fun h7 p7=>?_) fun h7 p7=>?_
 refine⟨fun h8=>have q8:=Aq h8;have q8':=Ao q8;have p8:=(Da dT (Da dT (Da dT (Da dT dT)))).1 q8';?_,fun h8=>have q8:=Ao h8;have q8':=Aq q8;have p8:=(Db dT (Db dT (Db dT (Db dT dF)))).1 q8';?_⟩
 refine⟨(sB ?_),rfl⟩
 rotate_left
 refine⟨(J9 d.field _ Q2),(sB ?_),rfl⟩
 rotate_left
 refine⟨(sB ?_),rfl⟩
 rotate_left
 refine dsp (fun h7 p7=>?_) fun h7 p7=>?_
 refine⟨(Fj _),dsp (fun h8 p8=>?_) fun h8 p8=>?_⟩
 refine⟨fun h9=>have q9:=Aq h9;have q9':=Ao q9;have p9:=(Da dT (Da dT (Da dT (Da dT dT)))).1 q9';?_,fun h9=>have q9:=Ao h9;have q9':=Aq q9;have p9:=(Db dT (Db dT (Db dT (Db dT dF)))).1 q9';?_⟩
 refine⟨(sB ?_),rfl⟩
 rotate_left
 refine⟨(J9 d.field _ Q2),(sB ?_),rfl⟩
 rotate_left
 refine⟨(sB ?_),rfl⟩
 rotate_left
 refine⟨(sB ?_),rfl⟩
 rotate_left
 all_goals first|(simp_all[Nu,Jh,Amp,F8,Gj];done)|(grind[Nu,Jh,Amp,F8,Gj])
theorem Ai6 {w:Int} (h:De w=true):0≤w∧w≤5:=by simp[De] at h;omega
theorem Ad1 {d:Dcd} (h:Bt d=true):B1 d.plan=true:=by simp only[Bt,Bool.and_eq_true] at h;exact h.1.1
theorem Agr (d:Dcd) (hp1:List.length (d).stack≤Bn) (hp2:List.length (d).plan.shapes≤Bn):Fun Tryz.prog 51 [.agg (C4 d)] [] (.v (vB (Ce d))) []:=by
 have hN:Bn=274877906944:=rfl
 refine Av Tryz.func51 Q4 Q4 (w:=let z3:S:= .v (vB (J6 d));let z4:= !(decide (d.end_.kind=0)&&(decide (d.end_.field=0)&&(decide (d.end_.bits=0)&&(decide (d.end_.len=0)&&(decide (d.end_.text=[])&&(decide (d.end_.code=0)&&decide (d.end_.at_=0)))))));let z5:=Nu d&&Jh d;let z2:S:= .v (vB z5);let z6:S:= .v (vB (Ce d));let z1:=Lf (.v (vB false)) z6 [] [];let z7:= !decide (d.mode=9);let z8:=decide (0<((List.length d.stack:Nat):Int));let z9:= !decide (d.mode=1);let z10:S:= .v (vI (Ec d));let z11:=decide (d.mode=1);let z12:=decide (Ec d<1);let z13:S:= .v (vB (Hw d.end_));let z14:S:= .v (vB (Mq d.end_));let z15:=z7=false;let z16:=known (d.plan).shapes d.field;let z17:=z7=true;let z18:=Ai d.at_ 0 1000000000;let z19:=Ai d.start 0 d.at_;let z20:=Ai d.mode 1 9;(.seg [.call [] (.v (vB (Bt d))) []] (.br (.leaf () []) (.seg [.call [] (.v (vB z20)) []] (.br (.leaf () []) (.seg [.call [] (.v (vB z18)) []] (.br (.leaf () []) (.seg [.call [] (.v (vB z19)) []] (.br (.leaf () []) (.seg [.call [] (.v (vB (Ek d.utf))) []] (.br (.leaf () []) (.seg [.call [] (.v (vB (De d.wire))) []] (.br (.leaf () []) (.br (.seg [.call [] (.v (vB z16)) []] (.br (.leaf () []) (.br (.seg [.call [] z14 []] (.br (.leaf () []) (.seg [.call [] z13 []] (.br (.leaf () []) (.br (.br (.leaf () []) (.br (.br (.leaf () []) (.br (.seg [.br true,.call [] z10 []] (.br (.leaf () []) (.seg [.call [] z2 []] (.br (.seg [.call [] z3 []] (.leaf () [])) (.leaf () []))))) (.seg [.call [] z2 []] (.br (.seg [.call [] z3 []] (.leaf () [])) (.leaf () []))))) (.br (.seg [.br true,.call [] z10 []] (.br (.leaf () []) (.seg [.call [] z2 []] (.br (.seg [.call [] z3 []] (.leaf () [])) (.leaf () []))))) (.seg [.call [] z2 []] (.br (.seg [.call [] z3 []] (.leaf () [])) (.leaf () [])))))) (.br (.br (.leaf () []) (.br (.seg [.br false,.call [] z2 []] (.br (.seg [.call [] z3 []] (.leaf () [])) (.leaf () []))) (.seg [.call [] z2 []] (.br (.seg [.call [] z3 []] (.leaf () [])) (.leaf () []))))) (.br (.seg [.br false,.call [] z2 []] (.br (.seg [.call [] z3 []] (.leaf () [])) (.leaf () []))) (.seg [.call [] z2 []] (.br (.seg [.call [] z3 []] (.leaf () [])) (.leaf () [])))))))))) (.br (.br (.leaf () []) (.br (.br (.leaf () []) (.br (.seg [.br true,.call [] z10 []] (.br (.leaf () []) (.seg [.call [] z2 []] (.br (.seg [.call [] z3 []] (.leaf () [])) (.leaf () []))))) (.seg [.call [] z2 []] (.br (.seg [.call [] z3 []] (.leaf () [])) (.leaf () []))))) (.br (.seg [.br true,.call [] z10 []] (.br (.leaf () []) (.seg [.call [] z2 []] (.br (.seg [.call [] z3 []] (.leaf () [])) (.leaf () []))))) (.seg [.call [] z2 []] (.br (.seg [.call [] z3 []] (.leaf () [])) (.leaf () [])))))) (.br (.br (.leaf () []) (.br (.seg [.br false,.call [] z2 []] (.br (.seg [.call [] z3 []] (.leaf () [])) (.leaf () []))) (.seg [.call [] z2 []] (.br (.seg [.call [] z3 []] (.leaf () [])) (.leaf () []))))) (.br (.seg [.br false,.call [] z2 []] (.br (.seg [.call [] z3 []] (.leaf () [])) (.leaf () []))) (.seg [.call [] z2 []] (.br (.seg [.call [] z3 []] (.leaf () [])) (.leaf () []))))))))) (.br (.seg [.call [] z14 []] (.br (.leaf () []) (.seg [.call [] z13 []] (.br (.leaf () []) (.br (.br (.leaf () []) (.br (.br (.leaf () []) (.br (.seg [.br true,.call [] z10 []] (.br (.leaf () []) (.seg [.call [] z2 []] (.br (.seg [.call [] z3 []] (.leaf () [])) (.leaf () []))))) (.seg [.call [] z2 []] (.br (.seg [.call [] z3 []] (.leaf () [])) (.leaf () []))))) (.br (.seg [.br true,.call [] z10 []] (.br (.leaf () []) (.seg [.call [] z2 []] (.br (.seg [.call [] z3 []] (.leaf () [])) (.leaf () []))))) (.seg [.call [] z2 []] (.br (.seg [.call [] z3 []] (.leaf () [])) (.leaf () [])))))) (.br (.br (.leaf () []) (.br (.seg [.br false,.call [] z2 []] (.br (.seg [.call [] z3 []] (.leaf () [])) (.leaf () []))) (.seg [.call [] z2 []] (.br (.seg [.call [] z3 []] (.leaf () [])) (.leaf () []))))) (.br (.seg [.br false,.call [] z2 []] (.br (.seg [.call [] z3 []] (.leaf () [])) (.leaf () []))) (.seg [.call [] z2 []] (.br (.seg [.call [] z3 []] (.leaf () [])) (.leaf () [])))))))))) (.br (.br (.leaf () []) (.br (.br (.leaf () []) (.br (.seg [.br true,.call [] z10 []] (.br (.leaf () []) (.seg [.call [] z2 []] (.br (.seg [.call [] z3 []] (.leaf () [])) (.leaf () []))))) (.seg [.call [] z2 []] (.br (.seg [.call [] z3 []] (.leaf () [])) (.leaf () []))))) (.br (.seg [.br true,.call [] z10 []] (.br (.leaf () []) (.seg [.call [] z2 []] (.br (.seg [.call [] z3 []] (.leaf () [])) (.leaf () []))))) (.seg [.call [] z2 []] (.br (.seg [.call [] z3 []] (.leaf () [])) (.leaf () [])))))) (.br (.br (.leaf () []) (.br (.seg [.br false,.call [] z2 []] (.br (.seg [.call [] z3 []] (.leaf () [])) (.leaf () []))) (.seg [.call [] z2 []] (.br (.seg [.call [] z3 []] (.leaf () [])) (.leaf () []))))) (.br (.seg [.br false,.call [] z2 []] (.br (.seg [.call [] z3 []] (.leaf () [])) (.leaf () []))) (.seg [.call [] z2 []] (.br (.seg [.call [] z3 []] (.leaf () [])) (.leaf () []))))))))))))))))))),(Fp 102 [.agg (C4 d)] [] (.v (vB (Bt d))) [])∧Bc (!(Bt d)) z1 ((Fp 97 [vI d.mode,vI 1,vI 9] [] (.v (vB z20)) [])∧Bc (!z20) z1 ((Fp 97 [vI d.at_,vI 0,vI 1000000000] [] (.v (vB z18)) [])∧Bc (!z18) z1 ((Fp 97 [vI d.start,vI 0,vI d.at_] [] (.v (vB z19)) [])∧Bc (!z19) z1 ((Fp 103 [.agg (Pa d.utf)] [] (.v (vB (Ek d.utf))) [])∧Bc (!(Ek d.utf)) z1 ((Fp 104 [vI d.wire] [] (.v (vB (De d.wire))) [])∧Bc (!(De d.wire)) z1 (Bc (!(decide (d.field.number=0)&&(decide (d.field.kind=0)&&(decide (d.field.rep=false)&&(decide (d.field.packed=false)&&decide (d.field.msg=0)))))) ((Fp 105 [.agg (Gw d.plan),.agg (Fv d.field)] [] (.v (vB z16)) [])∧Bc (!z16) z1 (Bc (decide (d.mode=9)) ((Fp 106 [.agg (cEv d.end_)] [] z14 [])∧Bc (!(Mq d.end_)) z1 ((Fp 107 [.agg (cEv d.end_)] [] z13 [])∧Bc (!(Hw d.end_)) z1 (Bc z7 (Bc z4 z1 (Bc z11 (Bc z8 z1 (Bc z9 (z17∧(Fp 108 [.agg (C4 d)] [] z10 [])∧Bc z12 z1 ((Fp 109 [.agg (C4 d)] [] z2 [])∧Bc z5 ((Fp 110 [.agg (C4 d)] [] z3 [])∧Lf z3 z6 [] []) z1)) ((Fp 109 [.agg (C4 d)] [] z2 [])∧Bc z5 ((Fp 110 [.agg (C4 d)] [] z3 [])∧Lf z3 z6 [] []) z1))) (Bc z9 (z17∧(Fp 108 [.agg (C4 d)] [] z10 [])∧Bc z12 z1 ((Fp 109 [.agg (C4 d)] [] z2 [])∧Bc z5 ((Fp 110 [.agg (C4 d)] [] z3 [])∧Lf z3 z6 [] []) z1)) ((Fp 109 [.agg (C4 d)] [] z2 [])∧Bc z5 ((Fp 110 [.agg (C4 d)] [] z3 [])∧Lf z3 z6 [] []) z1)))) (Bc z11 (Bc z8 z1 (Bc z9 (z15∧(Fp 109 [.agg (C4 d)] [] z2 [])∧Bc z5 ((Fp 110 [.agg (C4 d)] [] z3 [])∧Lf z3 z6 [] []) z1) ((Fp 109 [.agg (C4 d)] [] z2 [])∧Bc z5 ((Fp 110 [.agg (C4 d)] [] z3 [])∧Lf z3 z6 [] []) z1))) (Bc z9 (z15∧(Fp 109 [.agg (C4 d)] [] z2 [])∧Bc z5 ((Fp 110 [.agg (C4 d)] [] z3 [])∧Lf z3 z6 [] []) z1) ((Fp 109 [.agg (C4 d)] [] z2 [])∧Bc z5 ((Fp 110 [.agg (C4 d)] [] z3 [])∧Lf z3 z6 [] []) z1)))))) (Bc z7 (Bc z4 z1 (Bc z11 (Bc z8 z1 (Bc z9 (z17∧(Fp 108 [.agg (C4 d)] [] z10 [])∧Bc z12 z1 ((Fp 109 [.agg (C4 d)] [] z2 [])∧Bc z5 ((Fp 110 [.agg (C4 d)] [] z3 [])∧Lf z3 z6 [] []) z1)) ((Fp 109 [.agg (C4 d)] [] z2 [])∧Bc z5 ((Fp 110 [.agg (C4 d)] [] z3 [])∧Lf z3 z6 [] []) z1))) (Bc z9 (z17∧(Fp 108 [.agg (C4 d)] [] z10 [])∧Bc z12 z1 ((Fp 109 [.agg (C4 d)] [] z2 [])∧Bc z5 ((Fp 110 [.agg (C4 d)] [] z3 [])∧Lf z3 z6 [] []) z1)) ((Fp 109 [.agg (C4 d)] [] z2 [])∧Bc z5 ((Fp 110 [.agg (C4 d)] [] z3 [])∧Lf z3 z6 [] []) z1)))) (Bc z11 (Bc z8 z1 (Bc z9 (z15∧(Fp 109 [.agg (C4 d)] [] z2 [])∧Bc z5 ((Fp 110 [.agg (C4 d)] [] z3 [])∧Lf z3 z6 [] []) z1) ((Fp 109 [.agg (C4 d)] [] z2 [])∧Bc z5 ((Fp 110 [.agg (C4 d)] [] z3 [])∧Lf z3 z6 [] []) z1))) (Bc z9 (z15∧(Fp 109 [.agg (C4 d)] [] z2 [])∧Bc z5 ((Fp 110 [.agg (C4 d)] [] z3 [])∧Lf z3 z6 [] []) z1) ((Fp 109 [.agg (C4 d)] [] z2 [])∧Bc z5 ((Fp 110 [.agg (C4 d)] [] z3 [])∧Lf z3 z6 [] []) z1)))))) (Bc (decide (d.mode=9)) ((Fp 106 [.agg (cEv d.end_)] [] z14 [])∧Bc (!(Mq d.end_)) z1 ((Fp 107 [.agg (cEv d.end_)] [] z13 [])∧Bc (!(Hw d.end_)) z1 (Bc z7 (Bc z4 z1 (Bc z11 (Bc z8 z1 (Bc z9 (z17∧(Fp 108 [.agg (C4 d)] [] z10 [])∧Bc z12 z1 ((Fp 109 [.agg (C4 d)] [] z2 [])∧Bc z5 ((Fp 110 [.agg (C4 d)] [] z3 [])∧Lf z3 z6 [] []) z1)) ((Fp 109 [.agg (C4 d)] [] z2 [])∧Bc z5 ((Fp 110 [.agg (C4 d)] [] z3 [])∧Lf z3 z6 [] []) z1))) (Bc z9 (z17∧(Fp 108 [.agg (C4 d)] [] z10 [])∧Bc z12 z1 ((Fp 109 [.agg (C4 d)] [] z2 [])∧Bc z5 ((Fp 110 [.agg (C4 d)] [] z3 [])∧Lf z3 z6 [] []) z1)) ((Fp 109 [.agg (C4 d)] [] z2 [])∧Bc z5 ((Fp 110 [.agg (C4 d)] [] z3 [])∧Lf z3 z6 [] []) z1)))) (Bc z11 (Bc z8 z1 (Bc z9 (z15∧(Fp 109 [.agg (C4 d)] [] z2 [])∧Bc z5 ((Fp 110 [.agg (C4 d)] [] z3 [])∧Lf z3 z6 [] []) z1) ((Fp 109 [.agg (C4 d)] [] z2 [])∧Bc z5 ((Fp 110 [.agg (C4 d)] [] z3 [])∧Lf z3 z6 [] []) z1))) (Bc z9 (z15∧(Fp 109 [.agg (C4 d)] [] z2 [])∧Bc z5 ((Fp 110 [.agg (C4 d)] [] z3 [])∧Lf z3 z6 [] []) z1) ((Fp 109 [.agg (C4 d)] [] z2 [])∧Bc z5 ((Fp 110 [.agg (C4 d)] [] z3 [])∧Lf z3 z6 [] []) z1)))))) (Bc z7 (Bc z4 z1 (Bc z11 (Bc z8 z1 (Bc z9 (z17∧(Fp 108 [.agg (C4 d)] [] z10 [])∧Bc z12 z1 ((Fp 109 [.agg (C4 d)] [] z2 [])∧Bc z5 ((Fp 110 [.agg (C4 d)] [] z3 [])∧Lf z3 z6 [] []) z1)) ((Fp 109 [.agg (C4 d)] [] z2 [])∧Bc z5 ((Fp 110 [.agg (C4 d)] [] z3 [])∧Lf z3 z6 [] []) z1))) (Bc z9 (z17∧(Fp 108 [.agg (C4 d)] [] z10 [])∧Bc z12 z1 ((Fp 109 [.agg (C4 d)] [] z2 [])∧Bc z5 ((Fp 110 [.agg (C4 d)] [] z3 [])∧Lf z3 z6 [] []) z1)) ((Fp 109 [.agg (C4 d)] [] z2 [])∧Bc z5 ((Fp 110 [.agg (C4 d)] [] z3 [])∧Lf z3 z6 [] []) z1)))) (Bc z11 (Bc z8 z1 (Bc z9 (z15∧(Fp 109 [.agg (C4 d)] [] z2 [])∧Bc z5 ((Fp 110 [.agg (C4 d)] [] z3 [])∧Lf z3 z6 [] []) z1) ((Fp 109 [.agg (C4 d)] [] z2 [])∧Bc z5 ((Fp 110 [.agg (C4 d)] [] z3 [])∧Lf z3 z6 [] []) z1))) (Bc z9 (z15∧(Fp 109 [.agg (C4 d)] [] z2 [])∧Bc z5 ((Fp 110 [.agg (C4 d)] [] z3 [])∧Lf z3 z6 [] []) z1) ((Fp 109 [.agg (C4 d)] [] z2 [])∧Bc z5 ((Fp 110 [.agg (C4 d)] [] z3 [])∧Lf z3 z6 [] []) z1))))))))))))) Q4 ?_
 refine⟨(Xe d Q2 Q2),fun h1=>have q1:=Aq h1;?_,fun h1=>have q1:=Ao h1;?_⟩
 refine⟨(sB ?_),rfl⟩
 rotate_left
 have hpt:=Cd (Ad1 q1)
 refine⟨(Cc _ _ _),fun h2=>have q2:=Aq h2;have p2:=A7 q2;?_,fun h2=>have q2:=Ao h2;have p2:=Aw q2;?_⟩
 refine⟨(sB ?_),rfl⟩
 rotate_left
 refine⟨(Cc _ _ _),fun h3=>have q3:=Aq h3;have p3:=A7 q3;?_,fun h3=>have q3:=Ao h3;have p3:=Aw q3;?_⟩
 refine⟨(sB ?_),rfl⟩
 rotate_left
 refine⟨(Cc _ _ _),fun h4=>have q4:=Aq h4;have p4:=A7 q4;?_,fun h4=>have q4:=Ao h4;have p4:=Aw q4;?_⟩
 refine⟨(sB ?_),rfl⟩
 rotate_left
 refine⟨(Agj d.utf),fun h5=>have q5:=Aq h5;?_,fun h5=>have q5:=Ao h5;have p5:=Ju q5;?_⟩
 refine⟨(sB ?_),rfl⟩
 rotate_left
 refine⟨(Ack _),fun h6=>have q6:=Aq h6;?_,fun h6=>have q6:=Ao h6;?_⟩
 refine⟨(sB ?_),rfl⟩
 rotate_left
 have hwk:=Ai6 (w:=d.wire) q6
 refine⟨fun h7=>have q7:=Aq h7;have p7:=(Db dT (Db dT (Db dT (Db dT dF)))).1 q7;?_,fun h7=>have q7:=Ao h7;have p7:=(Da dT (Da dT (Da dT (Da dT dT)))).1 q7;?_⟩
 refine⟨(Amy d.plan d.field Q2 (Fh hpt.2.1)),fun h8=>have q8:=Aq h8;?_,fun h8=>have q8:=Ao h8;?_⟩
 refine⟨(sB ?_),rfl⟩
 rotate_left
 refine dsp (fun h9 p9=>?_) fun h9 p9=>?_
 refine⟨(Z0 d.end_),fun h10=>have q10:=Aq h10;?_,fun h10=>have q10:=Ao h10;?_⟩
 refine⟨(sB ?_),rfl⟩
 rotate_left
 refine⟨(Xf d.end_),fun h11=>have q11:=Aq h11;?_,fun h11=>have q11:=Ao h11;?_⟩
 refine⟨(sB ?_),rfl⟩
 rotate_left
 refine⟨fun h12=>have q12:=Aq h12;have p12:=of_decide_eq_false q12;?_,fun h12=>have q12:=Ao h12;have p12:=of_decide_eq_true q12;?_⟩
 refine⟨fun h13=>have q13:=Aq h13;have p13:=(Db dT (Db dT (Db dT (Db dT (Db dT (Db dT dF)))))).1 q13;?_,fun h13=>have q13:=Ao h13;have p13:=(Da dT (Da dT (Da dT (Da dT (Da dT (Da dT dT)))))).1 q13;?_⟩
 refine⟨(sB ?_),rfl⟩
 rotate_left
 refine dsp (fun h14 p14=>?_) fun h14 p14=>?_
 refine dsp (fun h15 p15=>?_) fun h15 p15=>?_
 refine⟨(sB ?_),rfl⟩
 rotate_left
 refine⟨fun h16=>have q16:=Aq h16;have p16:=of_decide_eq_false q16;?_,fun h16=>have q16:=Ao h16;have p16:=of_decide_eq_true q16;?_⟩
 refine⟨h12,(D0 d Q2),dsp (fun h17 p17=>?_) fun h17 p17=>?_⟩
 refine⟨(sB ?_),rfl⟩
 rotate_left
 refine⟨(Cq d Q2),fun h18=>?_,fun h18=>?_⟩
 refine⟨(Cp d Q2),(sB ?_),rfl⟩
 rotate_left
 refine⟨(sB ?_),rfl⟩
 rotate_left
 refine⟨(Cq d Q2),fun h17=>?_,fun h17=>?_⟩
 refine⟨(Cp d Q2),(sB ?_),rfl⟩
 rotate_left
 refine⟨(sB ?_),rfl⟩
 rotate_left
 refine⟨fun h15=>have q15:=Aq h15;have p15:=of_decide_eq_false q15;?_,fun h15=>have q15:=Ao h15;have p15:=of_decide_eq_true q15;?_⟩
 refine⟨h12,(D0 d Q2),dsp (fun h16 p16=>?_) fun h16 p16=>?_⟩
 refine⟨(sB ?_),rfl⟩
 rotate_left
 refine⟨(Cq d Q2),fun h17=>?_,fun h17=>?_⟩
 refine⟨(Cp d Q2),(sB ?_),rfl⟩
 rotate_left
 refine⟨(sB ?_),rfl⟩
 rotate_left
 refine⟨(Cq d Q2),fun h16=>?_,fun h16=>?_⟩
 refine⟨(Cp d Q2),(sB ?_),rfl⟩
 rotate_left
 refine⟨(sB ?_),rfl⟩
 rotate_left
 refine dsp (fun h13 p13=>?_) fun h13 p13=>?_
 refine dsp (fun h14 p14=>?_) fun h14 p14=>?_
 refine⟨(sB ?_),rfl⟩
 rotate_left
 refine⟨fun h15=>have q15:=Aq h15;have p15:=of_decide_eq_false q15;?_,fun h15=>have q15:=Ao h15;have p15:=of_decide_eq_true q15;?_⟩
 refine⟨h12,(Cq d Q2),fun h16=>?_,fun h16=>?_⟩
 refine⟨(Cp d Q2),(sB ?_),rfl⟩
 rotate_left
 refine⟨(sB ?_),rfl⟩
 rotate_left
 refine⟨(Cq d Q2),fun h16=>?_,fun h16=>?_⟩
 refine⟨(Cp d Q2),(sB ?_),rfl⟩
 rotate_left
 refine⟨(sB ?_),rfl⟩
 rotate_left
 refine⟨fun h14=>have q14:=Aq h14;have p14:=of_decide_eq_false q14;?_,fun h14=>have q14:=Ao h14;have p14:=of_decide_eq_true q14;?_⟩
 refine⟨h12,(Cq d Q2),fun h15=>?_,fun h15=>?_⟩
 refine⟨(Cp d Q2),(sB ?_),rfl⟩
 rotate_left
 refine⟨(sB ?_),rfl⟩
 rotate_left
 refine⟨(Cq d Q2),fun h15=>?_,fun h15=>?_⟩
 refine⟨(Cp d Q2),(sB ?_),rfl⟩
 rotate_left
 refine⟨(sB ?_),rfl⟩
 rotate_left
 refine⟨fun h10=>have q10:=Aq h10;have p10:=of_decide_eq_false q10;?_,fun h10=>have q10:=Ao h10;have p10:=of_decide_eq_true q10;?_⟩
 refine⟨fun h11=>have q11:=Aq h11;have p11:=(Db dT (Db dT (Db dT (Db dT (Db dT (Db dT dF)))))).1 q11;?_,fun h11=>have q11:=Ao h11;have p11:=(Da dT (Da dT (Da dT (Da dT (Da dT (Da dT dT)))))).1 q11;?_⟩
 refine⟨(sB ?_),rfl⟩
 rotate_left
 refine dsp (fun h12 p12=>?_) fun h12 p12=>?_
 refine dsp (fun h13 p13=>?_) fun h13 p13=>?_
 refine⟨(sB ?_),rfl⟩
 rotate_left
 refine⟨fun h14=>have q14:=Aq h14;have p14:=of_decide_eq_false q14;?_,fun h14=>have q14:=Ao h14;have p14:=of_decide_eq_true q14;?_⟩
 refine⟨h10,(D0 d Q2),dsp (fun h15 p15=>?_) fun h15 p15=>?_⟩
 refine⟨(sB ?_),rfl⟩
 rotate_left
 refine⟨(Cq d Q2),fun h16=>?_,fun h16=>?_⟩
 refine⟨(Cp d Q2),(sB ?_),rfl⟩
 rotate_left
 refine⟨(sB ?_),rfl⟩
 rotate_left
 refine⟨(Cq d Q2),fun h15=>?_,fun h15=>?_⟩
 refine⟨(Cp d Q2),(sB ?_),rfl⟩
 rotate_left
 refine⟨(sB ?_),rfl⟩
 rotate_left
 refine⟨fun h13=>have q13:=Aq h13;have p13:=of_decide_eq_false q13;?_,fun h13=>have q13:=Ao h13;have p13:=of_decide_eq_true q13;?_⟩
 refine⟨h10,(D0 d Q2),dsp (fun h14 p14=>?_) fun h14 p14=>?_⟩
 refine⟨(sB ?_),rfl⟩
 rotate_left
 refine⟨(Cq d Q2),fun h15=>?_,fun h15=>?_⟩
 refine⟨(Cp d Q2),(sB ?_),rfl⟩
 rotate_left
 refine⟨(sB ?_),rfl⟩
 rotate_left
 refine⟨(Cq d Q2),fun h14=>?_,fun h14=>?_⟩
 refine⟨(Cp d Q2),(sB ?_),rfl⟩
 rotate_left
 refine⟨(sB ?_),rfl⟩
 rotate_left
 refine dsp (fun h11 p11=>?_) fun h11 p11=>?_
 refine dsp (fun h12 p12=>?_) fun h12 p12=>?_
 refine⟨(sB ?_),rfl⟩
 rotate_left
 refine⟨fun h13=>have q13:=Aq h13;have p13:=of_decide_eq_false q13;?_,fun h13=>have q13:=Ao h13;have p13:=of_decide_eq_true q13;?_⟩
 refine⟨h10,(Cq d Q2),fun h14=>?_,fun h14=>?_⟩
 refine⟨(Cp d Q2),(sB ?_),rfl⟩
 rotate_left
 refine⟨(sB ?_),rfl⟩
 rotate_left
 refine⟨(Cq d Q2),fun h14=>?_,fun h14=>?_⟩
 refine⟨(Cp d Q2),(sB ?_),rfl⟩
 rotate_left
 refine⟨(sB ?_),rfl⟩
 rotate_left
 refine⟨fun h12=>have q12:=Aq h12;have p12:=of_decide_eq_false q12;?_,fun h12=>have q12:=Ao h12;have p12:=of_decide_eq_true q12;?_⟩
 refine⟨h10,(Cq d Q2),fun h13=>?_,fun h13=>?_⟩
 refine⟨(Cp d Q2),(sB ?_),rfl⟩
 rotate_left
 refine⟨(sB ?_),rfl⟩
 rotate_left
 refine⟨(Cq d Q2),fun h13=>?_,fun h13=>?_⟩
 refine⟨(Cp d Q2),(sB ?_),rfl⟩
 rotate_left
 refine⟨(sB ?_),rfl⟩
 rotate_left
 refine dsp (fun h8 p8=>?_) fun h8 p8=>?_
 refine⟨(Z0 d.end_),fun h9=>have q9:=Aq h9;?_,fun h9=>have q9:=Ao h9;?_⟩
 refine⟨(sB ?_),rfl⟩
 rotate_left
 refine⟨(Xf d.end_),fun h10=>have q10:=Aq h10;?_,fun h10=>have q10:=Ao h10;?_⟩
 refine⟨(sB ?_),rfl⟩
 rotate_left
 refine⟨fun h11=>have q11:=Aq h11;have p11:=of_decide_eq_false q11;?_,fun h11=>have q11:=Ao h11;have p11:=of_decide_eq_true q11;?_⟩
 refine⟨fun h12=>have q12:=Aq h12;have p12:=(Db dT (Db dT (Db dT (Db dT (Db dT (Db dT dF)))))).1 q12;?_,fun h12=>have q12:=Ao h12;have p12:=(Da dT (Da dT (Da dT (Da dT (Da dT (Da dT dT)))))).1 q12;?_⟩
 refine⟨(sB ?_),rfl⟩
 rotate_left
 refine dsp (fun h13 p13=>?_) fun h13 p13=>?_
 refine dsp (fun h14 p14=>?_) fun h14 p14=>?_
 refine⟨(sB ?_),rfl⟩
 rotate_left
 refine⟨fun h15=>have q15:=Aq h15;have p15:=of_decide_eq_false q15;?_,fun h15=>have q15:=Ao h15;have p15:=of_decide_eq_true q15;?_⟩
 refine⟨h11,(D0 d Q2),dsp (fun h16 p16=>?_) fun h16 p16=>?_⟩
 refine⟨(sB ?_),rfl⟩
 rotate_left
 refine⟨(Cq d Q2),fun h17=>?_,fun h17=>?_⟩
 refine⟨(Cp d Q2),(sB ?_),rfl⟩
 rotate_left
 refine⟨(sB ?_),rfl⟩
 rotate_left
 refine⟨(Cq d Q2),fun h16=>?_,fun h16=>?_⟩
 refine⟨(Cp d Q2),(sB ?_),rfl⟩
 rotate_left
 refine⟨(sB ?_),rfl⟩
 rotate_left
 refine⟨fun h14=>have q14:=Aq h14;have p14:=of_decide_eq_false q14;?_,fun h14=>have q14:=Ao h14;have p14:=of_decide_eq_true q14;?_⟩
 refine⟨h11,(D0 d Q2),dsp (fun h15 p15=>?_) fun h15 p15=>?_⟩
 refine⟨(sB ?_),rfl⟩
 rotate_left
 refine⟨(Cq d Q2),fun h16=>?_,fun h16=>?_⟩
 refine⟨(Cp d Q2),(sB ?_),rfl⟩
 rotate_left
 refine⟨(sB ?_),rfl⟩
 rotate_left
 refine⟨(Cq d Q2),fun h15=>?_,fun h15=>?_⟩
 refine⟨(Cp d Q2),(sB ?_),rfl⟩
 rotate_left
 refine⟨(sB ?_),rfl⟩
 rotate_left
 refine dsp (fun h12 p12=>?_) fun h12 p12=>?_
 refine dsp (fun h13 p13=>?_) fun h13 p13=>?_
 refine⟨(sB ?_),rfl⟩
 rotate_left
 refine⟨fun h14=>have q14:=Aq h14;have p14:=of_decide_eq_false q14;?_,fun h14=>have q14:=Ao h14;have p14:=of_decide_eq_true q14;?_⟩
 refine⟨h11,(Cq d Q2),fun h15=>?_,fun h15=>?_⟩
 refine⟨(Cp d Q2),(sB ?_),rfl⟩
 rotate_left
 refine⟨(sB ?_),rfl⟩
 rotate_left
 refine⟨(Cq d Q2),fun h15=>?_,fun h15=>?_⟩
 refine⟨(Cp d Q2),(sB ?_),rfl⟩
 rotate_left
 refine⟨(sB ?_),rfl⟩
 rotate_left
 refine⟨fun h13=>have q13:=Aq h13;have p13:=of_decide_eq_false q13;?_,fun h13=>have q13:=Ao h13;have p13:=of_decide_eq_true q13;?_⟩
 refine⟨h11,(Cq d Q2),fun h14=>?_,fun h14=>?_⟩
 refine⟨(Cp d Q2),(sB ?_),rfl⟩
 rotate_left
 refine⟨(sB ?_),rfl⟩
 rotate_left
 refine⟨(Cq d Q2),fun h14=>?_,fun h14=>?_⟩
 refine⟨(Cp d Q2),(sB ?_),rfl⟩
 rotate_left
 refine⟨(sB ?_),rfl⟩
 rotate_left
 refine⟨fun h9=>have q9:=Aq h9;have p9:=of_decide_eq_false q9;?_,fun h9=>have q9:=Ao h9;have p9:=of_decide_eq_true q9;?_⟩
 refine⟨fun h10=>have q10:=Aq h10;have p10:=(Db dT (Db dT (Db dT (Db dT (Db dT (Db dT dF)))))).1 q10;?_,fun h10=>have q10:=Ao h10;have p10:=(Da dT (Da dT (Da dT (Da dT (Da dT (Da dT dT)))))).1 q10;?_⟩
 refine⟨(sB ?_),rfl⟩
 rotate_left
 refine dsp (fun h11 p11=>?_) fun h11 p11=>?_
 refine dsp (fun h12 p12=>?_) fun h12 p12=>?_
 refine⟨(sB ?_),rfl⟩
 rotate_left
 refine⟨fun h13=>have q13:=Aq h13;have p13:=of_decide_eq_false q13;?_,fun h13=>have q13:=Ao h13;have p13:=of_decide_eq_true q13;?_⟩
 refine⟨h9,(D0 d Q2),dsp (fun h14 p14=>?_) fun h14 p14=>?_⟩
 refine⟨(sB ?_),rfl⟩
 rotate_left
 refine⟨(Cq d Q2),fun h15=>?_,fun h15=>?_⟩
 refine⟨(Cp d Q2),(sB ?_),rfl⟩
 rotate_left
 refine⟨(sB ?_),rfl⟩
 rotate_left
 refine⟨(Cq d Q2),fun h14=>?_,fun h14=>?_⟩
 refine⟨(Cp d Q2),(sB ?_),rfl⟩
 rotate_left
 refine⟨(sB ?_),rfl⟩
 rotate_left
 refine⟨fun h12=>have q12:=Aq h12;have p12:=of_decide_eq_false q12;?_,fun h12=>have q12:=Ao h12;have p12:=of_decide_eq_true q12;?_⟩
 refine⟨h9,(D0 d Q2),dsp (fun h13 p13=>?_) fun h13 p13=>?_⟩
 refine⟨(sB ?_),rfl⟩
 rotate_left
 refine⟨(Cq d Q2),fun h14=>?_,fun h14=>?_⟩
 refine⟨(Cp d Q2),(sB ?_),rfl⟩
 rotate_left
 refine⟨(sB ?_),rfl⟩
 rotate_left
 refine⟨(Cq d Q2),fun h13=>?_,fun h13=>?_⟩
 refine⟨(Cp d Q2),(sB ?_),rfl⟩
 rotate_left
 refine⟨(sB ?_),rfl⟩
 rotate_left
 refine dsp (fun h10 p10=>?_) fun h10 p10=>?_
 refine dsp (fun h11 p11=>?_) fun h11 p11=>?_
 refine⟨(sB ?_),rfl⟩
 rotate_left
 refine⟨fun h12=>have q12:=Aq h12;have p12:=of_decide_eq_false q12;?_,fun h12=>have q12:=Ao h12;have p12:=of_decide_eq_true q12;?_⟩
 refine⟨h9,(Cq d Q2),fun h13=>?_,fun h13=>?_⟩
 refine⟨(Cp d Q2),(sB ?_),rfl⟩
 rotate_left
 refine⟨(sB ?_),rfl⟩
 rotate_left
 refine⟨(Cq d Q2),fun h13=>?_,fun h13=>?_⟩
 refine⟨(Cp d Q2),(sB ?_),rfl⟩
 rotate_left
 refine⟨(sB ?_),rfl⟩
 rotate_left
 refine⟨fun h11=>have q11:=Aq h11;have p11:=of_decide_eq_false q11;?_,fun h11=>have q11:=Ao h11;have p11:=of_decide_eq_true q11;?_⟩
 refine⟨h9,(Cq d Q2),fun h12=>?_,fun h12=>?_⟩
 refine⟨(Cp d Q2),(sB ?_),rfl⟩
 rotate_left
 refine⟨(sB ?_),rfl⟩
 rotate_left
 refine⟨(Cq d Q2),fun h12=>?_,fun h12=>?_⟩
 refine⟨(Cp d Q2),(sB ?_),rfl⟩
 rotate_left
 refine⟨(sB ?_),rfl⟩
 rotate_left
 all_goals first|(simp_all[Ce,Aez,Kw,F8,Agq];done)|(grind[Ce,Aez,Kw,F8,Agq])
structure Acq where
 v:Bool
structure Ak0 where
 u_:Nat
structure Acr where
 wires:Bool
structure Acs where
 v:Bool
theorem Yo (l:List Lev) (hp1:List.length l≤Bn):Fun Tryz.prog 101 [.c (.seq .lev l)] [] (.v (vO 0)) [.lst .lev l]:=by
 refine⟨Mm Tryz.func101 Q4 Q4,?_⟩
 have key:Sm Tryz.prog 8 0 (Ait Tryz.f101 1) [(2,.v (.c .nil)),(0,.v (.c (.seq .lev l)))] [] .ret [(2,.v (.c (.own 0)))] [.lst .lev l]:=by
  refine Sm.nilTest' (s:=0) (t3:=3) (t4:=4) (t:= .lev) (l:=l) rfl rfl rfl rfl rfl rfl rfl Tryz.underlying41 Q4 rfl rfl rfl fun p hp=>?_
  cases p with
  |true=>
   have hl:=hp rfl
   subst hl
   exact .inr ⟨by decide,Hm (ds:=[.br true,.at 0,.mkS 2 .lev,.keep [2],.sel [0]]) (ob:=[true=true]) Q4 ⟨rfl,trivial⟩⟩
  |false=>
   exact .inl ⟨[(0,.v (.c (.seq .lev l)))],[],Hm (ds:=[.br false,.at 0,.keep [0],.sel []]) (ob:=[false=false]) Q4 ⟨rfl,trivial⟩,
    (Hm (tm':=[(2,.v (.c (.own 0)))]) (H':=[.lst .lev ([]++l)]) (ds:=[.ty .lev,.ty .lev,.at 0,.keep [2],.sel [1]]) (ob:=[List.length ([]:List Lev)+List.length l≤Bn]) (by kernel_rfl) ⟨by simpa using hp1,trivial⟩).to (by rfl) (by rfl)⟩
 exact Wy Tryz.func101 (res:= .v (.c (.own 0))) (L':=[.lst .lev l]) (ds:=[.jump 1 .ret [(2,.v (.c (.own 0)))] [.lst .lev l]]) (σ:=[0]) (ob:=[Sm Tryz.prog 8 0 (Ait Tryz.f101 1) [(2,.v (.c .nil)),(0,.v (.c (.seq .lev l)))] [] .ret [(2,.v (.c (.own 0)))] [.lst .lev l]]) Q4 ⟨key,trivial⟩
theorem Ai7 (l:List Fld) (hp1:List.length l≤Bn):Fun Tryz.prog 161 [.c (.seq .fld l)] [] (.v (vO 0)) [.lst .fld l]:=by
 refine⟨Mm Tryz.func161 Q4 Q4,?_⟩
 have key:Sm Tryz.prog 8 0 (Ait Tryz.f161 1) [(2,.v (.c .nil)),(0,.v (.c (.seq .fld l)))] [] .ret [(2,.v (.c (.own 0)))] [.lst .fld l]:=by
  refine Sm.nilTest' (s:=0) (t3:=3) (t4:=4) (t:= .fld) (l:=l) rfl rfl rfl rfl rfl rfl rfl Tryz.underlying62 Q4 rfl rfl rfl fun p hp=>?_
  cases p with
  |true=>
   have hl:=hp rfl
   subst hl
   exact .inr ⟨by decide,Hm (ds:=[.br true,.at 0,.mkS 2 .fld,.keep [2],.sel [0]]) (ob:=[true=true]) Q4 ⟨rfl,trivial⟩⟩
  |false=>
   exact .inl ⟨[(0,.v (.c (.seq .fld l)))],[],Hm (ds:=[.br false,.at 0,.keep [0],.sel []]) (ob:=[false=false]) Q4 ⟨rfl,trivial⟩,
    (Hm (tm':=[(2,.v (.c (.own 0)))]) (H':=[.lst .fld ([]++l)]) (ds:=[.ty .fld,.ty .fld,.at 0,.keep [2],.sel [1]]) (ob:=[List.length ([]:List Fld)+List.length l≤Bn]) (by kernel_rfl) ⟨by simpa using hp1,trivial⟩).to (by rfl) (by rfl)⟩
 exact Wy Tryz.func161 (res:= .v (.c (.own 0))) (L':=[.lst .fld l]) (ds:=[.jump 1 .ret [(2,.v (.c (.own 0)))] [.lst .fld l]]) (σ:=[0]) (ob:=[Sm Tryz.prog 8 0 (Ait Tryz.f161 1) [(2,.v (.c .nil)),(0,.v (.c (.seq .fld l)))] [] .ret [(2,.v (.c (.own 0)))] [.lst .fld l]]) Q4 ⟨key,trivial⟩
structure K2 where
 sh:List Shp
 v:Nat
def K3 (s:List Shp):Fam:=⟨K2,fun q1=>[(2,.v (vP 0)),(3,.v (vP 1)),(8,.v (.c (.seq .shp s))),(9,.v (vI ((List.length s:Nat):Int))),(10,.v (vI ((q1.v:Nat):Int)))],fun q1=>[.cells [.nil],.cells [.own 2],.tree q1.sh],fun q1=>q1.v≤List.length s∧q1.sh=List.take q1.v s,fun q1=>List.length s-q1.v⟩
theorem Ags (s:List Shp) (hp1:List.length s≤1048576) (hp2: ∀e∈s,List.length e.fields≤1048576):Fun Tryz.prog 98 [.agg [.seq .shp s]] [] (.v (.agg [.own 0])) [.tree s]:=by
 have hN:Bn=274877906944:=rfl
 refine Av Tryz.func98 Q4 Q4 (w:=let z2:=((List.length s:Nat):Int);let z3:=K3 s;(.seg [.at 0,.mkT 2 0,.keep [2,3,8,9,10],.sel [1,2,3]] (.loop z3 fun q1=> .br (.intro (Sx (s[q1.v]?)) fun x1=> .seg [.el .shp x1,.ord (os 12 [6,8,9,11]) [2],.call [] (.v (vO 0)) [.lst .fld x1.fields],.tyT,.tyT,.as 25 (.v (vI (((q1.v:Nat):Int)+1))),.at 0,.keep [2,3,8,9,10],.sel [0,1,6]] (.next)) (.leaf () [2])),z3.Has [(2,.v (vP 0)),(3,.v (vP 1)),(8,.v (.c (.seq .shp s))),(9,.v (vI z2)),(10,.v (vI 0))] [.cells [.nil],.cells [.own 2],.tree ([]:List Shp)]∧∀q1,z3.inv q1→(let z1:=((q1.v:Nat):Int);Bc (decide (z1<z2)) (El (s[q1.v]?) fun x1=>((s[q1.v]? =some x1)∧((0:Int)≤z1)∧(Fp 161 [.c (.seq .fld x1.fields)] [] (.v (vO 0)) [.lst .fld x1.fields])∧(List.length q1.sh+List.length [(⟨x1.id,x1.fields⟩:Shp)]≤Bn)∧(wI (z1+1))∧z3.Nxt q1 [(2,.v (vP 0)),(3,.v (vP 1)),(8,.v (.c (.seq .shp s))),(9,.v (vI z2)),(10,.v (vI (z1+1)))] [.cells [.nil],.cells [.own 2],.tree (q1.sh++[(⟨x1.id,x1.fields⟩:Shp)])])) (Lf (.v (.agg [.own 0])) (.v (.agg [.own 0])) [.tree q1.sh] [.tree s])))) Q4 ?_
 refine⟨Cm (j:=(⟨([]:List Shp),0⟩:K2)) Q9 rfl (by dsimp only[K3];exact⟨by omega,by simp⟩),fun (q1:K2) hq_q1=>?_⟩
 have hi_q1:q1.v≤List.length s∧q1.sh=List.take q1.v s:=hq_q1
 obtain ⟨v1,v2⟩:=hi_q1
 have hsl:=congrArg List.length v2
 rw[List.length_take] at hsl
 refine dsp (fun h1 p1=>?_) fun h1 p1=>?_
 refine⟨(Bo (l:=s) (i:=q1.v) Q2),fun x1 hx1=>?_⟩
 have hfx:=hp2 x1 (List.mem_of_getElem? hx1)
 exact⟨hx1,Q2,(Ai7 x1.fields Q2),Q5,(Af Q2 Q2),Be (j:=(⟨q1.sh++[(⟨x1.id,x1.fields⟩:Shp)],q1.v+1⟩:K2)) Q9 rfl (by dsimp only[K3];exact⟨by omega,by rw[v2,List.take_succ_eq_append_getElem (by omega)];simp[(List.getElem?_eq_some_iff.1 hx1).2]⟩) (by dsimp only[K3];omega)⟩
 refine⟨rfl,(Ac (congrArg Blk.tree ?_) rfl)⟩
 rotate_left
 all_goals first|(rfl)|((rw[v2,List.take_of_length_le (by omega)];done))
theorem Rz (p:Pln) (hp1:List.length (p).shapes≤1048576) (hp2: ∀e∈(p).shapes,List.length e.fields≤1048576):Fun Tryz.prog 47 [.agg (Gw p)] [] (.v (.agg (Ads 0 p))) [.tree p.shapes]:=by
 have hN:Bn=274877906944:=rfl
 refine Av Tryz.func47 Q4 Q4 (w:=(.seg [.call [] (.v (.agg [.own 0])) [.tree p.shapes]] (.leaf () [2]),(Fp 98 [.agg [.seq .shp p.shapes]] [] (.v (.agg [.own 0])) [.tree p.shapes])∧Lf (.v (.agg (Ads 0 p))) (.v (.agg (Ads 0 p))) [.tree p.shapes] [.tree p.shapes])) Q4 ?_
 exact⟨(Ags p.shapes Q2 (hp2)),rfl,rfl⟩
theorem Z1 (d:Dcd) (hp1:List.length (d).plan.shapes≤1048576) (hp2: ∀e∈(d).plan.shapes,List.length e.fields≤1048576) (hp3:List.length (d).stack≤1048576):Fun Tryz.prog 50 [.agg (C4 d)] [] (.v (.agg (C6 0 1 d))) [.tree d.plan.shapes,.lst .lev d.stack]:=by
 have hN:Bn=274877906944:=rfl
 refine Av Tryz.func50 Q4 Q4 (w:=let zi:Int→C:= .int .i64;let z1:List C:=[.nil,zi 0,zi 0,zi 0,zi 0,.nil,.int .u64 0,zi 0,zi 0,zi 0,zi 0,zi 0,.bool false,.bool false,zi 0,zi 0,zi 0,zi 0,zi 0,zi 0,zi 0,zi 0,.int .u64 0,zi 0,.str [],zi 0,zi 0];let z2:List Blk:=[.cells (C6 1 2 d),.tree d.plan.shapes,.lst .lev d.stack,.cells z1];let z3:S:= .v (.agg (Ads 0 d.plan));let z4:=([(1,.v (vP 0)),(2,.v (vP 3))]:List (Nat×S))=[(1,.v (vP 0)),(2,.v (vP 3))];let z5:List Blk:=[.lst .lev d.stack];let z6:S:= .v (vO 0);(.seg [.tree (.first 0 (.first 3 (.two 1 (.two 2 (.one 4 (.first 6 (.one 5 (.one 7 (.first 8 (.one 9 (.done))))))) 4 (.one 2 (.first 6 (.one 5 (.one 7 (.first 8 (.one 9 (.done)))))))) 4 (.one 1 (.one 2 (.first 6 (.one 5 (.one 7 (.first 8 (.one 9 (.done))))))))))) 9 [0],.call [] z3 [.tree d.plan.shapes],.call [] z6 z5,.at 0,.keep [1,2],.sel [0,2,3,1],.call [] z3 [.tree d.plan.shapes],.call [] z6 z5,.at 0,.keep [1,2],.sel [0,2,3,1],.call [] z3 [.tree d.plan.shapes],.call [] z6 z5,.at 0,.keep [1,2],.sel [0,2,3,1]] (.leaf () [1,2]),(Fp 47 [.agg (Gw d.plan)] [] z3 [.tree d.plan.shapes])∧(Fp 101 [.c (.seq .lev d.stack)] [] z6 z5)∧(Fp 47 [.agg (Gw d.plan)] [] z3 [.tree d.plan.shapes])∧(Fp 101 [.c (.seq .lev d.stack)] [] z6 z5)∧((z2:List Blk)=z2)∧z4∧(Fp 47 [.agg (Gw d.plan)] [] z3 [.tree d.plan.shapes])∧(Fp 101 [.c (.seq .lev d.stack)] [] z6 z5)∧((z2:List Blk)=z2)∧z4∧Lf (.v (.agg (C6 0 1 d))) (.v (.agg (C6 0 1 d))) (L2 d) (L2 d))) Q4 ?_
 exact⟨(Rz d.plan Q2 (hp2)),(Yo d.stack Q2),(Rz d.plan Q2 (hp2)),(Yo d.stack Q2),rfl,rfl,(Rz d.plan Q2 (hp2)),(Yo d.stack Q2),rfl,rfl,rfl,rfl⟩
theorem Ai8 (p:Pln) (hp1:List.length (p).shapes≤Bn):Fun Tryz.prog 19 [.agg (Gw p)] [] (.tup [.agg (C6 0 1 (B5 p)),vB (B1 p)]) [.tree (B5 p).plan.shapes,.lst .lev (B5 p).stack]:=by
 have hN:Bn=274877906944:=rfl
 refine Av Tryz.func19 Q4 Q4 (w:=let zi:Int→C:= .int .i64;let z1:List C:=[.own 1,.int .u64 0,zi 0,zi 0,zi 0,zi 0,zi 0,.bool false,.bool false,zi 0,zi 0,zi 0,zi 0,zi 0,zi 0,zi 0,zi 0,.int .u64 0,zi 0,.str [],zi 0,zi 0];let z2:S:= .tup [.agg (C6 0 1 (B5 p)),vB (B1 p)];(.seg [.call [] (.v (vB (B1 p))) []] (.br (.seg [.at 0,.mkT 1 0,.mk 1 5 .lev] (.leaf () [2,3])) (.seg [.call [] (.v (.agg (Ads 0 p))) [.tree p.shapes],.at 0,.mk 1 5 .lev] (.leaf () [2,3]))),(Fp 46 [.agg (Gw p)] [] (.v (vB (B1 p))) [])∧Bc (!(B1 p)) (Lf (.tup [.agg (.own 0::zi 0::zi 0::zi 0::zi 0::z1),vB false]) z2 [.tree ([]:List Shp),.lst .lev ([]:List Lev)] (L2 (B5 p))) ((Fp 47 [.agg (Gw p)] [] (.v (.agg (Ads 0 p))) [.tree p.shapes])∧Lf (.tup [.agg (.own 0::zi p.root::zi p.deep::zi p.most::zi 1::z1),vB true]) z2 [.tree p.shapes,.lst .lev ([]:List Lev)] (L2 (B5 p))))) Q4 ?_
 refine⟨(Acn p),fun h1=>have q1:=Aq h1;?_,fun h1=>have q1:=Ao h1;have p1:=Cd q1;?_⟩
 refine zE (B5 p) (⟨(⟨([]:List Shp),0,0,0⟩:Pln),0,([]:List Lev),(⟨0,0⟩:Scn),0,0,(⟨0,0,false,false,0⟩:Fld),0,0,(⟨0,0,0⟩:Utf),(⟨0,0,0,0,[],0,0⟩:Ev)⟩:Dcd) (fun hm1=>⟨(congrArg S.tup (Ac (congrArg V.agg (Ac rfl (Ac (congrArg (C.int .i64) ?_) (Ac (congrArg (C.int .i64) ?_) (Ac (congrArg (C.int .i64) ?_) (Ac (congrArg (C.int .i64) ?_) (Ac rfl (Ac (congrArg (C.int .u64) ?_) (Ac (congrArg (C.int .i64) ?_) (Ac (congrArg (C.int .i64) ?_) (Ac (congrArg (C.int .i64) ?_) (Ac (congrArg (C.int .i64) ?_) (Ac (congrArg (C.int .i64) ?_) (Ac (congrArg C.bool ?_) (Ac (congrArg C.bool ?_) (Ac (congrArg (C.int .i64) ?_) (Ac (congrArg (C.int .i64) ?_) (Ac (congrArg (C.int .i64) ?_) (Ac (congrArg (C.int .i64) ?_) (Ac (congrArg (C.int .i64) ?_) (Ac (congrArg (C.int .i64) ?_) (Ac (congrArg (C.int .i64) ?_) (Ac (congrArg (C.int .i64) ?_) (Ac (congrArg (C.int .u64) ?_) (Ac (congrArg (C.int .i64) ?_) (Ac (congrArg C.str ?_) (Ac (congrArg (C.int .i64) ?_) (Ac (congrArg (C.int .i64) ?_) rfl)))))))))))))))))))))))))))) (Ac (congrArg V.c (congrArg C.bool ?_)) rfl))),Q7⟩) ?_
 rotate_left 27
 have hpt:=Cd q1
 refine zE (B5 p) (⟨p,1,([]:List Lev),(⟨0,0⟩:Scn),0,0,(⟨0,0,false,false,0⟩:Fld),0,0,(⟨0,0,0⟩:Utf),(⟨0,0,0,0,[],0,0⟩:Ev)⟩:Dcd) (fun hm1=>⟨(Rz p Q2 (Lo hpt.2.1)),(congrArg S.tup (Ac (congrArg V.agg (Ac rfl (Ac (congrArg (C.int .i64) ?_) (Ac (congrArg (C.int .i64) ?_) (Ac (congrArg (C.int .i64) ?_) (Ac (congrArg (C.int .i64) ?_) (Ac rfl (Ac (congrArg (C.int .u64) ?_) (Ac (congrArg (C.int .i64) ?_) (Ac (congrArg (C.int .i64) ?_) (Ac (congrArg (C.int .i64) ?_) (Ac (congrArg (C.int .i64) ?_) (Ac (congrArg (C.int .i64) ?_) (Ac (congrArg C.bool ?_) (Ac (congrArg C.bool ?_) (Ac (congrArg (C.int .i64) ?_) (Ac (congrArg (C.int .i64) ?_) (Ac (congrArg (C.int .i64) ?_) (Ac (congrArg (C.int .i64) ?_) (Ac (congrArg (C.int .i64) ?_) (Ac (congrArg (C.int .i64) ?_) (Ac (congrArg (C.int .i64) ?_) (Ac (congrArg (C.int .i64) ?_) (Ac (congrArg (C.int .u64) ?_) (Ac (congrArg (C.int .i64) ?_) (Ac (congrArg C.str ?_) (Ac (congrArg (C.int .i64) ?_) (Ac (congrArg (C.int .i64) ?_) rfl)))))))))))))))))))))))))))) (Ac (congrArg V.c (congrArg C.bool ?_)) rfl))),Q7⟩) ?_
 rotate_left 27
 all_goals first|(simp_all[B5,utf0];done)|(grind[B5,utf0])
structure Ak1 where
 sh:List Shp
 i:Nat
theorem F4 (m:Mac) (e:Ev) (hp1:List.length (m).out≤200000000):Fun Tryz.prog 88 [vP 0,.agg (cEv e)] [.cells (Ab 1 2 3 m),.tree m.d.plan.shapes,.lst .lev m.d.stack,.lst .ev m.out] (.tup []) [.cells (Ab 1 2 4 m),.tree (m).d.plan.shapes,.lst .lev (m).d.stack,.dead,.lst .ev ((m).out++[e])]:=by
 have hN:Bn=274877906944:=rfl
 refine Av Tryz.func88 Q4 Q4 (w:=(.seg [.ord (os 11 [6,7,10]) [3],.ty .ev,.ty .ev] (.leaf () [0,1,2,3,6]),(List.length m.out+List.length [e]≤Bn)∧Lf (.tup []) (.tup []) [.cells (Ab 1 2 4 m),.tree m.d.plan.shapes,.lst .lev m.d.stack,.dead,.lst .ev (m.out++[e])] [.cells (Ab 1 2 4 m),.tree (m).d.plan.shapes,.lst .lev (m).d.stack,.dead,.lst .ev ((m).out++[e])])) Q4 ?_
 exact⟨Q5,rfl,(Ac rfl (Ac (congrArg Blk.tree (by rfl)) (Ac (congrArg (Blk.lst .lev) (by rfl)) (Ac rfl (Ac (congrArg (Blk.lst .ev) (by rfl)) rfl)))))⟩
theorem B8 (m:Mac) (c:Int) (a:Int) (hp1:List.length (m).out≤200000000):Fun Tryz.prog 52 [vP 0,vI c,vI a] [.cells (Ab 1 2 3 m),.tree m.d.plan.shapes,.lst .lev m.d.stack,.lst .ev m.out] (.tup []) [.cells (Ab 1 2 4 (A3 m c a)),.tree (A3 m c a).d.plan.shapes,.lst .lev (A3 m c a).d.stack,.dead,.lst .ev (A3 m c a).out]:=by
 have hN:Bn=274877906944:=rfl
 refine Av Tryz.func52 Q4 Q4 (w:=let zi:Int→C:= .int .i64;let z3:=Bh c a;let z1:List C:=[.own 1,zi m.d.plan.root,zi m.d.plan.deep,zi m.d.plan.most,zi 9,.own 2,.int .u64 0,zi 0,zi m.d.start,zi m.d.at_,zi m.d.field.number,zi m.d.field.kind,.bool m.d.field.rep,.bool m.d.field.packed,zi m.d.field.msg,zi m.d.wire,zi 0,zi m.d.utf.want,zi m.d.utf.low,zi m.d.utf.high,zi z3.kind,zi z3.field,.int .u64 z3.bits,zi z3.len,.str z3.text,zi z3.code,zi z3.at_,.own 4];let z2:List Blk:=[.cells z1,.tree m.d.plan.shapes,.lst .lev m.d.stack,.dead,.lst .ev (m.out++[z3])];let z4:=A3 m c a;(.seg [.call [] (.v (.agg (cEv z3))) [],.call [0,1,2,3] (.tup []) z2] (.leaf () [0,1,2,3,4]),(Fp 111 [vI c,vI a] [] (.v (.agg (cEv z3))) [])∧(Fp 88 [vP 0,.agg (cEv z3)] [.cells [.own 1,zi m.d.plan.root,zi m.d.plan.deep,zi m.d.plan.most,zi 9,.own 2,.int .u64 0,zi 0,zi m.d.start,zi m.d.at_,zi m.d.field.number,zi m.d.field.kind,.bool m.d.field.rep,.bool m.d.field.packed,zi m.d.field.msg,zi m.d.wire,zi 0,zi m.d.utf.want,zi m.d.utf.low,zi m.d.utf.high,zi z3.kind,zi z3.field,.int .u64 z3.bits,zi z3.len,.str z3.text,zi z3.code,zi z3.at_,.own 3],.tree m.d.plan.shapes,.lst .lev m.d.stack,.lst .ev m.out] (.tup []) z2)∧Lf (.tup []) (.tup []) z2 [.cells (Ab 1 2 4 z4),.tree z4.d.plan.shapes,.lst .lev z4.d.stack,.dead,.lst .ev z4.out])) Q4 ?_
 refine zE (A3 m c a) (⟨(⟨m.d.plan,9,m.d.stack,(⟨0,0⟩:Scn),m.d.start,m.d.at_,m.d.field,m.d.wire,0,m.d.utf,(Bh c a)⟩:Dcd),m.out++[(Bh c a)]⟩:Mac) (fun hm1=>⟨(Agi _ _),(F4 (⟨(⟨m.d.plan,9,m.d.stack,(⟨0,0⟩:Scn),m.d.start,m.d.at_,m.d.field,m.d.wire,0,m.d.utf,(Bh c a)⟩:Dcd),m.out⟩:Mac) (Bh c a) Q6),rfl,Q7⟩) ?_
 rotate_left
 all_goals first|(rfl)|(simp_all[A3,G1])
theorem Am0 (m:Mac) (hp1:List.length (m).out≤200000000) (hp2:List.length (m).d.stack≤Bn):Fun Tryz.prog 180 [vP 0] [.cells (Ab 1 2 3 m),.tree m.d.plan.shapes,.lst .lev m.d.stack,.lst .ev m.out] (.v (vB (A2 m).isSome)) [.cells (Ab 1 4 5 ((A2 m).getD m)),.tree ((A2 m).getD m).d.plan.shapes,.dead,.dead,.lst .lev ((A2 m).getD m).d.stack,.lst .ev ((A2 m).getD m).out]:=by
 have hN:Bn=274877906944:=rfl
 refine Av Tryz.func180 Q4 Q4 (w:=let zi:Int→C:= .int .i64;let z4:List C:=[zi 0,.int .u64 0,zi 0,.str [],zi 0,zi 0];let z7:List C:=[zi m.d.end_.kind,zi m.d.end_.field,.int .u64 m.d.end_.bits,zi m.d.end_.len,.str m.d.end_.text,zi m.d.end_.code,zi m.d.end_.at_,.own 5];let z3:List C:= .own 1::zi m.d.plan.root::zi m.d.plan.deep::zi m.d.plan.most::zi 1:: .own 4:: .int .u64 m.d.scan.bits::zi m.d.scan.have_::zi m.d.start::zi m.d.at_::zi m.d.field.number::zi m.d.field.kind:: .bool m.d.field.rep:: .bool m.d.field.packed::zi m.d.field.msg::zi m.d.wire::zi m.d.want::zi m.d.utf.want::zi m.d.utf.low::zi m.d.utf.high::z7;let z5:List C:= .own 1::zi m.d.plan.root::zi m.d.plan.deep::zi m.d.plan.most::zi 2:: .own 4:: .int .u64 m.d.scan.bits::zi m.d.scan.have_::zi m.d.start::zi m.d.at_::zi m.d.field.number::zi m.d.field.kind:: .bool m.d.field.rep:: .bool m.d.field.packed::zi m.d.field.msg::zi m.d.wire::zi 0::zi m.d.utf.want::zi m.d.utf.low::zi m.d.utf.high::z7;let z8:List C:=[zi m.d.end_.kind,zi m.d.end_.field,.int .u64 m.d.end_.bits,zi m.d.end_.len,.str m.d.end_.text,zi m.d.end_.code,zi m.d.end_.at_,.own 3];let z2:List C:= .own 1::zi m.d.plan.root::zi m.d.plan.deep::zi m.d.plan.most::zi 1:: .own 2:: .int .u64 m.d.scan.bits::zi m.d.scan.have_::zi m.d.start::zi m.d.at_::zi m.d.field.number::zi m.d.field.kind:: .bool m.d.field.rep:: .bool m.d.field.packed::zi m.d.field.msg::zi m.d.wire::zi m.d.want::zi m.d.utf.want::zi m.d.utf.low::zi m.d.utf.high::z8;let z9:List C:=[zi m.d.end_.kind,zi m.d.end_.field,.int .u64 m.d.end_.bits,zi m.d.end_.len,.str m.d.end_.text,zi m.d.end_.code,zi m.d.end_.at_,.own 4];let z1:List C:= .own 1::zi m.d.plan.root::zi m.d.plan.deep::zi m.d.plan.most::zi 1:: .own 2:: .int .u64 m.d.scan.bits::zi m.d.scan.have_::zi m.d.start::zi m.d.at_::zi m.d.field.number::zi m.d.field.kind:: .bool m.d.field.rep:: .bool m.d.field.packed::zi m.d.field.msg::zi m.d.wire::zi m.d.want::zi m.d.utf.want::zi m.d.utf.low::zi m.d.utf.high::z9;let z6:List C:= .own 1::zi m.d.plan.root::zi m.d.plan.deep::zi m.d.plan.most::zi 2:: .own 2:: .int .u64 m.d.scan.bits::zi m.d.scan.have_::zi m.d.start::zi m.d.at_::zi m.d.field.number::zi m.d.field.kind:: .bool m.d.field.rep:: .bool m.d.field.packed::zi m.d.field.msg::zi m.d.wire::zi 0::zi 0::zi 0::zi 0::z9;let z13:=((List.length m.d.stack:Nat):Int);let z11:=List.take ((Int.toNat (z13-1))-0) m.d.stack;let z18:S:= .v (vB (A2 m).isSome);let z19:List Blk:=[.cells (Ab 1 2 3 m),.tree m.d.plan.shapes,.lst .lev z11,.lst .ev m.out];let z20:List Blk:=[.cells z2,.tree m.d.plan.shapes,.lst .lev z11,.lst .ev m.out];let z21:=decide (m.d.scan.have_=0);let z22:=decide (0<((List.length z11:Nat):Int));let z23:=(0:Int)≤z13-1;let z24:List Blk:=[.cells (Ab 1 4 5 m),.tree m.d.plan.shapes,.dead,.dead,.lst .lev m.d.stack,.lst .ev m.out];let z25:S:= .v (vI (Ec m.d));let z26:=A3 m 5 m.d.at_;let z27:S:= .v (vB true);let z28:=decide (m.d.mode=2);let z29:List V:=[vP 0,.agg (zi 7::z4)];let z30:List V:=[vP 0,.agg (zi 8::z4)];let z31:=z13-1≤z13;let z32:=wI (z13-1);let z34:=decide (Ec m.d=0);let z36:List Blk:=[.cells (Ab 1 2 4 z26),.tree z26.d.plan.shapes,.lst .lev z26.d.stack,.dead,.lst .ev z26.out];let z37:=decide (m.d.want<1);let z38:S:= .v (vI (z13-1));let z39:=decide (0<z13);let z41:=(A2 m).getD m;let z12:List Blk:=[.cells (Ab 1 4 5 z41),.tree z41.d.plan.shapes,.dead,.dead,.lst .lev z41.d.stack,.lst .ev z41.out];let z10:=Lf (.v (vB false)) z18 z24 z12;let z35:=Lf z27 z18 [.cells z5,.tree m.d.plan.shapes,.dead,.dead,.lst .lev m.d.stack,.lst .ev m.out] z12;let z40:=Bc z28 ((z21=false)∧Lf (.v (vB false)) z18 z24 z12) z10;let z42:=os 18 [17];let z43:=m.out++[(⟨5,0,0,0,[],0,0⟩:Ev)];let z33:List Blk:=[.cells z6,.tree m.d.plan.shapes,.lst .lev m.d.stack,.dead,.lst .ev z43];let z44:=m.out++[(⟨7,0,0,0,[],0,0⟩:Ev)];let z14:List Blk:=[.cells (Ab 1 2 4 m),.tree m.d.plan.shapes,.lst .lev z11,.dead,.lst .ev z44];let z16:List Blk:=[.cells (Ab 1 4 5 m),.tree m.d.plan.shapes,.dead,.dead,.lst .lev z11,.lst .ev z44];let z45:=m.out++[(⟨8,0,0,0,[],0,0⟩:Ev)];let z15:List Blk:=[.cells z1,.tree m.d.plan.shapes,.lst .lev z11,.dead,.lst .ev z45];let z17:List Blk:=[.cells z3,.tree m.d.plan.shapes,.dead,.dead,.lst .lev z11,.lst .ev z45];let z46:=C4 m.d;(.br (.br (.br (.seg [.call [0,1,2,3] (.tup []) z36,.at 0,.cut 0 5] (.leaf () [0,1,2,3,5,4])) (.seg [.call [0,1,2,3] (.tup []) z33,.at 0,.cut 0 5] (.leaf () [0,1,2,3,5,4]))) (.br (.seg [.br false] (.br (.br (.br (.seg [.call [] z25 []] (.br (.seg [.ord z42 [],.as 133 z38,.at 13,.cut 0 5] (.br (.seg [.call [0,1,4,3] (.tup []) z14] (.leaf () [0,1,2,3,4,5])) (.seg [.call [0,1,4,3] (.tup []) z15] (.leaf () [0,1,2,3,4,5])))) (.seg [.at 0,.cut 0 5,.cut 0 27] (.leaf () [0,1,2,3,4,5])))) (.seg [.at 0,.cut 0 5,.cut 0 27] (.leaf () [0,1,2,3,4,5]))) (.seg [.at 0,.cut 0 5,.cut 0 27] (.leaf () [0,1,2,3,4,5]))) (.seg [.at 0,.cut 0 5,.cut 0 27] (.leaf () [0,1,2,3,4,5])))) (.br (.br (.seg [.br false] (.br (.seg [.br true] (.br (.seg [.call [] z25 []] (.br (.seg [.ord z42 [],.as 133 z38,.at 13,.cut 0 5] (.br (.seg [.call [0,1,4,3] (.tup []) z14] (.leaf () [0,1,2,3,4,5])) (.seg [.call [0,1,4,3] (.tup []) z15] (.leaf () [0,1,2,3,4,5])))) (.seg [.at 0,.cut 0 5,.cut 0 27] (.leaf () [0,1,2,3,4,5])))) (.seg [.at 0,.cut 0 5,.cut 0 27] (.leaf () [0,1,2,3,4,5])))) (.seg [.at 0,.cut 0 5,.cut 0 27] (.leaf () [0,1,2,3,4,5])))) (.br (.seg [.br false,.at 0,.cut 0 5,.cut 0 27] (.leaf () [0,1,2,3,4,5])) (.seg [.at 0,.cut 0 5,.cut 0 27] (.leaf () [0,1,2,3,4,5])))) (.br (.br (.br (.seg [.call [] z25 []] (.br (.seg [.ord z42 [],.as 133 z38,.at 13,.cut 0 5] (.br (.seg [.call [0,1,4,3] (.tup []) z14] (.leaf () [0,1,2,3,4,5])) (.seg [.call [0,1,4,3] (.tup []) z15] (.leaf () [0,1,2,3,4,5])))) (.seg [.at 0,.cut 0 5,.cut 0 27] (.leaf () [0,1,2,3,4,5])))) (.seg [.at 0,.cut 0 5,.cut 0 27] (.leaf () [0,1,2,3,4,5]))) (.seg [.at 0,.cut 0 5,.cut 0 27] (.leaf () [0,1,2,3,4,5]))) (.seg [.at 0,.cut 0 5,.cut 0 27] (.leaf () [0,1,2,3,4,5])))))) (.br (.br (.seg [.at 0,.cut 0 5,.cut 0 27] (.leaf () [0,1,2,3,4,5])) (.br (.br (.br (.seg [.call [] z25 []] (.br (.seg [.ord z42 [],.as 133 z38,.at 13,.cut 0 5] (.br (.seg [.call [0,1,4,3] (.tup []) z14] (.leaf () [0,1,2,3,4,5])) (.seg [.call [0,1,4,3] (.tup []) z15] (.leaf () [0,1,2,3,4,5])))) (.seg [.at 0,.cut 0 5,.cut 0 27] (.leaf () [0,1,2,3,4,5])))) (.seg [.at 0,.cut 0 5,.cut 0 27] (.leaf () [0,1,2,3,4,5]))) (.seg [.at 0,.cut 0 5,.cut 0 27] (.leaf () [0,1,2,3,4,5]))) (.seg [.at 0,.cut 0 5,.cut 0 27] (.leaf () [0,1,2,3,4,5])))) (.br (.br (.br (.seg [.at 0,.cut 0 5,.cut 0 27] (.leaf () [0,1,2,3,4,5])) (.br (.seg [.br true] (.br (.seg [.call [] z25 []] (.br (.seg [.ord z42 [],.as 133 z38,.at 13,.cut 0 5] (.br (.seg [.call [0,1,4,3] (.tup []) z14] (.leaf () [0,1,2,3,4,5])) (.seg [.call [0,1,4,3] (.tup []) z15] (.leaf () [0,1,2,3,4,5])))) (.seg [.at 0,.cut 0 5,.cut 0 27] (.leaf () [0,1,2,3,4,5])))) (.seg [.at 0,.cut 0 5,.cut 0 27] (.leaf () [0,1,2,3,4,5])))) (.seg [.at 0,.cut 0 5,.cut 0 27] (.leaf () [0,1,2,3,4,5])))) (.br (.seg [.br false,.at 0,.cut 0 5,.cut 0 27] (.leaf () [0,1,2,3,4,5])) (.seg [.at 0,.cut 0 5,.cut 0 27] (.leaf () [0,1,2,3,4,5])))) (.br (.br (.br (.seg [.call [] z25 []] (.br (.seg [.ord z42 [],.as 133 z38,.at 13,.cut 0 5] (.br (.seg [.call [0,1,4,3] (.tup []) z14] (.leaf () [0,1,2,3,4,5])) (.seg [.call [0,1,4,3] (.tup []) z15] (.leaf () [0,1,2,3,4,5])))) (.seg [.at 0,.cut 0 5,.cut 0 27] (.leaf () [0,1,2,3,4,5])))) (.seg [.at 0,.cut 0 5,.cut 0 27] (.leaf () [0,1,2,3,4,5]))) (.seg [.at 0,.cut 0 5,.cut 0 27] (.leaf () [0,1,2,3,4,5]))) (.seg [.at 0,.cut 0 5,.cut 0 27] (.leaf () [0,1,2,3,4,5]))))),Bc (decide (m.d.mode=6)) (Bc z37 (Bc (decide (0<m.d.utf.want)) ((Fp 52 [vP 0,vI 5,vI m.d.at_] [.cells (Ab 1 2 3 m),.tree m.d.plan.shapes,.lst .lev m.d.stack,.lst .ev m.out] (.tup []) z36)∧Lf z27 z18 [.cells (Ab 1 4 5 z26),.tree z26.d.plan.shapes,.dead,.dead,.lst .lev z26.d.stack,.lst .ev z26.out] z12) ((Fp 88 [vP 0,.agg (zi 5::z4)] [.cells (.own 1::zi m.d.plan.root::zi m.d.plan.deep::zi m.d.plan.most::zi 2:: .own 2:: .int .u64 m.d.scan.bits::zi m.d.scan.have_::zi m.d.start::zi m.d.at_::zi m.d.field.number::zi m.d.field.kind:: .bool m.d.field.rep:: .bool m.d.field.packed::zi m.d.field.msg::zi m.d.wire::zi 0::zi 0::zi 0::zi 0::z8),.tree m.d.plan.shapes,.lst .lev m.d.stack,.lst .ev m.out] (.tup []) z33)∧Lf z27 z18 [.cells (.own 1::zi m.d.plan.root::zi m.d.plan.deep::zi m.d.plan.most::zi 2:: .own 4:: .int .u64 m.d.scan.bits::zi m.d.scan.have_::zi m.d.start::zi m.d.at_::zi m.d.field.number::zi m.d.field.kind:: .bool m.d.field.rep:: .bool m.d.field.packed::zi m.d.field.msg::zi m.d.wire::zi 0::zi 0::zi 0::zi 0::z7),.tree m.d.plan.shapes,.dead,.dead,.lst .lev m.d.stack,.lst .ev z43] z12)) (Bc (decide (m.d.mode=7)) ((z37=false)∧Bc z28 (Bc z21 (Bc z39 ((Fp 108 [.agg z46] [] z25 [])∧Bc z34 (z32∧z32∧z31∧z23∧z31∧z23∧Bc z22 ((Fp 88 z29 z19 (.tup []) z14)∧Lf z27 z18 z16 z12) ((Fp 88 z30 z20 (.tup []) z15)∧Lf z27 z18 z17 z12)) z10) z10) z10) z10) (Bc (decide (m.d.mode=8)) (Bc z21 ((z37=false)∧Bc z28 ((z21=true)∧Bc z39 ((Fp 108 [.agg z46] [] z25 [])∧Bc z34 (z32∧z32∧z31∧z23∧z31∧z23∧Bc z22 ((Fp 88 z29 z19 (.tup []) z14)∧Lf z27 z18 z16 z12) ((Fp 88 z30 z20 (.tup []) z15)∧Lf z27 z18 z17 z12)) z10) z10) z10) z40) (Bc z28 (Bc z21 (Bc z39 ((Fp 108 [.agg z46] [] z25 [])∧Bc z34 (z32∧z32∧z31∧z23∧z31∧z23∧Bc z22 ((Fp 88 z29 z19 (.tup []) z14)∧Lf z27 z18 z16 z12) ((Fp 88 z30 z20 (.tup []) z15)∧Lf z27 z18 z17 z12)) z10) z10) z10) z10)))) (Bc (decide (m.d.mode=7)) (Bc z37 z35 (Bc z28 (Bc z21 (Bc z39 ((Fp 108 [.agg z46] [] z25 [])∧Bc z34 (z32∧z32∧z31∧z23∧z31∧z23∧Bc z22 ((Fp 88 z29 z19 (.tup []) z14)∧Lf z27 z18 z16 z12) ((Fp 88 z30 z20 (.tup []) z15)∧Lf z27 z18 z17 z12)) z10) z10) z10) z10)) (Bc (decide (m.d.mode=8)) (Bc z21 (Bc z37 z35 (Bc z28 ((z21=true)∧Bc z39 ((Fp 108 [.agg z46] [] z25 [])∧Bc z34 (z32∧z32∧z31∧z23∧z31∧z23∧Bc z22 ((Fp 88 z29 z19 (.tup []) z14)∧Lf z27 z18 z16 z12) ((Fp 88 z30 z20 (.tup []) z15)∧Lf z27 z18 z17 z12)) z10) z10) z10)) z40) (Bc z28 (Bc z21 (Bc z39 ((Fp 108 [.agg z46] [] z25 [])∧Bc z34 (z32∧z32∧z31∧z23∧z31∧z23∧Bc z22 ((Fp 88 z29 z19 (.tup []) z14)∧Lf z27 z18 z16 z12) ((Fp 88 z30 z20 (.tup []) z15)∧Lf z27 z18 z17 z12)) z10) z10) z10) z10))))) Q4 ?_
 refine dsp (fun h1 p1=>?_) fun h1 p1=>?_
 refine dsp (fun h2 p2=>?_) fun h2 p2=>?_
 refine dsp (fun h3 p3=>?_) fun h3 p3=>?_
 refine zE ((A2 m).getD m) (A3 m 5 m.d.at_) (fun hm1=>⟨(B8 m _ _ Q2),(sB ?_),Q7⟩) ?_
 rotate_left 2
 refine zE ((A2 m).getD m) (⟨(⟨m.d.plan,2,m.d.stack,m.d.scan,m.d.start,m.d.at_,m.d.field,m.d.wire,0,(⟨0,0,0⟩:Utf),m.d.end_⟩:Dcd),m.out++[(⟨5,0,0,0,[],0,0⟩:Ev)]⟩:Mac) (fun hm1=>⟨(F4 (⟨(⟨m.d.plan,2,m.d.stack,m.d.scan,m.d.start,m.d.at_,m.d.field,m.d.wire,0,(⟨0,0,0⟩:Utf),m.d.end_⟩:Dcd),m.out⟩:Mac) (⟨5,0,0,0,[],0,0⟩:Ev) Q6),(sB ?_),Q7⟩) ?_
 rotate_left 2
 refine dsp (fun h3 p3=>?_) fun h3 p3=>?_
 refine⟨h2,dsp (fun h4 p4=>?_) fun h4 p4=>?_⟩
 refine dsp (fun h5 p5=>?_) fun h5 p5=>?_
 refine dsp (fun h6 p6=>?_) fun h6 p6=>?_
 refine⟨(D0 m.d Q2),dsp (fun h7 p7=>?_) fun h7 p7=>?_⟩
 refine⟨(Af Q2 Q2),(Af Q2 Q2),Q2,Q2,Q2,Q2,dsp (fun h8 p8=>?_) fun h8 p8=>?_⟩
 refine zE ((A2 m).getD m) (⟨(⟨m.d.plan,m.d.mode,List.take ((Int.toNat (((List.length m.d.stack:Nat):Int)-1))-0) m.d.stack,m.d.scan,m.d.start,m.d.at_,m.d.field,m.d.wire,m.d.want,m.d.utf,m.d.end_⟩:Dcd),m.out++[(⟨7,0,0,0,[],0,0⟩:Ev)]⟩:Mac) (fun hm1=>⟨(F4 (⟨(⟨m.d.plan,m.d.mode,List.take ((Int.toNat (((List.length m.d.stack:Nat):Int)-1))-0) m.d.stack,m.d.scan,m.d.start,m.d.at_,m.d.field,m.d.wire,m.d.want,m.d.utf,m.d.end_⟩:Dcd),m.out⟩:Mac) (⟨7,0,0,0,[],0,0⟩:Ev) Q6),(sB ?_),Q7⟩) ?_
 rotate_left 2
 refine zE ((A2 m).getD m) (⟨(⟨m.d.plan,1,List.take ((Int.toNat (((List.length m.d.stack:Nat):Int)-1))-0) m.d.stack,m.d.scan,m.d.start,m.d.at_,m.d.field,m.d.wire,m.d.want,m.d.utf,m.d.end_⟩:Dcd),m.out++[(⟨8,0,0,0,[],0,0⟩:Ev)]⟩:Mac) (fun hm1=>⟨(F4 (⟨(⟨m.d.plan,1,List.take ((Int.toNat (((List.length m.d.stack:Nat):Int)-1))-0) m.d.stack,m.d.scan,m.d.start,m.d.at_,m.d.field,m.d.wire,m.d.want,m.d.utf,m.d.end_⟩:Dcd),m.out⟩:Mac) (⟨8,0,0,0,[],0,0⟩:Ev) Q6),(sB ?_),Q7⟩) ?_
 rotate_left 2
 refine zE ((A2 m).getD m) m (fun hm1=>⟨(sB ?_),Q7⟩) ?_
 rotate_left 2
 refine zE ((A2 m).getD m) m (fun hm1=>⟨(sB ?_),Q7⟩) ?_
 rotate_left 2
 refine zE ((A2 m).getD m) m (fun hm1=>⟨(sB ?_),Q7⟩) ?_
 rotate_left 2
 refine zE ((A2 m).getD m) m (fun hm1=>⟨(sB ?_),Q7⟩) ?_
 rotate_left 2
 refine dsp (fun h4 p4=>?_) fun h4 p4=>?_
 refine dsp (fun h5 p5=>?_) fun h5 p5=>?_
 refine⟨h2,dsp (fun h6 p6=>?_) fun h6 p6=>?_⟩
 refine⟨h5,dsp (fun h7 p7=>?_) fun h7 p7=>?_⟩
 refine⟨(D0 m.d Q2),dsp (fun h8 p8=>?_) fun h8 p8=>?_⟩
 refine⟨(Af Q2 Q2),(Af Q2 Q2),Q2,Q2,Q2,Q2,dsp (fun h9 p9=>?_) fun h9 p9=>?_⟩
 refine zE ((A2 m).getD m) (⟨(⟨m.d.plan,m.d.mode,List.take ((Int.toNat (((List.length m.d.stack:Nat):Int)-1))-0) m.d.stack,m.d.scan,m.d.start,m.d.at_,m.d.field,m.d.wire,m.d.want,m.d.utf,m.d.end_⟩:Dcd),m.out++[(⟨7,0,0,0,[],0,0⟩:Ev)]⟩:Mac) (fun hm1=>⟨(F4 (⟨(⟨m.d.plan,m.d.mode,List.take ((Int.toNat (((List.length m.d.stack:Nat):Int)-1))-0) m.d.stack,m.d.scan,m.d.start,m.d.at_,m.d.field,m.d.wire,m.d.want,m.d.utf,m.d.end_⟩:Dcd),m.out⟩:Mac) (⟨7,0,0,0,[],0,0⟩:Ev) Q6),(sB ?_),Q7⟩) ?_
 rotate_left 2
 refine zE ((A2 m).getD m) (⟨(⟨m.d.plan,1,List.take ((Int.toNat (((List.length m.d.stack:Nat):Int)-1))-0) m.d.stack,m.d.scan,m.d.start,m.d.at_,m.d.field,m.d.wire,m.d.want,m.d.utf,m.d.end_⟩:Dcd),m.out++[(⟨8,0,0,0,[],0,0⟩:Ev)]⟩:Mac) (fun hm1=>⟨(F4 (⟨(⟨m.d.plan,1,List.take ((Int.toNat (((List.length m.d.stack:Nat):Int)-1))-0) m.d.stack,m.d.scan,m.d.start,m.d.at_,m.d.field,m.d.wire,m.d.want,m.d.utf,m.d.end_⟩:Dcd),m.out⟩:Mac) (⟨8,0,0,0,[],0,0⟩:Ev) Q6),(sB ?_),Q7⟩) ?_
 rotate_left 2
 refine zE ((A2 m).getD m) m (fun hm1=>⟨(sB ?_),Q7⟩) ?_
 rotate_left 2
 refine zE ((A2 m).getD m) m (fun hm1=>⟨(sB ?_),Q7⟩) ?_
 rotate_left 2
 refine zE ((A2 m).getD m) m (fun hm1=>⟨(sB ?_),Q7⟩) ?_
 rotate_left 2
 refine dsp (fun h6 p6=>?_) fun h6 p6=>?_
 refine zE ((A2 m).getD m) m (fun hm1=>⟨h5,(sB ?_),Q7⟩) ?_
 rotate_left 2
 refine zE ((A2 m).getD m) m (fun hm1=>⟨(sB ?_),Q7⟩) ?_
 rotate_left 2
 refine dsp (fun h5 p5=>?_) fun h5 p5=>?_
 refine dsp (fun h6 p6=>?_) fun h6 p6=>?_
 refine dsp (fun h7 p7=>?_) fun h7 p7=>?_
 refine⟨(D0 m.d Q2),dsp (fun h8 p8=>?_) fun h8 p8=>?_⟩
 refine⟨(Af Q2 Q2),(Af Q2 Q2),Q2,Q2,Q2,Q2,dsp (fun h9 p9=>?_) fun h9 p9=>?_⟩
 refine zE ((A2 m).getD m) (⟨(⟨m.d.plan,m.d.mode,List.take ((Int.toNat (((List.length m.d.stack:Nat):Int)-1))-0) m.d.stack,m.d.scan,m.d.start,m.d.at_,m.d.field,m.d.wire,m.d.want,m.d.utf,m.d.end_⟩:Dcd),m.out++[(⟨7,0,0,0,[],0,0⟩:Ev)]⟩:Mac) (fun hm1=>⟨(F4 (⟨(⟨m.d.plan,m.d.mode,List.take ((Int.toNat (((List.length m.d.stack:Nat):Int)-1))-0) m.d.stack,m.d.scan,m.d.start,m.d.at_,m.d.field,m.d.wire,m.d.want,m.d.utf,m.d.end_⟩:Dcd),m.out⟩:Mac) (⟨7,0,0,0,[],0,0⟩:Ev) Q6),(sB ?_),Q7⟩) ?_
 rotate_left 2
 refine zE ((A2 m).getD m) (⟨(⟨m.d.plan,1,List.take ((Int.toNat (((List.length m.d.stack:Nat):Int)-1))-0) m.d.stack,m.d.scan,m.d.start,m.d.at_,m.d.field,m.d.wire,m.d.want,m.d.utf,m.d.end_⟩:Dcd),m.out++[(⟨8,0,0,0,[],0,0⟩:Ev)]⟩:Mac) (fun hm1=>⟨(F4 (⟨(⟨m.d.plan,1,List.take ((Int.toNat (((List.length m.d.stack:Nat):Int)-1))-0) m.d.stack,m.d.scan,m.d.start,m.d.at_,m.d.field,m.d.wire,m.d.want,m.d.utf,m.d.end_⟩:Dcd),m.out⟩:Mac) (⟨8,0,0,0,[],0,0⟩:Ev) Q6),(sB ?_),Q7⟩) ?_
 rotate_left 2
 refine zE ((A2 m).getD m) m (fun hm1=>⟨(sB ?_),Q7⟩) ?_
 rotate_left 2
 refine zE ((A2 m).getD m) m (fun hm1=>⟨(sB ?_),Q7⟩) ?_
 rotate_left 2
 refine zE ((A2 m).getD m) m (fun hm1=>⟨(sB ?_),Q7⟩) ?_
 rotate_left 2
 refine zE ((A2 m).getD m) m (fun hm1=>⟨(sB ?_),Q7⟩) ?_
 rotate_left 2
 refine dsp (fun h2 p2=>?_) fun h2 p2=>?_
 refine dsp (fun h3 p3=>?_) fun h3 p3=>?_
 refine zE ((A2 m).getD m) (⟨(⟨m.d.plan,2,m.d.stack,m.d.scan,m.d.start,m.d.at_,m.d.field,m.d.wire,0,m.d.utf,m.d.end_⟩:Dcd),m.out⟩:Mac) (fun hm1=>⟨(sB ?_),Q7⟩) ?_
 rotate_left 2
 refine dsp (fun h4 p4=>?_) fun h4 p4=>?_
 refine dsp (fun h5 p5=>?_) fun h5 p5=>?_
 refine dsp (fun h6 p6=>?_) fun h6 p6=>?_
 refine⟨(D0 m.d Q2),dsp (fun h7 p7=>?_) fun h7 p7=>?_⟩
 refine⟨(Af Q2 Q2),(Af Q2 Q2),Q2,Q2,Q2,Q2,dsp (fun h8 p8=>?_) fun h8 p8=>?_⟩
 refine zE ((A2 m).getD m) (⟨(⟨m.d.plan,m.d.mode,List.take ((Int.toNat (((List.length m.d.stack:Nat):Int)-1))-0) m.d.stack,m.d.scan,m.d.start,m.d.at_,m.d.field,m.d.wire,m.d.want,m.d.utf,m.d.end_⟩:Dcd),m.out++[(⟨7,0,0,0,[],0,0⟩:Ev)]⟩:Mac) (fun hm1=>⟨(F4 (⟨(⟨m.d.plan,m.d.mode,List.take ((Int.toNat (((List.length m.d.stack:Nat):Int)-1))-0) m.d.stack,m.d.scan,m.d.start,m.d.at_,m.d.field,m.d.wire,m.d.want,m.d.utf,m.d.end_⟩:Dcd),m.out⟩:Mac) (⟨7,0,0,0,[],0,0⟩:Ev) Q6),(sB ?_),Q7⟩) ?_
 rotate_left 2
 refine zE ((A2 m).getD m) (⟨(⟨m.d.plan,1,List.take ((Int.toNat (((List.length m.d.stack:Nat):Int)-1))-0) m.d.stack,m.d.scan,m.d.start,m.d.at_,m.d.field,m.d.wire,m.d.want,m.d.utf,m.d.end_⟩:Dcd),m.out++[(⟨8,0,0,0,[],0,0⟩:Ev)]⟩:Mac) (fun hm1=>⟨(F4 (⟨(⟨m.d.plan,1,List.take ((Int.toNat (((List.length m.d.stack:Nat):Int)-1))-0) m.d.stack,m.d.scan,m.d.start,m.d.at_,m.d.field,m.d.wire,m.d.want,m.d.utf,m.d.end_⟩:Dcd),m.out⟩:Mac) (⟨8,0,0,0,[],0,0⟩:Ev) Q6),(sB ?_),Q7⟩) ?_
 rotate_left 2
 refine zE ((A2 m).getD m) m (fun hm1=>⟨(sB ?_),Q7⟩) ?_
 rotate_left 2
 refine zE ((A2 m).getD m) m (fun hm1=>⟨(sB ?_),Q7⟩) ?_
 rotate_left 2
 refine zE ((A2 m).getD m) m (fun hm1=>⟨(sB ?_),Q7⟩) ?_
 rotate_left 2
 refine zE ((A2 m).getD m) m (fun hm1=>⟨(sB ?_),Q7⟩) ?_
 rotate_left 2
 refine dsp (fun h3 p3=>?_) fun h3 p3=>?_
 refine dsp (fun h4 p4=>?_) fun h4 p4=>?_
 refine dsp (fun h5 p5=>?_) fun h5 p5=>?_
 refine zE ((A2 m).getD m) (⟨(⟨m.d.plan,2,m.d.stack,m.d.scan,m.d.start,m.d.at_,m.d.field,m.d.wire,0,m.d.utf,m.d.end_⟩:Dcd),m.out⟩:Mac) (fun hm1=>⟨(sB ?_),Q7⟩) ?_
 rotate_left 2
 refine dsp (fun h6 p6=>?_) fun h6 p6=>?_
 refine⟨h4,dsp (fun h7 p7=>?_) fun h7 p7=>?_⟩
 refine⟨(D0 m.d Q2),dsp (fun h8 p8=>?_) fun h8 p8=>?_⟩
 refine⟨(Af Q2 Q2),(Af Q2 Q2),Q2,Q2,Q2,Q2,dsp (fun h9 p9=>?_) fun h9 p9=>?_⟩
 refine zE ((A2 m).getD m) (⟨(⟨m.d.plan,m.d.mode,List.take ((Int.toNat (((List.length m.d.stack:Nat):Int)-1))-0) m.d.stack,m.d.scan,m.d.start,m.d.at_,m.d.field,m.d.wire,m.d.want,m.d.utf,m.d.end_⟩:Dcd),m.out++[(⟨7,0,0,0,[],0,0⟩:Ev)]⟩:Mac) (fun hm1=>⟨(F4 (⟨(⟨m.d.plan,m.d.mode,List.take ((Int.toNat (((List.length m.d.stack:Nat):Int)-1))-0) m.d.stack,m.d.scan,m.d.start,m.d.at_,m.d.field,m.d.wire,m.d.want,m.d.utf,m.d.end_⟩:Dcd),m.out⟩:Mac) (⟨7,0,0,0,[],0,0⟩:Ev) Q6),(sB ?_),Q7⟩) ?_
 rotate_left 2
 refine zE ((A2 m).getD m) (⟨(⟨m.d.plan,1,List.take ((Int.toNat (((List.length m.d.stack:Nat):Int)-1))-0) m.d.stack,m.d.scan,m.d.start,m.d.at_,m.d.field,m.d.wire,m.d.want,m.d.utf,m.d.end_⟩:Dcd),m.out++[(⟨8,0,0,0,[],0,0⟩:Ev)]⟩:Mac) (fun hm1=>⟨(F4 (⟨(⟨m.d.plan,1,List.take ((Int.toNat (((List.length m.d.stack:Nat):Int)-1))-0) m.d.stack,m.d.scan,m.d.start,m.d.at_,m.d.field,m.d.wire,m.d.want,m.d.utf,m.d.end_⟩:Dcd),m.out⟩:Mac) (⟨8,0,0,0,[],0,0⟩:Ev) Q6),(sB ?_),Q7⟩) ?_
 rotate_left 2
 refine zE ((A2 m).getD m) m (fun hm1=>⟨(sB ?_),Q7⟩) ?_
 rotate_left 2
 refine zE ((A2 m).getD m) m (fun hm1=>⟨(sB ?_),Q7⟩) ?_
 rotate_left 2
 refine zE ((A2 m).getD m) m (fun hm1=>⟨(sB ?_),Q7⟩) ?_
 rotate_left 2
 refine dsp (fun h5 p5=>?_) fun h5 p5=>?_
 refine zE ((A2 m).getD m) m (fun hm1=>⟨h4,(sB ?_),Q7⟩) ?_
 rotate_left 2
 refine zE ((A2 m).getD m) m (fun hm1=>⟨(sB ?_),Q7⟩) ?_
 rotate_left 2
 refine dsp (fun h4 p4=>?_) fun h4 p4=>?_
 refine dsp (fun h5 p5=>?_) fun h5 p5=>?_
 refine dsp (fun h6 p6=>?_) fun h6 p6=>?_
 refine⟨(D0 m.d Q2),dsp (fun h7 p7=>?_) fun h7 p7=>?_⟩
 refine⟨(Af Q2 Q2),(Af Q2 Q2),Q2,Q2,Q2,Q2,dsp (fun h8 p8=>?_) fun h8 p8=>?_⟩
 refine zE ((A2 m).getD m) (⟨(⟨m.d.plan,m.d.mode,List.take ((Int.toNat (((List.length m.d.stack:Nat):Int)-1))-0) m.d.stack,m.d.scan,m.d.start,m.d.at_,m.d.field,m.d.wire,m.d.want,m.d.utf,m.d.end_⟩:Dcd),m.out++[(⟨7,0,0,0,[],0,0⟩:Ev)]⟩:Mac) (fun hm1=>⟨(F4 (⟨(⟨m.d.plan,m.d.mode,List.take ((Int.toNat (((List.length m.d.stack:Nat):Int)-1))-0) m.d.stack,m.d.scan,m.d.start,m.d.at_,m.d.field,m.d.wire,m.d.want,m.d.utf,m.d.end_⟩:Dcd),m.out⟩:Mac) (⟨7,0,0,0,[],0,0⟩:Ev) Q6),(sB ?_),Q7⟩) ?_
 rotate_left 2
 refine zE ((A2 m).getD m) (⟨(⟨m.d.plan,1,List.take ((Int.toNat (((List.length m.d.stack:Nat):Int)-1))-0) m.d.stack,m.d.scan,m.d.start,m.d.at_,m.d.field,m.d.wire,m.d.want,m.d.utf,m.d.end_⟩:Dcd),m.out++[(⟨8,0,0,0,[],0,0⟩:Ev)]⟩:Mac) (fun hm1=>⟨(F4 (⟨(⟨m.d.plan,1,List.take ((Int.toNat (((List.length m.d.stack:Nat):Int)-1))-0) m.d.stack,m.d.scan,m.d.start,m.d.at_,m.d.field,m.d.wire,m.d.want,m.d.utf,m.d.end_⟩:Dcd),m.out⟩:Mac) (⟨8,0,0,0,[],0,0⟩:Ev) Q6),(sB ?_),Q7⟩) ?_
 rotate_left 2
 refine zE ((A2 m).getD m) m (fun hm1=>⟨(sB ?_),Q7⟩) ?_
 rotate_left 2
 refine zE ((A2 m).getD m) m (fun hm1=>⟨(sB ?_),Q7⟩) ?_
 rotate_left 2
 refine zE ((A2 m).getD m) m (fun hm1=>⟨(sB ?_),Q7⟩) ?_
 rotate_left 2
 refine zE ((A2 m).getD m) m (fun hm1=>⟨(sB ?_),Q7⟩) ?_
 rotate_left 2
 all_goals first|(simp_all[A2,A3,G1,W7,An3,Pu,utf0];done)|(grind[A2,A3,G1,W7,An3,Pu,utf0])
end Go.Proofs.YtphecbmdhbphgaaGreat.Ax
