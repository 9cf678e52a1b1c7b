/- Schemas. Events. Decoders: what is valid. Decoders: what is valid, more. Decoders: what is valid, Aev. Decoders: what is valid, at last. -/
import Derived.Test.YtcmnedgnppnhoaaGreatKFnStopped1
set_option linter.unusedSimpArgs false
set_option linter.unusedVariables false
namespace Go.Proofs.YtcmnedgnppnhoaaGreat.Ax
open Go.RowKit
theorem Aii (f:Fld) (before:Int) (n:Int) (hp1:(0:Int)≤n∧n≤1000):Fun Tryz.prog 158 [.agg (Fm f),vI before,vI n] [] (.v (vB (decide (before<(f).number)&&G5 f n))) []:=by
 have hN:Bg=274877906944:=rfl
 refine Ar Tryz.func158 Q4 Q4 (w:=let z1:=vB (decide (before<(f).number)&&G5 f n);let z2:=vB (Am f.msg 0 (n-1));let z4:=([]:List Blk);let z5:=(.v (vB false):S);let z6:=(.v (vI (IntKind.i64.wrap (n-1))):S)= .v (vI (n-1));let z7:=Dc f.number;let z8:=C3 f.kind;let z9:=Em f.kind;let z10:=decide (f.kind=8);let z3:=z10=false→(.v (vB (decide (f.msg=(-1)))):S)= .v z1∧z4=[];(.seg [.call [] (.v (vB z7)) []] (.br (.leaf () []) (.br (.leaf () []) (.seg [.call [] (.v (vB z9)) []] (.br (.leaf () []) (.br (.br (.leaf () []) (.seg [.call [] (.v (vB z8)) []] (.br (.leaf () []) (.br (.seg [.as 45 (.v (vI (n-1))),.call [] (.v z2) []] (.leaf () [])) (.leaf () []))))) (.br (.seg [.as 45 (.v (vI (n-1))),.call [] (.v z2) []] (.leaf () [])) (.leaf () []))))))),(Fun Tryz.prog 194 [vI f.number] [] (.v (vB z7)) [])∧((!z7)=true→z5= .v z1∧z4=[])∧((!z7)=false→((decide (f.number≤before))=true→z5= .v z1∧z4=[])∧((decide (f.number≤before))=false→(Fun Tryz.prog 195 [vI f.kind] [] (.v (vB z9)) [])∧((!z9)=true→z5= .v z1∧z4=[])∧((!z9)=false→(f.packed=true→((!f.rep)=true→z5= .v z1∧z4=[])∧((!f.rep)=false→(Fun Tryz.prog 185 [vI f.kind] [] (.v (vB z8)) [])∧((!z8)=true→z5= .v z1∧z4=[])∧((!z8)=false→(z10=true→z6∧(Fun Tryz.prog 79 [vI f.msg,vI 0,vI (n-1)] [] (.v z2) [])∧(.v z2:S)= .v z1∧z4=[])∧z3)))∧(f.packed=false→(z10=true→z6∧(Fun Tryz.prog 79 [vI f.msg,vI 0,vI (n-1)] [] (.v z2) [])∧(.v z2:S)= .v z1∧z4=[])∧z3)))))) Q4 ?_
 refine⟨(Abz _),fun h1=>have q1:=Ap h1;?_,fun h1=>have q1:=Ao h1;?_⟩
 refine⟨(sB ?_),rfl⟩
 rotate_left
 refine dsp (fun h2 p2=>?_) fun h2 p2=>?_
 refine⟨(sB ?_),rfl⟩
 rotate_left
 refine⟨(Aaw _),fun h3=>have q3:=Ap h3;have p3:=Az q3;?_,fun h3=>have q3:=Ao h3;have p3:=As q3;?_⟩
 refine⟨(sB ?_),rfl⟩
 rotate_left
 refine⟨fun h4=>?_,fun h4=>?_⟩
 refine⟨fun h5=>have q5:=Ap h5;?_,fun h5=>have q5:=Ao h5;?_⟩
 refine⟨(sB ?_),rfl⟩
 rotate_left
 refine⟨(Yb _),fun h6=>have q6:=Ap h6;have p6:=Az q6;?_,fun h6=>have q6:=Ao h6;have p6:=As q6;?_⟩
 refine⟨(sB ?_),rfl⟩
 rotate_left
 refine dsp (fun h7 p7=>?_) fun h7 p7=>?_
 refine⟨(Ae Q2 Q2),(B7 _ _ _),(sB ?_),rfl⟩
 rotate_left
 refine⟨(sB ?_),rfl⟩
 rotate_left
 refine dsp (fun h5 p5=>?_) fun h5 p5=>?_
 refine⟨(Ae Q2 Q2),(B7 _ _ _),(sB ?_),rfl⟩
 rotate_left
 refine⟨(sB ?_),rfl⟩
 rotate_left
 all_goals first|(simp[G5, *];done)|(simp_all[G5];done)|(simp_all[G5];omega)|(rw[Bool.eq_iff_iff];simp_all[G5];omega)
theorem Ry (s:List Shp) (f:Fld) (hp1:s.length≤1000):Fun Tryz.prog 155 [.agg [.seq .shp s],.agg (Fm f)] [] (.v (vB (G5 f (s.length:Int)))) []:=by
 have hN:Bg=274877906944:=rfl
 refine Ar Tryz.func155 Q4 Q4 (w:=let z1:=(s.length:Int);let z2:=vB (Am f.msg 0 (z1-1));let z4:=vB (G5 f z1);let z5:=([]:List Blk);let z6:=(.v (vI (IntKind.i64.wrap (z1-1))):S)= .v (vI (z1-1));let z7:=Dc f.number;let z8:=(.v (vB false):S);let z9:=C3 f.kind;let z10:=Em f.kind;let z11:=decide (f.kind=8);let z3:=z11=false→(.v (vB (decide (f.msg=(-1)))):S)= .v z4∧z5=[];(.seg [.call [] (.v (vB z7)) []] (.br (.leaf () []) (.seg [.call [] (.v (vB z10)) []] (.br (.leaf () []) (.br (.br (.leaf () []) (.seg [.call [] (.v (vB z9)) []] (.br (.leaf () []) (.br (.seg [.as 38 (.v (vI (z1-1))),.call [] (.v z2) []] (.leaf () [])) (.leaf () []))))) (.br (.seg [.as 38 (.v (vI (z1-1))),.call [] (.v z2) []] (.leaf () [])) (.leaf () [])))))),(Fun Tryz.prog 191 [vI f.number] [] (.v (vB z7)) [])∧((!z7)=true→z8= .v z4∧z5=[])∧((!z7)=false→(Fun Tryz.prog 134 [vI f.kind] [] (.v (vB z10)) [])∧((!z10)=true→z8= .v z4∧z5=[])∧((!z10)=false→(f.packed=true→((!f.rep)=true→z8= .v z4∧z5=[])∧((!f.rep)=false→(Fun Tryz.prog 135 [vI f.kind] [] (.v (vB z9)) [])∧((!z9)=true→z8= .v z4∧z5=[])∧((!z9)=false→(z11=true→z6∧(Fun Tryz.prog 59 [vI f.msg,vI 0,vI (z1-1)] [] (.v z2) [])∧(.v z2:S)= .v z4∧z5=[])∧z3)))∧(f.packed=false→(z11=true→z6∧(Fun Tryz.prog 59 [vI f.msg,vI 0,vI (z1-1)] [] (.v z2) [])∧(.v z2:S)= .v z4∧z5=[])∧z3))))) Q4 ?_
 refine⟨(V3 _),fun h1=>have q1:=Ap h1;?_,fun h1=>have q1:=Ao h1;?_⟩
 refine⟨(sB ?_),rfl⟩
 rotate_left
 refine⟨(Td _),fun h2=>have q2:=Ap h2;have p2:=Az q2;?_,fun h2=>have q2:=Ao h2;have p2:=As q2;?_⟩
 refine⟨(sB ?_),rfl⟩
 rotate_left
 refine⟨fun h3=>?_,fun h3=>?_⟩
 refine⟨fun h4=>have q4:=Ap h4;?_,fun h4=>have q4:=Ao h4;?_⟩
 refine⟨(sB ?_),rfl⟩
 rotate_left
 refine⟨(K0 _),fun h5=>have q5:=Ap h5;have p5:=Az q5;?_,fun h5=>have q5:=Ao h5;have p5:=As q5;?_⟩
 refine⟨(sB ?_),rfl⟩
 rotate_left
 refine dsp (fun h6 p6=>?_) fun h6 p6=>?_
 refine⟨(Ae Q2 Q2),(Ba _ _ _),(sB ?_),rfl⟩
 rotate_left
 refine⟨(sB ?_),rfl⟩
 rotate_left
 refine dsp (fun h4 p4=>?_) fun h4 p4=>?_
 refine⟨(Ae Q2 Q2),(Ba _ _ _),(sB ?_),rfl⟩
 rotate_left
 refine⟨(sB ?_),rfl⟩
 rotate_left
 all_goals first|(simp[G5, *];done)|(simp_all[G5];done)|(simp_all[G5];omega)|(rw[Bool.eq_iff_iff];simp_all[G5];omega)
structure F5 where
 id:Int
 v:Nat
def Ht (s:List Shp):Fam:=⟨F5,fun q1=>[(1,.v (vP 0)),(3,.v (vI q1.id)),(14,.v (.c (.seq .shp s))),(15,.v (vI (s.length:Int))),(16,.v (vI (q1.v:Int)))],fun _=>[.cells [.seq .shp s]],fun q1=>q1.v≤s.length∧Dz (s.length:Int) q1.id (List.drop q1.v s)=Dz (s.length:Int) 0 s,fun q1=>s.length-q1.v⟩
structure Hu where
 number:Int
 v:Nat
def F6 (s:List Shp) (q1:F5) (x1:Shp):Fam:=⟨Hu,fun q2=>[(1,.v (vP 0)),(5,.v (vP 1)),(6,.v (vI q2.number)),(14,.v (.c (.seq .shp s))),(15,.v (vI (s.length:Int))),(16,.v (vI (q1.v:Int))),(36,.v (.c (.seq .fld x1.fields))),(37,.v (vI (x1.fields.length:Int))),(38,.v (vI (q2.v:Int)))],fun _=>[.cells [.seq .shp s],.cells (Ahj x1)],fun q2=>q2.v≤x1.fields.length∧Cz (s.length:Int) q2.number (List.drop q2.v x1.fields)=Cz (s.length:Int) 0 x1.fields,fun q2=>x1.fields.length-q2.v⟩
theorem Ab2 (s:List Shp):Fun Tryz.prog 105 [.agg [.seq .shp s]] [] (.v (vB (Do s))) []:=by
 have hN:Bg=274877906944:=rfl
 refine Ar Tryz.func105 Q4 Q4 (w:=let z7:=(s.length:Int);let z8:=vB (Do s);let z9:=(.v (vB false):S);let z10:=([]:List Blk);let z11:=Ht s;(.br (.leaf () []) (.seg [.at 0,.keep [1,3,14,15,16],.sel [0]] (.loop z11 fun q1=> .br (.intro (fun (x1:Shp)=>s[q1.v]? =some x1) fun x1=> .seg [.el .shp x1] (.br (.leaf () []) (.br (.leaf () []) (.br (.leaf () []) (.seg [.at 0,.keep [1,5,6,14,15,16,36,37,38],.sel [0,1]] (.loop (F6 s q1 x1) fun q2=> .br (.intro (fun (x2:Fld)=>x1.fields[q2.v]? =some x2) fun x2=> .seg [.el .fld x2,.call [] (.v (vB (decide (q2.number<(x2).number)&&G5 x2 z7))) []] (.br (.leaf () []) (.seg [.as 51 (.v (vI ((q2.v:Int)+1))),.at 0,.keep [1,5,6,14,15,16,36,37,38],.sel [0,1]] (.next)))) (.seg [.as 54 (.v (vI ((q1.v:Int)+1))),.at 0,.keep [1,3,14,15,16],.sel [0]] (.next)))))))) (.leaf () []))),((decide (6<z7))=true→z9= .v z8∧z10=[])∧((decide (6<z7))=false→z11.Has [(1,.v (vP 0)),(3,.v (vI 0)),(14,.v (.c (.seq .shp s))),(15,.v (vI z7)),(16,.v (vI 0))] [.cells [.seq .shp s]]∧∀q1,z11.inv q1→(let z6:=(q1.v:Int);((decide (z6<z7))=true→(∃(x1:Shp),s[q1.v]? =some x1)∧∀(x1:Shp),(s[q1.v]? =some x1)→(let z3:=(x1.fields.length:Int);let z4:=F6 s q1 x1;let z5:List Blk:=[.cells [.seq .shp s],.cells (Ahj x1)];(s[q1.v]? =some x1)∧((0:Int)≤z6)∧((decide (x1.id≤q1.id))=true→z9= .v z8∧z10=[])∧((decide (x1.id≤q1.id))=false→((decide (99<x1.id))=true→z9= .v z8∧z10=[])∧((decide (99<x1.id))=false→((decide (8<z3))=true→z9= .v z8∧z10=[])∧((decide (8<z3))=false→z4.Has [(1,.v (vP 0)),(5,.v (vP 1)),(6,.v (vI 0)),(14,.v (.c (.seq .shp s))),(15,.v (vI z7)),(16,.v (vI z6)),(36,.v (.c (.seq .fld x1.fields))),(37,.v (vI z3)),(38,.v (vI 0))] z5∧∀q2,z4.inv q2→(let z2:=(q2.v:Int);((decide (z2<z3))=true→(∃(x2:Fld),x1.fields[q2.v]? =some x2)∧∀(x2:Fld),(x1.fields[q2.v]? =some x2)→(let z1:=decide (q2.number<(x2).number)&&G5 x2 z7;(x1.fields[q2.v]? =some x2)∧((0:Int)≤z2)∧(Fun Tryz.prog 158 [.agg (Fm x2),vI q2.number,vI z7] [] (.v (vB z1)) [])∧((!z1)=true→z9= .v z8∧z10=[])∧((!z1)=false→((.v (vI (IntKind.i64.wrap (z2+1))):S)= .v (vI (z2+1)))∧z4.Nxt q2 [(1,.v (vP 0)),(5,.v (vP 1)),(6,.v (vI x2.number)),(14,.v (.c (.seq .shp s))),(15,.v (vI z7)),(16,.v (vI z6)),(36,.v (.c (.seq .fld x1.fields))),(37,.v (vI z3)),(38,.v (vI (z2+1)))] z5)))∧((decide (z2<z3))=false→((.v (vI (IntKind.i64.wrap (z6+1))):S)= .v (vI (z6+1)))∧z11.Nxt q1 [(1,.v (vP 0)),(3,.v (vI x1.id)),(14,.v (.c (.seq .shp s))),(15,.v (vI z7)),(16,.v (vI (z6+1)))] [.cells [.seq .shp s]])))))))∧((decide (z6<z7))=false→(.v (vB true):S)= .v z8∧z10=[]))))) Q4 ?_
 refine dsp (fun h1 p1=>?_) fun h1 p1=>?_
 refine⟨(sB ?_),rfl⟩
 rotate_left
 refine⟨Bk (j:=(⟨0,0⟩:F5)) Q10 rfl (by dsimp only[Ht];exact⟨by omega,rfl⟩),fun (q1:F5) hq_q1=>?_⟩
 have hi_q1:q1.v≤s.length∧Dz (s.length:Int) q1.id (List.drop q1.v s)=Dz (s.length:Int) 0 s:=hq_q1
 obtain ⟨v1,v2⟩:=hi_q1
 refine dsp (fun h2 p2=>?_) fun h2 p2=>?_
 refine⟨(Bm (l:=s) (i:=q1.v) Q2),fun x1 hx1=>?_⟩
 rw[Ez hx1,Dz] at v2
 refine⟨hx1,Q2,dsp (fun h3 p3=>?_) fun h3 p3=>?_⟩
 refine⟨(sB ?_),rfl⟩
 rotate_left
 refine dsp (fun h4 p4=>?_) fun h4 p4=>?_
 refine⟨(sB ?_),rfl⟩
 rotate_left
 refine dsp (fun h5 p5=>?_) fun h5 p5=>?_
 refine⟨(sB ?_),rfl⟩
 rotate_left
 refine⟨Bk (j:=(⟨0,0⟩:Hu)) Q10 rfl (by dsimp only[F6];exact⟨by omega,rfl⟩),fun (q2:Hu) hq_q2=>?_⟩
 have hi_q2:q2.v≤x1.fields.length∧Cz (s.length:Int) q2.number (List.drop q2.v x1.fields)=Cz (s.length:Int) 0 x1.fields:=hq_q2
 obtain ⟨w1,w2⟩:=hi_q2
 refine dsp (fun h6 p6=>?_) fun h6 p6=>?_
 refine⟨(Bm (l:=x1.fields) (i:=q2.v) Q2),fun x2 hx2=>?_⟩
 rw[Ez hx2,Cz] at w2
 refine⟨hx2,Q2,(Aii x2 _ _ Q2),fun h7=>have q7:=Ap h7;have p7:=(Cd dT Iff.rfl).1 q7;?_,fun h7=>have q7:=Ao h7;have p7:=(Cc dT Iff.rfl).1 q7;?_⟩
 refine⟨(sB ?_),rfl⟩
 rotate_left
 exact⟨(Ae Q2 Q2),Bd (j:=(⟨x2.number,q2.v+1⟩:Hu)) Q10 rfl (by dsimp only[F6];exact⟨by omega,by grind[Cz]⟩) (by dsimp only[F6];omega)⟩
 rw[J4 p6] at w2
 exact⟨(Ae Q2 Q2),Bd (j:=(⟨x1.id,q1.v+1⟩:F5)) Q10 rfl (by dsimp only[Ht];exact⟨by omega,by grind[Dz,Cz]⟩) (by dsimp only[Ht];omega)⟩
 rw[J4 p2] at v2
 refine⟨(sB ?_),rfl⟩
 rotate_left
 all_goals grind[Do,Dz,Cz]
structure E8 where
 i:Nat
 pv:Int
def F7 (s:List Shp):Fam:=⟨E8,fun q1=>[(1,.v (vP 0)),(3,.v (vI (q1.i:Int)))],fun _=>[.cells [.seq .shp s]],fun q1=>q1.i≤s.length∧(0:Int)≤q1.pv∧(q1.i=0→q1.pv=0)∧(∀y,0<q1.i→s[Int.toNat ((q1.i:Int)-1)]? =some y→q1.pv=y.id)∧Dz (s.length:Int) q1.pv (List.drop q1.i s)=Dz (s.length:Int) 0 s,fun q1=>s.length-q1.i⟩
structure Dd where
 k:Nat
 pv:Int
def C0 (s:List Shp) (q1:E8) (x1:Shp):Fam:=⟨Dd,fun q2=>[(1,.v (vP 0)),(3,.v (vI (q1.i:Int))),(4,.v (vP 1)),(5,.v (vI (q2.k:Int)))],fun _=>[.cells [.seq .shp s],.cells (Ahj x1)],fun q2=>q2.k≤x1.fields.length∧(0:Int)≤q2.pv∧(q2.k=0→q2.pv=0)∧(∀y,0<q2.k→x1.fields[Int.toNat ((q2.k:Int)-1)]? =some y→q2.pv=y.number)∧Cz (s.length:Int) q2.pv (List.drop q2.k x1.fields)=Cz (s.length:Int) 0 x1.fields,fun q2=>x1.fields.length-q2.k⟩
theorem Ab3 (s:List Shp):Fun Tryz.prog 97 [.agg [.seq .shp s]] [] (.v (vB (Do s))) []:=by
 have hN:Bg=274877906944:=rfl
 refine Ar Tryz.func97 Q4 Q4 (w:=let z25:=(s.length:Int);let z26:=(.v (vB false):S);let z27:=vB (Do s);let z28:=([]:List Blk);let z29:=F7 s;let z30:=os 28 [6];let z31:List Blk:=[.cells [.seq .shp s]];(.br (.leaf () []) (.seg [.at 0,.keep [1,3],.sel [0]] (.loop z29 fun q1=>let z23:=(q1.i:Int);.br (.intro (fun (x1:Shp)=>s[q1.i]? =some x1) fun x1=>let z17:=Am x1.id 1 99;.seg [.el .shp x1] (.case (!z17) (.seg [.ord (os 26 [2]) [],.call [] (.v (vB z17)) [],.br true] (.leaf () [])) (.case (decide (0<z23)) (.intro (fun (x2:Shp)=>s[Int.toNat (z23-1)]? =some x2) fun x2=> .case (decide (x1.id≤x2.id)) (.seg [.ord (os 26 [2]) [],.call [] (.v (vB z17)) [],.br false,.br true,.as 33 (.v (vI (z23-1))),.el .shp x2,.br true] (.leaf () [])) (.seg [.ord (os 26 [2]) [],.call [] (.v (vB z17)) [],.br false,.br true,.as 33 (.v (vI (z23-1))),.el .shp x2,.br false] (.br (.leaf () []) (.seg [.at 0,.keep [1,3,4,5],.sel [0,1]] (.loop (C0 s q1 x1) fun q2=>let z6:=(q2.k:Int);.br (.intro (fun (x3:Fld)=>x1.fields[q2.k]? =some x3) fun x3=>let z3:=G5 x3 z25;.case (!z3) (.seg [.ord z30 [],.el .fld x3,.call [] (.v (vB z3)) [],.br true] (.leaf () [])) (.case (decide (0<z6)) (.intro (fun (x4:Fld)=>x1.fields[Int.toNat (z6-1)]? =some x4) fun x4=> .seg [.ord z30 [],.el .fld x3,.call [] (.v (vB z3)) [],.br false,.br true,.as 70 (.v (vI (z6-1))),.el .fld x4,.el .fld x3] (.br (.leaf () []) (.seg [.as 54 (.v (vI (z6+1))),.at 0,.keep [1,3,4,5],.sel [0,1]] (.next)))) (.seg [.ord z30 [],.el .fld x3,.call [] (.v (vB z3)) [],.br false,.br false,.as 54 (.v (vI (z6+1))),.at 0,.keep [1,3,4,5],.sel [0,1]] (.next)))) (.seg [.as 16 (.v (vI (z23+1))),.at 0,.keep [1,3],.sel [0]] (.next))))))) (.seg [.ord (os 26 [2]) [],.call [] (.v (vB z17)) [],.br false,.br false] (.br (.leaf () []) (.seg [.at 0,.keep [1,3,4,5],.sel [0,1]] (.loop (C0 s q1 x1) fun q2=>let z15:=(q2.k:Int);.br (.intro (fun (x2:Fld)=>x1.fields[q2.k]? =some x2) fun x2=>let z12:=G5 x2 z25;.case (!z12) (.seg [.ord z30 [],.el .fld x2,.call [] (.v (vB z12)) [],.br true] (.leaf () [])) (.case (decide (0<z15)) (.intro (fun (x3:Fld)=>x1.fields[Int.toNat (z15-1)]? =some x3) fun x3=> .seg [.ord z30 [],.el .fld x2,.call [] (.v (vB z12)) [],.br false,.br true,.as 70 (.v (vI (z15-1))),.el .fld x3,.el .fld x2] (.br (.leaf () []) (.seg [.as 54 (.v (vI (z15+1))),.at 0,.keep [1,3,4,5],.sel [0,1]] (.next)))) (.seg [.ord z30 [],.el .fld x2,.call [] (.v (vB z12)) [],.br false,.br false,.as 54 (.v (vI (z15+1))),.at 0,.keep [1,3,4,5],.sel [0,1]] (.next)))) (.seg [.as 16 (.v (vI (z23+1))),.at 0,.keep [1,3],.sel [0]] (.next))))))))) (.leaf () []))),((decide (6<z25))=true→z26= .v z27∧z28=[])∧((decide (6<z25))=false→z29.Has [(1,.v (vP 0)),(3,.v (vI 0))] z31∧∀q1,z29.inv q1→(let z24:=(q1.i:Int);((decide (z24<z25))=true→(∃(x1:Shp),s[q1.i]? =some x1)∧∀(x1:Shp),(s[q1.i]? =some x1)→(let z18:=(x1.fields.length:Int);let z19:List Blk:=[.cells [.seq .shp s],.cells (Ahj x1)];let z20:=Am x1.id 1 99;let z21:=C0 s q1 x1;let z22:List V:=[vI x1.id,vI 1,vI 99];(s[q1.i]? =some x1)∧((0:Int)≤z24)∧((!z20)=true→(Fun Tryz.prog 59 z22 [] (.v (vB z20)) [])∧((!z20)=true)∧z26= .v z27∧z28=[])∧((!z20)=false→((decide (0<z24))=true→(∃(x2:Shp),s[Int.toNat (z24-1)]? =some x2)∧∀(x2:Shp),(s[Int.toNat (z24-1)]? =some x2)→(let z8:=s[Int.toNat (z24-1)]? =some x2;let z9:=decide (x1.id≤x2.id);(z9=true→(Fun Tryz.prog 59 z22 [] (.v (vB z20)) [])∧((!z20)=false)∧((decide (0<z24))=true)∧((.v (vI (IntKind.i64.wrap (z24-1))):S)= .v (vI (z24-1)))∧((.v (vI (IntKind.i64.wrap (z24-1))):S)= .v (vI (z24-1)))∧z8∧((0:Int)≤z24-1)∧z8∧((0:Int)≤z24-1)∧(z9=true)∧z26= .v z27∧z28=[])∧(z9=false→(Fun Tryz.prog 59 z22 [] (.v (vB z20)) [])∧((!z20)=false)∧((decide (0<z24))=true)∧((.v (vI (IntKind.i64.wrap (z24-1))):S)= .v (vI (z24-1)))∧((.v (vI (IntKind.i64.wrap (z24-1))):S)= .v (vI (z24-1)))∧z8∧((0:Int)≤z24-1)∧z8∧((0:Int)≤z24-1)∧(z9=false)∧((decide (8<z18))=true→z26= .v z27∧z28=[])∧((decide (8<z18))=false→z21.Has [(1,.v (vP 0)),(3,.v (vI z24)),(4,.v (vP 1)),(5,.v (vI 0))] z19∧∀q2,z21.inv q2→(let z7:=(q2.k:Int);((decide (z7<z18))=true→(∃(x3:Fld),x1.fields[q2.k]? =some x3)∧∀(x3:Fld),(x1.fields[q2.k]? =some x3)→(let z4:=G5 x3 z25;let z5:=x1.fields[q2.k]? =some x3;((!z4)=true→z5∧((0:Int)≤z7)∧z5∧((0:Int)≤z7)∧(Fun Tryz.prog 155 [.agg [.seq .shp s],.agg (Fm x3)] [] (.v (vB z4)) [])∧((!z4)=true)∧z26= .v z27∧z28=[])∧((!z4)=false→((decide (0<z7))=true→(∃(x4:Fld),x1.fields[Int.toNat (z7-1)]? =some x4)∧∀(x4:Fld),(x1.fields[Int.toNat (z7-1)]? =some x4)→(let z1:=x1.fields[Int.toNat (z7-1)]? =some x4;let z2:=decide (x3.number≤x4.number);z5∧((0:Int)≤z7)∧z5∧((0:Int)≤z7)∧(Fun Tryz.prog 155 [.agg [.seq .shp s],.agg (Fm x3)] [] (.v (vB z4)) [])∧((!z4)=false)∧((decide (0<z7))=true)∧((.v (vI (IntKind.i64.wrap (z7-1))):S)= .v (vI (z7-1)))∧((.v (vI (IntKind.i64.wrap (z7-1))):S)= .v (vI (z7-1)))∧z1∧((0:Int)≤z7-1)∧z1∧((0:Int)≤z7-1)∧z5∧((0:Int)≤z7)∧z5∧((0:Int)≤z7)∧(z2=true→z26= .v z27∧z28=[])∧(z2=false→((.v (vI (IntKind.i64.wrap (z7+1))):S)= .v (vI (z7+1)))∧z21.Nxt q2 [(1,.v (vP 0)),(3,.v (vI z24)),(4,.v (vP 1)),(5,.v (vI (z7+1)))] z19)))∧((decide (0<z7))=false→z5∧((0:Int)≤z7)∧z5∧((0:Int)≤z7)∧(Fun Tryz.prog 155 [.agg [.seq .shp s],.agg (Fm x3)] [] (.v (vB z4)) [])∧((!z4)=false)∧((decide (0<z7))=false)∧((.v (vI (IntKind.i64.wrap (z7+1))):S)= .v (vI (z7+1)))∧z21.Nxt q2 [(1,.v (vP 0)),(3,.v (vI z24)),(4,.v (vP 1)),(5,.v (vI (z7+1)))] z19))))∧((decide (z7<z18))=false→((.v (vI (IntKind.i64.wrap (z24+1))):S)= .v (vI (z24+1)))∧z29.Nxt q1 [(1,.v (vP 0)),(3,.v (vI (z24+1)))] z31))))))∧((decide (0<z24))=false→(Fun Tryz.prog 59 z22 [] (.v (vB z20)) [])∧((!z20)=false)∧((decide (0<z24))=false)∧((decide (8<z18))=true→z26= .v z27∧z28=[])∧((decide (8<z18))=false→z21.Has [(1,.v (vP 0)),(3,.v (vI z24)),(4,.v (vP 1)),(5,.v (vI 0))] z19∧∀q2,z21.inv q2→(let z16:=(q2.k:Int);((decide (z16<z18))=true→(∃(x2:Fld),x1.fields[q2.k]? =some x2)∧∀(x2:Fld),(x1.fields[q2.k]? =some x2)→(let z13:=G5 x2 z25;let z14:=x1.fields[q2.k]? =some x2;((!z13)=true→z14∧((0:Int)≤z16)∧z14∧((0:Int)≤z16)∧(Fun Tryz.prog 155 [.agg [.seq .shp s],.agg (Fm x2)] [] (.v (vB z13)) [])∧((!z13)=true)∧z26= .v z27∧z28=[])∧((!z13)=false→((decide (0<z16))=true→(∃(x3:Fld),x1.fields[Int.toNat (z16-1)]? =some x3)∧∀(x3:Fld),(x1.fields[Int.toNat (z16-1)]? =some x3)→(let z10:=x1.fields[Int.toNat (z16-1)]? =some x3;let z11:=decide (x2.number≤x3.number);z14∧((0:Int)≤z16)∧z14∧((0:Int)≤z16)∧(Fun Tryz.prog 155 [.agg [.seq .shp s],.agg (Fm x2)] [] (.v (vB z13)) [])∧((!z13)=false)∧((decide (0<z16))=true)∧((.v (vI (IntKind.i64.wrap (z16-1))):S)= .v (vI (z16-1)))∧((.v (vI (IntKind.i64.wrap (z16-1))):S)= .v (vI (z16-1)))∧z10∧((0:Int)≤z16-1)∧z10∧((0:Int)≤z16-1)∧z14∧((0:Int)≤z16)∧z14∧((0:Int)≤z16)∧(z11=true→z26= .v z27∧z28=[])∧(z11=false→((.v (vI (IntKind.i64.wrap (z16+1))):S)= .v (vI (z16+1)))∧z21.Nxt q2 [(1,.v (vP 0)),(3,.v (vI z24)),(4,.v (vP 1)),(5,.v (vI (z16+1)))] z19)))∧((decide (0<z16))=false→z14∧((0:Int)≤z16)∧z14∧((0:Int)≤z16)∧(Fun Tryz.prog 155 [.agg [.seq .shp s],.agg (Fm x2)] [] (.v (vB z13)) [])∧((!z13)=false)∧((decide (0<z16))=false)∧((.v (vI (IntKind.i64.wrap (z16+1))):S)= .v (vI (z16+1)))∧z21.Nxt q2 [(1,.v (vP 0)),(3,.v (vI z24)),(4,.v (vP 1)),(5,.v (vI (z16+1)))] z19))))∧((decide (z16<z18))=false→((.v (vI (IntKind.i64.wrap (z24+1))):S)= .v (vI (z24+1)))∧z29.Nxt q1 [(1,.v (vP 0)),(3,.v (vI (z24+1)))] z31)))))))∧((decide (z24<z25))=false→(.v (vB true):S)= .v z27∧z28=[]))))) Q4 ?_
 refine dsp (fun h1 p1=>?_) fun h1 p1=>?_
 exact⟨(congrArg S.v (congrArg V.c (congrArg C.bool Q57))),rfl⟩
 refine⟨Bk (j:=(⟨0,0⟩:E8)) Q10 rfl (by dsimp only[F7];exact⟨by omega,by omega,by omega,by omega,rfl⟩),fun (q1:E8) hq_q1=>?_⟩
 have hi_q1:q1.i≤s.length∧(0:Int)≤q1.pv∧(q1.i=0→q1.pv=0)∧(∀y,0<q1.i→s[Int.toNat ((q1.i:Int)-1)]? =some y→q1.pv=y.id)∧Dz (s.length:Int) q1.pv (List.drop q1.i s)=Dz (s.length:Int) 0 s:=hq_q1
 obtain ⟨v1,v2,v3,v4,v5⟩:=hi_q1
 refine dsp (fun h2 p2=>?_) fun h2 p2=>?_
 refine⟨(Bm (l:=s) (i:=q1.i) Q2),fun x1 hx1=>?_⟩
 rw[Ez hx1,Dz] at v5
 refine⟨hx1,Q2,fun h3=>have q3:=Ap h3;have p3:=Az q3;?_,fun h3=>have q3:=Ao h3;have p3:=As q3;?_⟩
 exact⟨(Ba _ _ _),h3,(congrArg S.v (congrArg V.c (congrArg C.bool Q57))),rfl⟩
 refine dsp (fun h4 p4=>?_) fun h4 p4=>?_
 refine⟨(Bm (l:=s) (i:=Int.toNat ((q1.i:Int)-1)) Q2),fun x2 hx2=>?_⟩
 have hy:=v4 _ (by omega) hx2
 refine dsp (fun h5 p5=>?_) fun h5 p5=>?_
 exact⟨(Ba _ _ _),h3,h4,(Ae Q2 Q2),(Ae Q2 Q2),hx2,Q2,hx2,Q2,h5,(congrArg S.v (congrArg V.c (congrArg C.bool Q57))),rfl⟩
 refine⟨(Ba _ _ _),h3,h4,(Ae Q2 Q2),(Ae Q2 Q2),hx2,Q2,hx2,Q2,h5,dsp (fun h6 p6=>?_) fun h6 p6=>?_⟩
 exact⟨(congrArg S.v (congrArg V.c (congrArg C.bool Q57))),rfl⟩
 refine⟨Bk (j:=(⟨0,0⟩:Dd)) Q10 rfl (by dsimp only[C0];exact⟨by omega,by omega,by omega,by omega,rfl⟩),fun (q2:Dd) hq_q2=>?_⟩
 have hi_q2:q2.k≤x1.fields.length∧(0:Int)≤q2.pv∧(q2.k=0→q2.pv=0)∧(∀y,0<q2.k→x1.fields[Int.toNat ((q2.k:Int)-1)]? =some y→q2.pv=y.number)∧Cz (s.length:Int) q2.pv (List.drop q2.k x1.fields)=Cz (s.length:Int) 0 x1.fields:=hq_q2
 obtain ⟨w1,w2,w3,w4,w5⟩:=hi_q2
 refine dsp (fun h7 p7=>?_) fun h7 p7=>?_
 refine⟨(Bm (l:=x1.fields) (i:=q2.k) Q2),fun x3 hx3=>?_⟩
 rw[Ez hx3,Cz] at w5
 refine⟨fun h8=>have q8:=Ap h8;?_,fun h8=>have q8:=Ao h8;have p8:=Zf q8;?_⟩
 exact⟨hx3,Q2,hx3,Q2,(Ry s x3 Q2),h8,(congrArg S.v (congrArg V.c (congrArg C.bool Q57))),rfl⟩
 refine dsp (fun h9 p9=>?_) fun h9 p9=>?_
 refine⟨(Bm (l:=x1.fields) (i:=Int.toNat ((q2.k:Int)-1)) Q2),fun x4 hx4=>?_⟩
 have hz:=w4 _ (by omega) hx4
 refine⟨hx3,Q2,hx3,Q2,(Ry s x3 Q2),h8,h9,(Ae Q2 Q2),(Ae Q2 Q2),hx4,Q2,hx4,Q2,hx3,Q2,hx3,Q2,dsp (fun h10 p10=>?_) fun h10 p10=>?_⟩
 exact⟨(congrArg S.v (congrArg V.c (congrArg C.bool Q57))),rfl⟩
 exact⟨(Ae Q2 Q2),Bd (j:=(⟨q2.k+1,x3.number⟩:Dd)) Q10 rfl Q49 (by dsimp only[C0];omega)⟩
 exact⟨hx3,Q2,hx3,Q2,(Ry s x3 Q2),h8,h9,(Ae Q2 Q2),Bd (j:=(⟨q2.k+1,x3.number⟩:Dd)) Q10 rfl Q49 (by dsimp only[C0];omega)⟩
 rw[J4 p7,Cz] at w5
 exact⟨(Ae Q2 Q2),Bd (j:=(⟨q1.i+1,x1.id⟩:E8)) Q10 rfl Q41 (by dsimp only[F7];omega)⟩
 refine⟨(Ba _ _ _),h3,h4,dsp (fun h5 p5=>?_) fun h5 p5=>?_⟩
 exact⟨(congrArg S.v (congrArg V.c (congrArg C.bool Q57))),rfl⟩
 refine⟨Bk (j:=(⟨0,0⟩:Dd)) Q10 rfl (by dsimp only[C0];exact⟨by omega,by omega,by omega,by omega,rfl⟩),fun (q2:Dd) hq_q2=>?_⟩
 have hi_q2:q2.k≤x1.fields.length∧(0:Int)≤q2.pv∧(q2.k=0→q2.pv=0)∧(∀y,0<q2.k→x1.fields[Int.toNat ((q2.k:Int)-1)]? =some y→q2.pv=y.number)∧Cz (s.length:Int) q2.pv (List.drop q2.k x1.fields)=Cz (s.length:Int) 0 x1.fields:=hq_q2
 obtain ⟨w1,w2,w3,w4,w5⟩:=hi_q2
 refine dsp (fun h6 p6=>?_) fun h6 p6=>?_
 refine⟨(Bm (l:=x1.fields) (i:=q2.k) Q2),fun x2 hx2=>?_⟩
 rw[Ez hx2,Cz] at w5
 refine⟨fun h7=>have q7:=Ap h7;?_,fun h7=>have q7:=Ao h7;have p7:=Zf q7;?_⟩
 exact⟨hx2,Q2,hx2,Q2,(Ry s x2 Q2),h7,(congrArg S.v (congrArg V.c (congrArg C.bool Q57))),rfl⟩
 refine dsp (fun h8 p8=>?_) fun h8 p8=>?_
 refine⟨(Bm (l:=x1.fields) (i:=Int.toNat ((q2.k:Int)-1)) Q2),fun x3 hx3=>?_⟩
 have hz:=w4 _ (by omega) hx3
 refine⟨hx2,Q2,hx2,Q2,(Ry s x2 Q2),h7,h8,(Ae Q2 Q2),(Ae Q2 Q2),hx3,Q2,hx3,Q2,hx2,Q2,hx2,Q2,dsp (fun h9 p9=>?_) fun h9 p9=>?_⟩
 exact⟨(congrArg S.v (congrArg V.c (congrArg C.bool Q57))),rfl⟩
 exact⟨(Ae Q2 Q2),Bd (j:=(⟨q2.k+1,x2.number⟩:Dd)) Q10 rfl Q50 (by dsimp only[C0];omega)⟩
 exact⟨hx2,Q2,hx2,Q2,(Ry s x2 Q2),h7,h8,(Ae Q2 Q2),Bd (j:=(⟨q2.k+1,x2.number⟩:Dd)) Q10 rfl Q50 (by dsimp only[C0];omega)⟩
 rw[J4 p6,Cz] at w5
 exact⟨(Ae Q2 Q2),Bd (j:=(⟨q1.i+1,x1.id⟩:E8)) Q10 rfl Q41 (by dsimp only[F7];omega)⟩
 rw[J4 p2,Dz] at v5
 exact⟨(congrArg S.v (congrArg V.c (congrArg C.bool Q57))),rfl⟩
structure Ka where
 v:Nat
def G7 (n:Int) (x1:Shp):Fam:=⟨Ka,fun q1=>[(2,.v (vI n)),(6,.v (vP 0)),(23,.v (.c (.seq .fld x1.fields))),(24,.v (vI (x1.fields.length:Int))),(25,.v (vI (q1.v:Int)))],fun _=>[.cells [.int .i64 0,.int .i64 0,.bool false,.bool false,.int .i64 0]],fun q1=>q1.v≤x1.fields.length∧Fp (List.drop q1.v x1.fields) n=Fp x1.fields n,fun q1=>x1.fields.length-q1.v⟩
theorem Uj (s:List Shp) (sh:Int) (n:Int) (hp1:s.length≤1000) (hp2: ∀x∈s,x.fields.length≤1000):Fun Tryz.prog 140 [.agg [.seq .shp s],vI sh,vI n] [] (.tup [.agg (Fm ((fieldAt s sh n).getD fld0)),vB (fieldAt s sh n).isSome]) []:=by
 have hN:Bg=274877906944:=rfl
 refine Ar Tryz.func140 Q4 Q4 (w:=let z4:List C:=[.int .i64 0,.int .i64 0,.bool false,.bool false,.int .i64 0];let z5:=(s.length:Int)-1;let z6:=fieldAt s sh n;let z7:=Am sh 0 z5;let z8:=Fm (z6.getD fld0);(.seg [.as 14 (.v (vI z5)),.call [] (.v (vB z7)) []] (.br (.leaf () []) (.intro (fun (x1:Shp)=>s[sh.toNat]? =some x1) fun x1=> .seg [.el .shp x1,.at 0,.keep [2,6,23,24,25],.sel [1]] (.loop (G7 n x1) fun q1=> .br (.intro (fun (x2:Fld)=>x1.fields[q1.v]? =some x2) fun x2=> .seg [.el .fld x2] (.br (.leaf () []) (.seg [.as 34 (.v (vI ((q1.v:Int)+1))),.at 0,.keep [2,6,23,24,25],.sel [0]] (.next)))) (.leaf () [])))),((.v (vI (IntKind.i64.wrap z5)):S)= .v (vI z5))∧(Fun Tryz.prog 79 [vI sh,vI 0,vI z5] [] (.v (vB z7)) [])∧((!z7)=true→(.tup [.agg z4,vB false]:S)= .tup [.agg z8,vB z6.isSome]∧([]:List Blk)=[])∧((!z7)=false→(∃(x1:Shp),s[sh.toNat]? =some x1)∧∀(x1:Shp),(s[sh.toNat]? =some x1)→(let z2:=(x1.fields.length:Int);let z3:=G7 n x1;(s[sh.toNat]? =some x1)∧((0:Int)≤sh)∧z3.Has [(2,.v (vI n)),(6,.v (vP 0)),(23,.v (.c (.seq .fld x1.fields))),(24,.v (vI z2)),(25,.v (vI 0))] [.cells z4]∧∀q1,z3.inv q1→(let z1:=(q1.v:Int);((decide (z1<z2))=true→(∃(x2:Fld),x1.fields[q1.v]? =some x2)∧∀(x2:Fld),(x1.fields[q1.v]? =some x2)→((x1.fields[q1.v]? =some x2)∧((0:Int)≤z1)∧((decide (x2.number=n))=true→(.tup [.agg (Fm x2),vB true]:S)= .tup [.agg z8,vB z6.isSome]∧([]:List Blk)=[])∧((decide (x2.number=n))=false→((.v (vI (IntKind.i64.wrap (z1+1))):S)= .v (vI (z1+1)))∧z3.Nxt q1 [(2,.v (vI n)),(6,.v (vP 0)),(23,.v (.c (.seq .fld x1.fields))),(24,.v (vI z2)),(25,.v (vI (z1+1)))] [.cells z4])))∧((decide (z1<z2))=false→(.tup [.agg z4,vB false]:S)= .tup [.agg z8,vB z6.isSome]∧([]:List Blk)=[])))))) Q4 ?_
 refine⟨(Ae Q2 Q2),(B7 _ _ _),fun h1=>have q1:=Ap h1;have p1:=Az q1;?_,fun h1=>have q1:=Ao h1;have p1:=As q1;?_⟩
 refine have hm1:(fieldAt s sh n).getD fld0=(⟨0,0,false,false,0⟩:Fld):=?_;?_
 rotate_left
 refine⟨(congrArg S.tup (Ah (congrArg V.agg (Ah (congrArg (C.int .i64) ?_) (Ah (congrArg (C.int .i64) ?_) (Ah (congrArg C.bool ?_) (Ah (congrArg C.bool ?_) (Ah (congrArg (C.int .i64) ?_) rfl)))))) (Ah (congrArg V.c (congrArg C.bool ?_)) rfl))),rfl⟩
 rotate_left 6
 have q1_:=q1
 refine⟨(Bm (l:=s) (i:=sh.toNat) Q2),fun x1 hx1=>?_⟩
 have hfa:=V0 (n:=n) q1_ hx1
 have hfl:=hp2 x1 (List.mem_of_getElem? hx1)
 refine⟨hx1,Q2,Bk (j:=(⟨0⟩:Ka)) Q10 rfl (by dsimp only[G7];exact⟨by omega,by simp⟩),fun (q1:Ka) hq_q1=>?_⟩
 have hi_q1:q1.v≤x1.fields.length∧Fp (List.drop q1.v x1.fields) n=Fp x1.fields n:=hq_q1
 obtain ⟨v1,v2⟩:=hi_q1
 refine dsp (fun h2 p2=>?_) fun h2 p2=>?_
 refine⟨(Bm (l:=x1.fields) (i:=q1.v) Q2),fun x2 hx2=>?_⟩
 rw[Ez hx2,Sr] at v2
 refine⟨hx2,Q2,dsp (fun h3 p3=>?_) fun h3 p3=>?_⟩
 refine have hm1:(fieldAt s sh n).getD fld0=x2:=?_;?_
 rotate_left
 refine⟨(congrArg S.tup (Ah (congrArg V.agg (Ah (congrArg (C.int .i64) ?_) (Ah (congrArg (C.int .i64) ?_) (Ah (congrArg C.bool ?_) (Ah (congrArg C.bool ?_) (Ah (congrArg (C.int .i64) ?_) rfl)))))) (Ah (congrArg V.c (congrArg C.bool ?_)) rfl))),rfl⟩
 rotate_left 6
 exact⟨(Ae Q2 Q2),Bd (j:=(⟨q1.v+1⟩:Ka)) Q10 rfl (by dsimp only[G7];exact⟨by omega,by grind⟩) (by dsimp only[G7];omega)⟩
 rw[J4 p2] at v2
 refine have hm1:(fieldAt s sh n).getD fld0=(⟨0,0,false,false,0⟩:Fld):=?_;?_
 rotate_left
 refine⟨(congrArg S.tup (Ah (congrArg V.agg (Ah (congrArg (C.int .i64) ?_) (Ah (congrArg (C.int .i64) ?_) (Ah (congrArg C.bool ?_) (Ah (congrArg C.bool ?_) (Ah (congrArg (C.int .i64) ?_) rfl)))))) (Ah (congrArg V.c (congrArg C.bool ?_)) rfl))),rfl⟩
 rotate_left 6
 all_goals grind[fieldAt,fld0,Fp]
structure Kb where
 i:Nat
def G8 (n:Int) (x1:Shp):Fam:=⟨Kb,fun q1=>[(2,.v (vI n)),(6,.v (vP 0)),(8,.v (.c (.seq .fld x1.fields))),(9,.v (vI (q1.i:Int)))],fun _=>[.cells [.int .i64 0,.int .i64 0,.bool false,.bool false,.int .i64 0]],fun q1=>q1.i≤x1.fields.length∧Fp (List.drop q1.i x1.fields) n=Fp x1.fields n,fun q1=>x1.fields.length-q1.i⟩
theorem Uk (s:List Shp) (sh:Int) (n:Int) (hp1:s.length≤1000) (hp2: ∀x∈s,x.fields.length≤1000):Fun Tryz.prog 133 [.agg [.seq .shp s],vI sh,vI n] [] (.tup [.agg (Fm ((fieldAt s sh n).getD fld0)),vB (fieldAt s sh n).isSome]) []:=by
 have hN:Bg=274877906944:=rfl
 refine Ar Tryz.func133 Q4 Q4 (w:=let z4:List C:=[.int .i64 0,.int .i64 0,.bool false,.bool false,.int .i64 0];let z5:=(s.length:Int)-1;let z6:=fieldAt s sh n;let z7:=Am sh 0 z5;let z8:=Fm (z6.getD fld0);(.seg [.as 14 (.v (vI z5)),.call [] (.v (vB z7)) []] (.br (.leaf () []) (.intro (fun (x1:Shp)=>s[sh.toNat]? =some x1) fun x1=> .seg [.el .shp x1,.at 0,.keep [2,6,8,9],.sel [1]] (.loop (G8 n x1) fun q1=> .br (.intro (fun (x2:Fld)=>x1.fields[q1.i]? =some x2) fun x2=> .seg [.el .fld x2] (.br (.seg [.el .fld x2] (.leaf () [])) (.seg [.as 29 (.v (vI ((q1.i:Int)+1))),.at 0,.keep [2,6,8,9],.sel [0]] (.next)))) (.leaf () [])))),((.v (vI (IntKind.i64.wrap z5)):S)= .v (vI z5))∧(Fun Tryz.prog 59 [vI sh,vI 0,vI z5] [] (.v (vB z7)) [])∧((!z7)=true→(.tup [.agg z4,vB false]:S)= .tup [.agg z8,vB z6.isSome]∧([]:List Blk)=[])∧((!z7)=false→(∃(x1:Shp),s[sh.toNat]? =some x1)∧∀(x1:Shp),(s[sh.toNat]? =some x1)→(let z2:=(x1.fields.length:Int);let z3:=G8 n x1;(s[sh.toNat]? =some x1)∧((0:Int)≤sh)∧z3.Has [(2,.v (vI n)),(6,.v (vP 0)),(8,.v (.c (.seq .fld x1.fields))),(9,.v (vI 0))] [.cells z4]∧∀q1,z3.inv q1→(let z1:=(q1.i:Int);((decide (z1<z2))=true→(∃(x2:Fld),x1.fields[q1.i]? =some x2)∧∀(x2:Fld),(x1.fields[q1.i]? =some x2)→((x1.fields[q1.i]? =some x2)∧((0:Int)≤z1)∧((decide (x2.number=n))=true→(x1.fields[q1.i]? =some x2)∧((0:Int)≤z1)∧(.tup [.agg (Fm x2),vB true]:S)= .tup [.agg z8,vB z6.isSome]∧([]:List Blk)=[])∧((decide (x2.number=n))=false→((.v (vI (IntKind.i64.wrap (z1+1))):S)= .v (vI (z1+1)))∧z3.Nxt q1 [(2,.v (vI n)),(6,.v (vP 0)),(8,.v (.c (.seq .fld x1.fields))),(9,.v (vI (z1+1)))] [.cells z4])))∧((decide (z1<z2))=false→(.tup [.agg z4,vB false]:S)= .tup [.agg z8,vB z6.isSome]∧([]:List Blk)=[])))))) Q4 ?_
 refine⟨(Ae Q2 Q2),(Ba _ _ _),fun h1=>have q1:=Ap h1;have p1:=Az q1;?_,fun h1=>have q1:=Ao h1;have p1:=As q1;?_⟩
 refine have hm1:(fieldAt s sh n).getD fld0=(⟨0,0,false,false,0⟩:Fld):=?_;?_
 rotate_left
 refine⟨(congrArg S.tup (Ah (congrArg V.agg (Ah (congrArg (C.int .i64) ?_) (Ah (congrArg (C.int .i64) ?_) (Ah (congrArg C.bool ?_) (Ah (congrArg C.bool ?_) (Ah (congrArg (C.int .i64) ?_) rfl)))))) (Ah (congrArg V.c (congrArg C.bool ?_)) rfl))),rfl⟩
 rotate_left 6
 have q1_:=q1
 refine⟨(Bm (l:=s) (i:=sh.toNat) Q2),fun x1 hx1=>?_⟩
 have hfa:=V0 (n:=n) q1_ hx1
 have hfl:=hp2 x1 (List.mem_of_getElem? hx1)
 refine⟨hx1,Q2,Bk (j:=(⟨0⟩:Kb)) Q10 rfl (by dsimp only[G8];exact⟨by omega,by simp⟩),fun (q1:Kb) hq_q1=>?_⟩
 have hi_q1:q1.i≤x1.fields.length∧Fp (List.drop q1.i x1.fields) n=Fp x1.fields n:=hq_q1
 obtain ⟨v1,v2⟩:=hi_q1
 refine dsp (fun h2 p2=>?_) fun h2 p2=>?_
 refine⟨(Bm (l:=x1.fields) (i:=q1.i) Q2),fun x2 hx2=>?_⟩
 rw[Ez hx2,Sr] at v2
 refine⟨hx2,Q2,dsp (fun h3 p3=>?_) fun h3 p3=>?_⟩
 refine⟨hx2,Q2,?_⟩
 refine have hm1:(fieldAt s sh n).getD fld0=x2:=?_;?_
 rotate_left
 refine⟨(congrArg S.tup (Ah (congrArg V.agg (Ah (congrArg (C.int .i64) ?_) (Ah (congrArg (C.int .i64) ?_) (Ah (congrArg C.bool ?_) (Ah (congrArg C.bool ?_) (Ah (congrArg (C.int .i64) ?_) rfl)))))) (Ah (congrArg V.c (congrArg C.bool ?_)) rfl))),rfl⟩
 rotate_left 6
 exact⟨(Ae Q2 Q2),Bd (j:=(⟨q1.i+1⟩:Kb)) Q10 rfl (by dsimp only[G8];exact⟨by omega,by grind⟩) (by dsimp only[G8];omega)⟩
 rw[J4 p2] at v2
 refine have hm1:(fieldAt s sh n).getD fld0=(⟨0,0,false,false,0⟩:Fld):=?_;?_
 rotate_left
 refine⟨(congrArg S.tup (Ah (congrArg V.agg (Ah (congrArg (C.int .i64) ?_) (Ah (congrArg (C.int .i64) ?_) (Ah (congrArg C.bool ?_) (Ah (congrArg C.bool ?_) (Ah (congrArg (C.int .i64) ?_) rfl)))))) (Ah (congrArg V.c (congrArg C.bool ?_)) rfl))),rfl⟩
 rotate_left 6
 all_goals grind[fieldAt,fld0,Fp]
theorem Agd (p:Pln):Fun Tryz.prog 48 [.agg (M1 p)] [] (.v (vB (Es p))) []:=by
 have hN:Bg=274877906944:=rfl
 refine Ar Tryz.func48 Q4 Q4 (w:=let z1:=(p.shapes.length:Int)-1;let z2:=Am p.root 0 z1;let z3:=Do p.shapes;let z4:=Am p.deep 1 8;let z5:=vB (Am p.most 0 2000);let z6:=vB (Es p);let z7:=([]:List Blk);let z8:=(.v (vB false):S);(.seg [.call [] (.v (vB z3)) []] (.br (.seg [.as 13 (.v (vI z1)),.call [] (.v (vB z2)) []] (.br (.seg [.call [] (.v (vB z4)) []] (.br (.seg [.call [] (.v z5) []] (.leaf () [])) (.leaf () []))) (.leaf () []))) (.leaf () [])),(Fun Tryz.prog 105 [.agg [.seq .shp p.shapes]] [] (.v (vB z3)) [])∧(z3=true→((.v (vI (IntKind.i64.wrap z1)):S)= .v (vI z1))∧(Fun Tryz.prog 79 [vI p.root,vI 0,vI z1] [] (.v (vB z2)) [])∧(z2=true→(Fun Tryz.prog 79 [vI p.deep,vI 1,vI 8] [] (.v (vB z4)) [])∧(z4=true→(Fun Tryz.prog 79 [vI p.most,vI 0,vI 2000] [] (.v z5) [])∧(.v z5:S)= .v z6∧z7=[])∧(z4=false→z8= .v z6∧z7=[]))∧(z2=false→z8= .v z6∧z7=[]))∧(z3=false→z8= .v z6∧z7=[]))) Q4 ?_
 refine⟨(Ab2 p.shapes),fun h1=>have p1:=Rv h1;?_,fun h1=>?_⟩
 refine⟨(Ae Q2 Q2),(B7 _ _ _),fun h2=>have p2:=As h2;?_,fun h2=>have p2:=Az h2;?_⟩
 refine⟨(B7 _ _ _),fun h3=>have p3:=As h3;?_,fun h3=>have p3:=Az h3;?_⟩
 exact⟨(B7 _ _ _),(congrArg S.v (congrArg V.c (congrArg C.bool Q74))),rfl⟩
 exact⟨(congrArg S.v (congrArg V.c (congrArg C.bool Q74))),rfl⟩
 exact⟨(congrArg S.v (congrArg V.c (congrArg C.bool Q74))),rfl⟩
 exact⟨(congrArg S.v (congrArg V.c (congrArg C.bool Q74))),rfl⟩
theorem Tf (p:Pln):Fun Tryz.prog 34 [.agg (M1 p)] [] (.v (vB (Es p))) []:=by
 have hN:Bg=274877906944:=rfl
 refine Ar Tryz.func34 Q4 Q4 (w:=let z1:=(p.shapes.length:Int)-1;let z2:=Am p.root 0 z1;let z3:=Do p.shapes;let z4:=Am p.deep 1 8;let z5:=vB (Am p.most 0 2000);let z6:=vB (Es p);let z7:=([]:List Blk);let z8:=(.v (vB false):S);(.seg [.call [] (.v (vB z3)) []] (.br (.seg [.as 13 (.v (vI z1)),.call [] (.v (vB z2)) []] (.br (.seg [.call [] (.v (vB z4)) []] (.br (.seg [.call [] (.v z5) []] (.leaf () [])) (.leaf () []))) (.leaf () []))) (.leaf () [])),(Fun Tryz.prog 97 [.agg [.seq .shp p.shapes]] [] (.v (vB z3)) [])∧(z3=true→((.v (vI (IntKind.i64.wrap z1)):S)= .v (vI z1))∧(Fun Tryz.prog 59 [vI p.root,vI 0,vI z1] [] (.v (vB z2)) [])∧(z2=true→(Fun Tryz.prog 59 [vI p.deep,vI 1,vI 8] [] (.v (vB z4)) [])∧(z4=true→(Fun Tryz.prog 59 [vI p.most,vI 0,vI 2000] [] (.v z5) [])∧(.v z5:S)= .v z6∧z7=[])∧(z4=false→z8= .v z6∧z7=[]))∧(z2=false→z8= .v z6∧z7=[]))∧(z3=false→z8= .v z6∧z7=[]))) Q4 ?_
 refine⟨(Ab3 p.shapes),fun h1=>have p1:=Rv h1;?_,fun h1=>?_⟩
 refine⟨(Ae Q2 Q2),(Ba _ _ _),fun h2=>have p2:=As h2;?_,fun h2=>have p2:=Az h2;?_⟩
 refine⟨(Ba _ _ _),fun h3=>have p3:=As h3;?_,fun h3=>have p3:=Az h3;?_⟩
 exact⟨(Ba _ _ _),(congrArg S.v (congrArg V.c (congrArg C.bool Q74))),rfl⟩
 exact⟨(congrArg S.v (congrArg V.c (congrArg C.bool Q74))),rfl⟩
 exact⟨(congrArg S.v (congrArg V.c (congrArg C.bool Q74))),rfl⟩
 exact⟨(congrArg S.v (congrArg V.c (congrArg C.bool Q74))),rfl⟩
theorem Ab4 (k:Int):Fun Tryz.prog 143 [vI k] [] (.v (vB (Er k))) []:=by
 have hN:Bg=274877906944:=rfl
 refine Ar Tryz.func143 Q4 Q4 (w:=(.br (.leaf () []) (.br (.leaf () []) (.leaf () [])),((decide (k=2))=true→(.v (vB true):S)= .v (vB (Er k))∧([]:List Blk)=[])∧((decide (k=2))=false→((decide (k=3))=true→(.v (vB true):S)= .v (vB (Er k))∧([]:List Blk)=[])∧((decide (k=3))=false→(.v (vB (decide (k=6))):S)= .v (vB (Er k))∧([]:List Blk)=[])))) Q4 ?_
 refine dsp (fun h1 p1=>?_) fun h1 p1=>?_
 exact⟨(congrArg S.v (congrArg V.c (congrArg C.bool (by grind[Er])))),rfl⟩
 refine dsp (fun h2 p2=>?_) fun h2 p2=>?_
 exact⟨(congrArg S.v (congrArg V.c (congrArg C.bool (by grind[Er])))),rfl⟩
 exact⟨(congrArg S.v (congrArg V.c (congrArg C.bool (by grind[Er])))),rfl⟩
theorem Dq (d:Dcd) (hp1:List.length (d).stack≤Bg):Fun Tryz.prog 85 [.agg (Bt d)] [] (.v (vI (Dh d))) []:=by
 have hN:Bg=274877906944:=rfl
 refine Ar Tryz.func85 Q4 Q4 (w:=let z1:=((List.length d.stack:Nat):Int);(.br (.leaf () []) (.seg [.as 12 (.v (vI (z1-1)))] (.intro (fun (x1:Lev)=>d.stack[Int.toNat (z1-1)]? =some x1) fun x1=> .seg [.el .lev x1] (.leaf () []))),((decide (z1=0))=true→(.v (vI 0):S)= .v (vI (Dh d))∧([]:List Blk)=[])∧((decide (z1=0))=false→((.v (vI (IntKind.i64.wrap (z1-1))):S)= .v (vI (z1-1)))∧(∃(x1:Lev),d.stack[Int.toNat (z1-1)]? =some x1)∧∀(x1:Lev),(d.stack[Int.toNat (z1-1)]? =some x1)→((d.stack[Int.toNat (z1-1)]? =some x1)∧((0:Int)≤z1-1)∧(.v (vI x1.left):S)= .v (vI (Dh d))∧([]:List Blk)=[])))) Q4 ?_
 refine dsp (fun h1 p1=>?_) fun h1 p1=>?_
 refine⟨(sI ?_),rfl⟩
 rotate_left
 refine⟨(Ae Q2 Q2),(Bm (l:=d.stack) (i:=Int.toNat (((List.length d.stack:Nat):Int)-1)) Q2),fun x1 hx1=>?_⟩
 have htop:Dh d=x1.left:=by unfold Dh;rw[Ww (by rw[←hx1];congr 1;omega)]
 refine⟨hx1,Q2,(sI ?_),rfl⟩
 rotate_left
 all_goals first|(exact htop.symm)|((unfold Dh;rw[List.eq_nil_of_length_eq_zero (by omega:List.length d.stack=0)];rfl))|(grind)
theorem Mx (d:Dcd) (hp1:List.length (d).stack≤Bg):Fun Tryz.prog 73 [.agg (Bt d)] [] (.v (vI (Dh d))) []:=by
 have hN:Bg=274877906944:=rfl
 refine Ar Tryz.func73 Q4 Q4 (w:=let z1:=((List.length d.stack:Nat):Int);(.br (.leaf () []) (.seg [.as 12 (.v (vI (z1-1)))] (.intro (fun (x1:Lev)=>d.stack[Int.toNat (z1-1)]? =some x1) fun x1=> .seg [.el .lev x1] (.leaf () []))),((decide (z1=0))=true→(.v (vI 0):S)= .v (vI (Dh d))∧([]:List Blk)=[])∧((decide (z1=0))=false→((.v (vI (IntKind.i64.wrap (z1-1))):S)= .v (vI (z1-1)))∧(∃(x1:Lev),d.stack[Int.toNat (z1-1)]? =some x1)∧∀(x1:Lev),(d.stack[Int.toNat (z1-1)]? =some x1)→((d.stack[Int.toNat (z1-1)]? =some x1)∧((0:Int)≤z1-1)∧(.v (vI x1.left):S)= .v (vI (Dh d))∧([]:List Blk)=[])))) Q4 ?_
 refine dsp (fun h1 p1=>?_) fun h1 p1=>?_
 refine⟨(sI ?_),rfl⟩
 rotate_left
 refine⟨(Ae Q2 Q2),(Bm (l:=d.stack) (i:=Int.toNat (((List.length d.stack:Nat):Int)-1)) Q2),fun x1 hx1=>?_⟩
 have htop:Dh d=x1.left:=by unfold Dh;rw[Ww (by rw[←hx1];congr 1;omega)]
 refine⟨hx1,Q2,(sI ?_),rfl⟩
 rotate_left
 all_goals first|(exact htop.symm)|((unfold Dh;rw[List.eq_nil_of_length_eq_zero (by omega:List.length d.stack=0)];rfl))|(grind)
theorem Aeh (p:Pln) (k:Int) (hp1:List.length (p).shapes≤Bg):Fun Tryz.prog 184 [.agg (M1 p),vI k] [] (.v (vB (Am k 0 (((List.length (p).shapes:Nat):Int)-1)))) []:=by
 have hN:Bg=274877906944:=rfl
 refine Ar Tryz.func184 Q4 Q4 (w:=let z1:=((List.length p.shapes:Nat):Int)-1;let z2:=vB (Am k 0 z1);(.seg [.as 10 (.v (vI z1)),.call [] (.v z2) []] (.leaf () []),((.v (vI (IntKind.i64.wrap z1)):S)= .v (vI z1))∧(Fun Tryz.prog 79 [vI k,vI 0,vI z1] [] (.v z2) [])∧(.v z2:S)= .v (vB (Am k 0 (((List.length (p).shapes:Nat):Int)-1)))∧([]:List Blk)=[])) Q4 ?_
 exact⟨(Ae Q2 Q2),(B7 _ _ _),(congrArg S.v (congrArg V.c (congrArg C.bool (by rfl)))),rfl⟩
theorem Aei (p:Pln) (l:Lev) (hp1:List.length (p).shapes≤Bg):Fun Tryz.prog 139 [.agg (M1 p),.agg (Akm l)] [] (.v (vB (Ew ((List.length (p).shapes:Nat):Int) l))) []:=by
 have hN:Bg=274877906944:=rfl
 refine Ar Tryz.func139 Q4 Q4 (w:=let z1:=((List.length (p).shapes:Nat):Int);let z2:=Am l.msg 0 (z1-1);let z3:=vB (Am l.left 0 2000);(.seg [.call [] (.v (vB z2)) []] (.br (.seg [.call [] (.v z3) []] (.leaf () [])) (.leaf () [])),(Fun Tryz.prog 184 [.agg (M1 p),vI l.msg] [] (.v (vB z2)) [])∧(z2=true→(Fun Tryz.prog 79 [vI l.left,vI 0,vI 2000] [] (.v z3) [])∧(.v z3:S)= .v (vB (Ew z1 l))∧([]:List Blk)=[])∧(z2=false→(.v (vB false):S)= .v (vB (Ew z1 l))∧([]:List Blk)=[]))) Q4 ?_
 refine⟨(Aeh p _ Q2),fun h1=>have p1:=As h1;?_,fun h1=>have p1:=Az h1;?_⟩
 refine⟨(B7 _ _ _),(sB ?_),rfl⟩
 rotate_left
 refine⟨(sB ?_),rfl⟩
 rotate_left
 all_goals first|(simp[Ew, *];done)|(simp_all[Ew];done)|(grind[Ew])
theorem Age (l:Lev) (d:Dcd) (hp1:List.length (d).plan.shapes≤Bg):Fun Tryz.prog 138 [.agg (Akm l),vP 0] [.cells (Bt d)] (.v (vB (!Ew ((List.length (d).plan.shapes:Nat):Int) l))) [.cells (Bt d)]:=by
 have hN:Bg=274877906944:=rfl
 refine Ar Tryz.func138 Q4 Q4 (w:=let z1:=Ew ((List.length (d.plan).shapes:Nat):Int) l;(.seg [.call [] (.v (vB z1)) []] (.leaf () [0]),(Fun Tryz.prog 139 [.agg (M1 d.plan),.agg (Akm l)] [] (.v (vB z1)) [])∧(.v (vB (!z1)):S)= .v (vB (!Ew ((List.length (d).plan.shapes:Nat):Int) l))∧([.cells (Bt d)]:List Blk)=[.cells (Bt d)])) Q4 ?_
 exact⟨(Aei d.plan l Q2),(congrArg S.v (congrArg V.c (congrArg C.bool (by rfl)))),rfl⟩
structure Re where
 v:Nat
def Rf (s:List Lev) (d:Dcd):Fam:=⟨Re,fun q1=>[(0,.v (.c (.seq .lev s))),(1,.v (.c (.fn 138 [0]))),(7,.v (vI ((List.length s:Nat):Int))),(8,.v (vI ((q1.v:Nat):Int)))],fun _=>[.cells (Bt d)],fun q1=>q1.v≤List.length s∧Ve (List.length d.plan.shapes:Int) (List.drop q1.v s)+q1.v=Ve (List.length d.plan.shapes:Int) s,fun q1=>List.length s-q1.v⟩
theorem Ajt (s:List Lev) (d:Dcd) (hp1:List.length (d).plan.shapes≤Bg) (hp2:List.length s≤Bg):Fun Tryz.prog 183 [.c (.seq .lev s),.c (.fn 138 [0])] [.cells (Bt d)] (.v (vI (Jp ((List.length (d).plan.shapes:Nat):Int) s))) [.cells (Bt d)]:=by
 have hN:Bg=274877906944:=rfl
 refine Ar Tryz.func183 Q4 Q4 (w:=let z3:=((List.length (d).plan.shapes:Nat):Int);let z4:List Blk:=[.cells (Bt d)];let z5:=((List.length s:Nat):Int);let z6:=Rf s d;(.seg [.at 0,.keep [0,1,7,8],.sel [0]] (.loop z6 fun q1=> .br (.intro (fun (x1:Lev)=>s[q1.v]? =some x1) fun x1=> .seg [.el .lev x1,.call [0] (.v (vB (!Ew z3 x1))) z4] (.br (.leaf () [0]) (.seg [.as 18 (.v (vI (((q1.v:Nat):Int)+1))),.at 0,.keep [0,1,7,8],.sel [0]] (.next)))) (.leaf () [0])),z6.Has [(0,.v (.c (.seq .lev s))),(1,.v (.c (.fn 138 [0]))),(7,.v (vI z5)),(8,.v (vI 0))] z4∧∀q1,z6.inv q1→(let z2:=((q1.v:Nat):Int);((decide (z2<z5))=true→(∃(x1:Lev),s[q1.v]? =some x1)∧∀(x1:Lev),(s[q1.v]? =some x1)→(let z1:= !Ew z3 x1;(s[q1.v]? =some x1)∧((0:Int)≤z2)∧(Fun Tryz.prog 138 [.agg (Akm x1),vP 0] z4 (.v (vB z1)) z4)∧(z1=true→(.v (vI z2):S)= .v (vI (Jp z3 s))∧(z4:List Blk)=z4)∧(z1=false→((.v (vI (IntKind.i64.wrap (z2+1))):S)= .v (vI (z2+1)))∧z6.Nxt q1 [(0,.v (.c (.seq .lev s))),(1,.v (.c (.fn 138 [0]))),(7,.v (vI z5)),(8,.v (vI (z2+1)))] z4)))∧((decide (z2<z5))=false→(.v (vI (-1)):S)= .v (vI (Jp z3 s))∧(z4:List Blk)=z4)))) Q4 ?_
 refine⟨Bk (j:=(⟨0⟩:Re)) Q10 rfl (by dsimp only[Rf];exact⟨by omega,rfl⟩),fun (q1:Re) hq_q1=>?_⟩
 have hi_q1:q1.v≤List.length s∧Ve (List.length d.plan.shapes:Int) (List.drop q1.v s)+q1.v=Ve (List.length d.plan.shapes:Int) s:=hq_q1
 obtain ⟨v1,v3⟩:=hi_q1
 refine dsp (fun h1 p1=>?_) fun h1 p1=>?_
 refine⟨(Bm (l:=s) (i:=q1.v) Q2),fun x1 hx1=>?_⟩
 rw[Ez hx1,Qv] at v3
 have hll:=congrArg List.length (Ez hx1)
 rw[List.length_drop,List.length_cons,List.length_drop] at hll
 refine⟨hx1,Q2,(Age x1 d Q2),fun h2=>have q2:=Ap h2;?_,fun h2=>have q2:=Ao h2;?_⟩
 rw[if_neg (by simp[q2])] at v3
 have hbl:Jp (List.length d.plan.shapes:Int) s=q1.v:=by unfold Jp;rw[if_neg (by omega)];omega
 refine⟨(sI ?_),rfl⟩
 rotate_left
 rw[if_pos q2] at v3
 exact⟨(Ae Q2 Q2),Bd (j:=(⟨q1.v+1⟩:Re)) Q10 rfl (by dsimp only[Rf];exact⟨by omega,by omega⟩) (by dsimp only[Rf];omega)⟩
 rw[List.drop_eq_nil_of_le (by omega)] at v3
 simp only[Ve] at v3
 have hbl:Jp (List.length d.plan.shapes:Int) s= -1:=by unfold Jp;rw[if_pos (by omega)]
 refine⟨(sI ?_),rfl⟩
 rotate_left
 all_goals first|(exact hbl.symm)|(grind)
theorem Aju (s:List Lev) (d:Dcd) (hp1:List.length (d).plan.shapes≤Bg) (hp2:List.length s≤Bg):Fun Tryz.prog 137 [.c (.seq .lev s),.c (.fn 138 [0])] [.cells (Bt d)] (.v (vB (decide (0≤Jp ((List.length (d).plan.shapes:Nat):Int) s)))) [.cells (Bt d)]:=by
 have hN:Bg=274877906944:=rfl
 refine Ar Tryz.func137 Q4 Q4 (w:=let z1:=((List.length (d).plan.shapes:Nat):Int);let z2:List Blk:=[.cells (Bt d)];(.seg [.call [0] (.v (vI (Jp z1 s))) z2] (.leaf () [0]),(Fun Tryz.prog 183 [.c (.seq .lev s),.c (.fn 138 [0])] z2 (.v (vI (Jp z1 s))) z2)∧(.v (vB (decide (0≤Jp z1 s))):S)= .v (vB (decide (0≤Jp z1 s)))∧(z2:List Blk)=z2)) Q4 ?_
 exact⟨(Ajt _ d Q2 Q2),rfl,rfl⟩
theorem V5 (d:Dcd) (hp1:List.length (d).stack≤Bg) (hp2:List.length (d).plan.shapes≤Bg):Fun Tryz.prog 78 [.agg (Bt d)] [] (.v (vB (A7 d))) []:=by
 have hN:Bg=274877906944:=rfl
 refine Ar Tryz.func78 Q4 Q4 (w:=let z1:=decide (0≤Jp ((List.length (d).plan.shapes:Nat):Int) d.stack);let z2:=decide (((List.length d.stack:Nat):Int)≤d.plan.deep);let z3:=Es d.plan;(.seg [.call [] (.v (vB z3)) []] (.br (.br (.seg [.call [0] (.v (vB z1)) [.cells (Bt d)]] (.leaf () [])) (.leaf () [])) (.leaf () [])),(Fun Tryz.prog 48 [.agg (M1 d.plan)] [] (.v (vB z3)) [])∧(z3=true→(z2=true→(Fun Tryz.prog 137 [.c (.seq .lev d.stack),.c (.fn 138 [0])] [.cells (Bt d)] (.v (vB z1)) [.cells (Bt d)])∧(.v (vB (!z1)):S)= .v (vB (A7 d))∧([]:List Blk)=[])∧(z2=false→(.v (vB false):S)= .v (vB (A7 d))∧([]:List Blk)=[]))∧(z3=false→(.v (vB false):S)= .v (vB (A7 d))∧([]:List Blk)=[]))) Q4 ?_
 refine⟨(Agd d.plan),fun h1=>have p1:=B6 h1;?_,fun h1=>?_⟩
 refine dsp (fun h2 p2=>?_) fun h2 p2=>?_
 refine⟨(Aju _ d Q2 Q2),(sB ?_),rfl⟩
 rotate_left
 refine⟨(sB ?_),rfl⟩
 rotate_left
 refine⟨(sB ?_),rfl⟩
 rotate_left
 all_goals first|(simp_all[A7];done)|((unfold A7;rw[Lw];grind[Jp]))|(grind[A7,Jp,Lw])
theorem Rg (k:Int):Fun Tryz.prog 141 [vI k] [] (.v (vB (Lx k))) []:=by
 have hN:Bg=274877906944:=rfl
 refine Ar Tryz.func141 Q4 Q4 (w:=let z1:=vB (Am k 1 10);(.seg [.call [] (.v z1) []] (.leaf () []),(Fun Tryz.prog 79 [vI k,vI 1,vI 10] [] (.v z1) [])∧(.v z1:S)= .v (vB (Lx k))∧([]:List Blk)=[])) Q4 ?_
 exact⟨(B7 _ _ _),(congrArg S.v (congrArg V.c (congrArg C.bool (by rfl)))),rfl⟩
theorem W7 (e:Ev):Fun Tryz.prog 142 [.agg (cEv e)] [] (.v (.agg (cEv (D5 e)))) []:=by
 have hN:Bg=274877906944:=rfl
 refine Ar Tryz.func142 Q4 Q4 (w:=let zi:Int→C:= .int .i64;let z1:List C:=[.int .u64 0,zi e.len,.str [],zi 0,zi 0];let z2:=cEv (D5 e);let z3:=([]:List Blk);let z4:=(.v (.agg (zi e.kind::zi e.field::z1)):S);let z5:=decide (e.kind=3);let z6:=os 8 [5,7];(.br (.leaf () []) (.br (.seg [.ord z6 [2]] (.leaf () [])) (.br (.seg [.br true,.ord z6 [2]] (.leaf () [])) (.br (.seg [.ord z6 [2]] (.leaf () [])) (.br (.leaf () []) (.br (.leaf () []) (.br (.seg [.ord z6 [2]] (.leaf () [])) (.leaf () []))))))),((decide (e.kind=1))=true→(.v (.agg (zi e.kind::zi 0::z1)):S)= .v (.agg z2)∧z3=[])∧((decide (e.kind=1))=false→((decide (e.kind=2))=true→(.v (.agg [zi e.kind,zi e.field,.int .u64 e.bits,zi 0,.str [],zi 0,zi 0]):S)= .v (.agg z2)∧z3=[])∧((decide (e.kind=2))=false→(z5=true→(z5=true)∧z4= .v (.agg z2)∧z3=[])∧(z5=false→((decide (e.kind=6))=true→z4= .v (.agg z2)∧z3=[])∧((decide (e.kind=6))=false→((decide (e.kind=4))=true→(.v (.agg [zi e.kind,zi 0,.int .u64 0,zi 0,.str e.text,zi 0,zi 0]):S)= .v (.agg z2)∧z3=[])∧((decide (e.kind=4))=false→((decide (e.kind=9))=true→(.v (.agg [zi e.kind,zi 0,.int .u64 0,zi 0,.str [],zi 0,zi e.at_]):S)= .v (.agg z2)∧z3=[])∧((decide (e.kind=9))=false→((decide (e.kind=10))=true→(.v (.agg [zi e.kind,zi 0,.int .u64 0,zi 0,.str [],zi e.code,zi e.at_]):S)= .v (.agg z2)∧z3=[])∧((decide (e.kind=10))=false→(.v (.agg [zi e.kind,zi 0,.int .u64 0,zi 0,.str [],zi 0,zi 0]):S)= .v (.agg z2)∧z3=[]))))))))) Q4 ?_
 refine dsp (fun h1 p1=>?_) fun h1 p1=>?_
 refine have hm1:D5 e=(⟨e.kind,0,0,e.len,[],0,0⟩:Ev):=?_;?_
 rotate_left
 exact⟨Q5,rfl⟩
 refine dsp (fun h2 p2=>?_) fun h2 p2=>?_
 refine have hm1:D5 e=(⟨e.kind,e.field,e.bits,0,[],0,0⟩:Ev):=?_;?_
 rotate_left
 exact⟨Q5,rfl⟩
 refine dsp (fun h3 p3=>?_) fun h3 p3=>?_
 refine⟨h3,?_⟩
 refine have hm1:D5 e=(⟨e.kind,e.field,0,e.len,[],0,0⟩:Ev):=?_;?_
 rotate_left
 exact⟨Q5,rfl⟩
 refine dsp (fun h4 p4=>?_) fun h4 p4=>?_
 refine have hm1:D5 e=(⟨e.kind,e.field,0,e.len,[],0,0⟩:Ev):=?_;?_
 rotate_left
 exact⟨Q5,rfl⟩
 refine dsp (fun h5 p5=>?_) fun h5 p5=>?_
 refine have hm1:D5 e=(⟨e.kind,0,0,0,e.text,0,0⟩:Ev):=?_;?_
 rotate_left
 exact⟨Q5,rfl⟩
 refine dsp (fun h6 p6=>?_) fun h6 p6=>?_
 refine have hm1:D5 e=(⟨e.kind,0,0,0,[],0,e.at_⟩:Ev):=?_;?_
 rotate_left
 exact⟨Q5,rfl⟩
 refine dsp (fun h7 p7=>?_) fun h7 p7=>?_
 refine have hm1:D5 e=(⟨e.kind,0,0,0,[],e.code,e.at_⟩:Ev):=?_;?_
 rotate_left
 exact⟨Q5,rfl⟩
 refine have hm1:D5 e=(⟨e.kind,0,0,0,[],0,0⟩:Ev):=?_;?_
 rotate_left
 exact⟨Q5,rfl⟩
 all_goals first|(simp_all[D5];done)|(grind[D5])
theorem V6 (e:Ev):Fun Tryz.prog 84 [.agg (cEv e)] [] (.v (vB (Et e))) []:=by
 have hN:Bg=274877906944:=rfl
 refine Ar Tryz.func84 Q4 Q4 (w:=(.br (.leaf () []) (.leaf () []),((decide (e.kind=9))=true→(.v (vB true):S)= .v (vB (Et e))∧([]:List Blk)=[])∧((decide (e.kind=9))=false→(.v (vB (decide (e.kind=10))):S)= .v (vB (Et e))∧([]:List Blk)=[]))) Q4 ?_
 refine dsp (fun h1 p1=>?_) fun h1 p1=>?_
 refine⟨(sB ?_),rfl⟩
 rotate_left
 refine⟨(sB ?_),rfl⟩
 rotate_left
 all_goals first|(simp_all[Et];done)|(grind[Et])
theorem Ab5 (e:Ev):Fun Tryz.prog 72 [.agg (cEv e)] [] (.v (vB (Et e))) []:=by
 have hN:Bg=274877906944:=rfl
 refine Ar Tryz.func72 Q4 Q4 (w:=(.br (.leaf () []) (.leaf () []),((decide (e.kind=9))=true→(.v (vB true):S)= .v (vB (Et e))∧([]:List Blk)=[])∧((decide (e.kind=9))=false→(.v (vB (decide (e.kind=10))):S)= .v (vB (Et e))∧([]:List Blk)=[]))) Q4 ?_
 refine dsp (fun h1 p1=>?_) fun h1 p1=>?_
 refine⟨(sB ?_),rfl⟩
 rotate_left
 refine⟨(sB ?_),rfl⟩
 rotate_left
 all_goals first|(simp_all[Et];done)|(grind[Et])
theorem Yd (e:Ev):Fun Tryz.prog 83 [.agg (cEv e)] [] (.v (vB (Hm e))) []:=by
 have hN:Bg=274877906944:=rfl
 refine Ar Tryz.func83 Q4 Q4 (w:=let z2:=Lx e.kind;let z3:=vB (Hm e);let z4:=D5 e;let z1:= !(decide (e.kind=z4.kind)&&(decide (e.field=z4.field)&&(decide (e.bits=z4.bits)&&(decide (e.len=z4.len)&&(decide (e.text=z4.text)&&(decide (e.code=z4.code)&&decide (e.at_=z4.at_)))))));let z5:=([]:List Blk);let z6:=decide (e.len<0);let z7:=vB (Am e.field 1 536870911);let z8:=(.v (vB false):S);let z9:=Er e.kind;let z10:=os 21 [2,7];(.case (!z2) (.seg [.ord z10 [],.call [] (.v (vB z2)) [],.br true] (.leaf () [])) (.case z1 (.seg [.ord z10 [],.call [] (.v (vB z2)) [],.br false,.call [] (.v (.agg (cEv z4))) [],.br true] (.leaf () [])) (.case z6 (.seg [.ord z10 [],.call [] (.v (vB z2)) [],.br false,.call [] (.v (.agg (cEv z4))) [],.br false,.br true] (.leaf () [])) (.seg [.ord z10 [],.call [] (.v (vB z2)) [],.br false,.call [] (.v (.agg (cEv z4))) [],.br false,.br false] (.br (.leaf () []) (.seg [.call [] (.v (vB z9)) []] (.br (.seg [.call [] (.v z7) []] (.leaf () [])) (.br (.leaf () []) (.br (.leaf () []) (.leaf () []))))))))),((!z2)=true→(Fun Tryz.prog 141 [vI e.kind] [] (.v (vB z2)) [])∧((!z2)=true)∧z8= .v z3∧z5=[])∧((!z2)=false→(z1=true→(Fun Tryz.prog 141 [vI e.kind] [] (.v (vB z2)) [])∧((!z2)=false)∧(Fun Tryz.prog 142 [.agg (cEv e)] [] (.v (.agg (cEv z4))) [])∧(z1=true)∧z8= .v z3∧z5=[])∧(z1=false→(z6=true→(Fun Tryz.prog 141 [vI e.kind] [] (.v (vB z2)) [])∧((!z2)=false)∧(Fun Tryz.prog 142 [.agg (cEv e)] [] (.v (.agg (cEv z4))) [])∧(z1=false)∧(z6=true)∧z8= .v z3∧z5=[])∧(z6=false→(Fun Tryz.prog 141 [vI e.kind] [] (.v (vB z2)) [])∧((!z2)=false)∧(Fun Tryz.prog 142 [.agg (cEv e)] [] (.v (.agg (cEv z4))) [])∧(z1=false)∧(z6=false)∧((decide (e.at_<0))=true→z8= .v z3∧z5=[])∧((decide (e.at_<0))=false→(Fun Tryz.prog 143 [vI e.kind] [] (.v (vB z9)) [])∧(z9=true→(Fun Tryz.prog 79 [vI e.field,vI 1,vI 536870911] [] (.v z7) [])∧(.v z7:S)= .v z3∧z5=[])∧(z9=false→((decide (e.kind=4))=true→(.v (vB (!decide (e.text=[]))):S)= .v z3∧z5=[])∧((decide (e.kind=4))=false→((decide (e.kind=10))=true→(.v (vB (decide (1≤e.code))):S)= .v z3∧z5=[])∧((decide (e.kind=10))=false→(.v (vB true):S)= .v z3∧z5=[]))))))))) Q4 ?_
 refine⟨fun h1=>have q1:=Ap h1;?_,fun h1=>have q1:=Ao h1;?_⟩
 refine⟨(Rg _),h1,(sB ?_),rfl⟩
 rotate_left
 refine⟨fun h2=>have q2:=Ap h2;have p2:=(Cd dT (Cd dT (Cd dT (Cd dT (Cd dT (Cd dT dF)))))).1 q2;?_,fun h2=>have q2:=Ao h2;have p2:=(Cc dT (Cc dT (Cc dT (Cc dT (Cc dT (Cc dT dT)))))).1 q2;?_⟩
 have hib:Ss e=false:=by rw[Qx rfl];exact q2
 refine⟨(Rg _),h1,(W7 e),h2,(sB ?_),rfl⟩
 rotate_left
 have hib:Ss e=true:=by rw[Qx rfl];exact q2
 refine dsp (fun h3 p3=>?_) fun h3 p3=>?_
 refine⟨(Rg _),h1,(W7 e),h2,h3,(sB ?_),rfl⟩
 rotate_left
 refine⟨(Rg _),h1,(W7 e),h2,h3,dsp (fun h4 p4=>?_) fun h4 p4=>?_⟩
 refine⟨(sB ?_),rfl⟩
 rotate_left
 refine⟨(Ab4 _),fun h5=>?_,fun h5=>?_⟩
 refine⟨(B7 _ _ _),(sB ?_),rfl⟩
 rotate_left
 refine dsp (fun h6 p6=>?_) fun h6 p6=>?_
 refine⟨(sB ?_),rfl⟩
 rotate_left
 refine dsp (fun h7 p7=>?_) fun h7 p7=>?_
 refine⟨(sB ?_),rfl⟩
 rotate_left
 refine⟨(sB ?_),rfl⟩
 rotate_left
 all_goals first|((simp only[Hm,hib];simp[Lx,Er, *];done))|(grind[Hm,Er,Lx])
structure Cv where
 want:Ev
def Pw (e:Ev):Fam:=⟨Cv,fun j0=>[(1,.v (vP 0)),(3,.v (vP 1))],fun j0=>[.cells (cEv e),.cells (cEv j0.want)],fun j0=>j0.want=D5 e,fun _=>0⟩
theorem Aej (e:Ev):Fun Tryz.prog 22 [.agg (cEv e)] [] (.v (vB (Hm e))) []:=by
 have hN:Bg=274877906944:=rfl
 refine Ar Tryz.func22 Q4 Q4 (w:=let zi:Int→C:= .int .i64;let z2:List C:=[.int .u64 0,zi e.len,.str [],zi 0,zi 0];let z3:=vB (Am e.field 1 536870911);let z4:=Pw e;let z5:=vB (Hm e);let z6:=([]:List Blk);let z7:=decide (e.kind=3);let z8:=decide (e.kind=2);let z9:List Blk:=[.cells (cEv e),.cells (zi e.kind::zi e.field::z2)];let z10:=decide (e.kind=10);let z11:=decide (e.kind=6);let z12:=decide (e.kind=4);let z13:List V:=[vI e.field,vI 1,vI 536870911];let z14:=Am e.kind 1 10;let z15:=(.v (vB false):S);(.join 0 z4 (.br (.seg [.at 0,.keep [1,3],.sel [0,1]] (.next)) (.br (.seg [.at 0,.keep [1,3],.sel [0,1]] (.next)) (.br (.seg [.br true,.at 0,.keep [1,3],.sel [0,1]] (.next)) (.br (.seg [.at 0,.keep [1,3],.sel [0,1]] (.next)) (.br (.seg [.at 0,.keep [1,3],.sel [0,1]] (.next)) (.br (.seg [.at 0,.keep [1,3],.sel [0,1]] (.next)) (.br (.seg [.at 0,.keep [1,3],.sel [0,1]] (.next)) (.seg [.at 0,.keep [1,3],.sel [0,1]] (.next))))))))) fun j0=> .br (.leaf () []) (.seg [.call [] (.v (vB z14)) []] (.br (.leaf () []) (.br (.leaf () []) (.br (.leaf () []) (.br (.seg [.br true,.call [] (.v z3) []] (.leaf () [])) (.br (.seg [.br true,.call [] (.v z3) []] (.leaf () [])) (.br (.seg [.call [] (.v z3) []] (.leaf () [])) (.br (.leaf () []) (.br (.leaf () []) (.leaf () [])))))))))),(((decide (e.kind=1))=true→z4.Has [(1,.v (vP 0)),(3,.v (vP 1))] [.cells (cEv e),.cells (zi e.kind::zi 0::z2)])∧((decide (e.kind=1))=false→(z8=true→z4.Has [(1,.v (vP 0)),(3,.v (vP 1))] [.cells (cEv e),.cells [zi e.kind,zi e.field,.int .u64 e.bits,zi 0,.str [],zi 0,zi 0]])∧(z8=false→(z7=true→(z7=true)∧z4.Has [(1,.v (vP 0)),(3,.v (vP 1))] z9)∧(z7=false→(z11=true→z4.Has [(1,.v (vP 0)),(3,.v (vP 1))] z9)∧(z11=false→(z12=true→z4.Has [(1,.v (vP 0)),(3,.v (vP 1))] [.cells (cEv e),.cells [zi e.kind,zi 0,.int .u64 0,zi 0,.str e.text,zi 0,zi 0]])∧(z12=false→((decide (e.kind=9))=true→z4.Has [(1,.v (vP 0)),(3,.v (vP 1))] [.cells (cEv e),.cells [zi e.kind,zi 0,.int .u64 0,zi 0,.str [],zi 0,zi e.at_]])∧((decide (e.kind=9))=false→(z10=true→z4.Has [(1,.v (vP 0)),(3,.v (vP 1))] [.cells (cEv e),.cells [zi e.kind,zi 0,.int .u64 0,zi 0,.str [],zi e.code,zi e.at_]])∧(z10=false→z4.Has [(1,.v (vP 0)),(3,.v (vP 1))] [.cells (cEv e),.cells [zi e.kind,zi 0,.int .u64 0,zi 0,.str [],zi 0,zi 0]]))))))))∧∀j0,z4.inv j0→(let z1:= !(decide (e.kind=j0.want.kind)&&(decide (e.field=j0.want.field)&&(decide (e.bits=j0.want.bits)&&(decide (e.len=j0.want.len)&&(decide (e.text=j0.want.text)&&(decide (e.code=j0.want.code)&&decide (e.at_=j0.want.at_)))))));(z1=true→z15= .v z5∧z6=[])∧(z1=false→(Fun Tryz.prog 59 [vI e.kind,vI 1,vI 10] [] (.v (vB z14)) [])∧((!z14)=true→z15= .v z5∧z6=[])∧((!z14)=false→((decide (e.len<0))=true→z15= .v z5∧z6=[])∧((decide (e.len<0))=false→((decide (e.at_<0))=true→z15= .v z5∧z6=[])∧((decide (e.at_<0))=false→(z8=true→(z8=true)∧(Fun Tryz.prog 59 z13 [] (.v z3) [])∧(.v z3:S)= .v z5∧z6=[])∧(z8=false→(z7=true→(z7=true)∧(Fun Tryz.prog 59 z13 [] (.v z3) [])∧(.v z3:S)= .v z5∧z6=[])∧(z7=false→(z11=true→(Fun Tryz.prog 59 z13 [] (.v z3) [])∧(.v z3:S)= .v z5∧z6=[])∧(z11=false→(z12=true→(.v (vB (!decide (e.text=[]))):S)= .v z5∧z6=[])∧(z12=false→(z10=true→(.v (vB (decide (1≤e.code))):S)= .v z5∧z6=[])∧(z10=false→(.v (vB true):S)= .v z5∧z6=[])))))))))))) Q4 ?_
 refine⟨?_,fun (j0:Cv) hq_j0=>?_⟩
 refine dsp (fun h2 p2=>?_) fun h2 p2=>?_
 exact Bk (j:=(⟨(⟨e.kind,0,0,e.len,[],0,0⟩:Ev)⟩:Cv)) rfl Q10 Q33
 refine dsp (fun h3 p3=>?_) fun h3 p3=>?_
 exact Bk (j:=(⟨(⟨e.kind,e.field,e.bits,0,[],0,0⟩:Ev)⟩:Cv)) rfl Q10 Q33
 refine dsp (fun h4 p4=>?_) fun h4 p4=>?_
 exact⟨h4,Bk (j:=(⟨(⟨e.kind,e.field,0,e.len,[],0,0⟩:Ev)⟩:Cv)) rfl Q10 Q33⟩
 refine dsp (fun h5 p5=>?_) fun h5 p5=>?_
 exact Bk (j:=(⟨(⟨e.kind,e.field,0,e.len,[],0,0⟩:Ev)⟩:Cv)) rfl Q10 Q33
 refine dsp (fun h6 p6=>?_) fun h6 p6=>?_
 exact Bk (j:=(⟨(⟨e.kind,0,0,0,e.text,0,0⟩:Ev)⟩:Cv)) rfl Q10 Q33
 refine dsp (fun h7 p7=>?_) fun h7 p7=>?_
 exact Bk (j:=(⟨(⟨e.kind,0,0,0,[],0,e.at_⟩:Ev)⟩:Cv)) rfl Q10 Q33
 refine dsp (fun h8 p8=>?_) fun h8 p8=>?_
 exact Bk (j:=(⟨(⟨e.kind,0,0,0,[],e.code,e.at_⟩:Ev)⟩:Cv)) rfl Q10 Q33
 exact Bk (j:=(⟨(⟨e.kind,0,0,0,[],0,0⟩:Ev)⟩:Cv)) rfl Q10 Q33
 have hi_j0:j0.want=D5 e:=hq_j0
 refine⟨fun h2=>have q2:=Ap h2;have p2:=(Cd dT (Cd dT (Cd dT (Cd dT (Cd dT (Cd dT dF)))))).1 q2;?_,fun h2=>have q2:=Ao h2;have p2:=(Cc dT (Cc dT (Cc dT (Cc dT (Cc dT (Cc dT dT)))))).1 q2;?_⟩
 have hib:Ss e=false:=by rw[Qx hi_j0.symm];exact q2
 refine⟨(sB ?_),rfl⟩
 rotate_left
 have hib:Ss e=true:=by rw[Qx hi_j0.symm];exact q2
 refine⟨(Ba _ _ _),fun h3=>have q3:=Ap h3;have p3:=Az q3;?_,fun h3=>have q3:=Ao h3;have p3:=As q3;?_⟩
 refine⟨(sB ?_),rfl⟩
 rotate_left
 refine dsp (fun h4 p4=>?_) fun h4 p4=>?_
 refine⟨(sB ?_),rfl⟩
 rotate_left
 refine dsp (fun h5 p5=>?_) fun h5 p5=>?_
 refine⟨(sB ?_),rfl⟩
 rotate_left
 refine dsp (fun h6 p6=>?_) fun h6 p6=>?_
 refine⟨h6,(Ba _ _ _),(sB ?_),rfl⟩
 rotate_left
 refine dsp (fun h7 p7=>?_) fun h7 p7=>?_
 refine⟨h7,(Ba _ _ _),(sB ?_),rfl⟩
 rotate_left
 refine dsp (fun h8 p8=>?_) fun h8 p8=>?_
 refine⟨(Ba _ _ _),(sB ?_),rfl⟩
 rotate_left
 refine dsp (fun h9 p9=>?_) fun h9 p9=>?_
 refine⟨(sB ?_),rfl⟩
 rotate_left
 refine dsp (fun h10 p10=>?_) fun h10 p10=>?_
 refine⟨(sB ?_),rfl⟩
 rotate_left
 refine⟨(sB ?_),rfl⟩
 rotate_left
 all_goals first|((simp only[Hm,hib];simp[Lx,Er, *];done))|(grind[Hm,Er,Lx])
theorem Aax (s:Scn):Fun Tryz.prog 147 [.agg (J0 s)] [] (.v (vB (C7 s))) []:=by
 have hN:Bg=274877906944:=rfl
 refine Ar Tryz.func147 Q4 Q4 (w:=let z1:=7*s.have_;let z2:=Am s.have_ 0 9;(.seg [.call [] (.v (vB z2)) []] (.br (.seg [.as 11 (.v (vI z1)),.as 12 (.v (.c (.int .u64 z1)))] (.leaf () [])) (.leaf () [])),(Fun Tryz.prog 79 [vI s.have_,vI 0,vI 9] [] (.v (vB z2)) [])∧(z2=true→((.v (vI (IntKind.i64.wrap z1)):S)= .v (vI z1))∧((.v (.c (.int .u64 (IntKind.u64.wrap z1))):S)= .v (.c (.int .u64 z1)))∧((0:Int)≤7*s.have_)∧(.v (vB (decide (Int.fdiv s.bits (2 ^ min (Int.toNat z1) 64)=0))):S)= .v (vB (C7 s))∧([]:List Blk)=[])∧(z2=false→(.v (vB false):S)= .v (vB (C7 s))∧([]:List Blk)=[]))) Q4 ?_
 refine⟨(B7 _ _ _),fun h1=>have p1:=As h1;?_,fun h1=>have p1:=Az h1;?_⟩
 refine⟨(Ae Q2 Q2),(Bv Q2 Q2),Q2,(sB ?_),rfl⟩
 rotate_left
 refine⟨(sB ?_),rfl⟩
 rotate_left
 all_goals first|(simp_all[C7];done)|(grind[C7])
theorem Tg (s:Scn):Fun Tryz.prog 136 [.agg (J0 s)] [] (.v (vB (C7 s))) []:=by
 have hN:Bg=274877906944:=rfl
 refine Ar Tryz.func136 Q4 Q4 (w:=let z1:=7*s.have_;let z2:=Am s.have_ 0 9;(.seg [.call [] (.v (vB z2)) []] (.br (.seg [.as 11 (.v (vI z1)),.as 12 (.v (.c (.int .u64 z1)))] (.leaf () [])) (.leaf () [])),(Fun Tryz.prog 59 [vI s.have_,vI 0,vI 9] [] (.v (vB z2)) [])∧(z2=true→((.v (vI (IntKind.i64.wrap z1)):S)= .v (vI z1))∧((.v (.c (.int .u64 (IntKind.u64.wrap z1))):S)= .v (.c (.int .u64 z1)))∧((0:Int)≤7*s.have_)∧(.v (vB (decide (Int.fdiv s.bits (2 ^ min (Int.toNat z1) 64)=0))):S)= .v (vB (C7 s))∧([]:List Blk)=[])∧(z2=false→(.v (vB false):S)= .v (vB (C7 s))∧([]:List Blk)=[]))) Q4 ?_
 refine⟨(Ba _ _ _),fun h1=>have p1:=As h1;?_,fun h1=>have p1:=Az h1;?_⟩
 refine⟨(Ae Q2 Q2),(Bv Q2 Q2),Q2,(sB ?_),rfl⟩
 rotate_left
 refine⟨(sB ?_),rfl⟩
 rotate_left
 all_goals first|(simp_all[C7];done)|(grind[C7])
theorem Pb (d:Dcd):Fun Tryz.prog 121 [.agg (Bt d)] [] (.v (vI (Bp d))) []:=by
 have hN:Bg=274877906944:=rfl
 refine Ar Tryz.func121 Q4 Q4 (w:=let z1:=Bs d.field.kind;let z2:=vI (Ay d.wire);(.br (.seg [.call [] (.v z2) []] (.leaf () [])) (.br (.seg [.call [] (.v (vI z1)) [],.call [] (.v (vI (Ay z1))) []] (.leaf () [])) (.leaf () [])),((decide (d.mode=5))=true→(Fun Tryz.prog 146 [vI d.wire] [] (.v z2) [])∧(.v z2:S)= .v (vI (Bp d))∧([]:List Blk)=[])∧((decide (d.mode=5))=false→((decide (d.mode=8))=true→(Fun Tryz.prog 174 [vI d.field.kind] [] (.v (vI z1)) [])∧(Fun Tryz.prog 146 [vI z1] [] (.v (vI (Ay z1))) [])∧(.v (vI (Ay z1)):S)= .v (vI (Bp d))∧([]:List Blk)=[])∧((decide (d.mode=8))=false→(.v (vI 0):S)= .v (vI (Bp d))∧([]:List Blk)=[])))) Q4 ?_
 refine dsp (fun h1 p1=>?_) fun h1 p1=>?_
 refine⟨(E0 _),(sI ?_),rfl⟩
 rotate_left
 refine dsp (fun h2 p2=>?_) fun h2 p2=>?_
 refine⟨(W6 _),(E0 _),(sI ?_),rfl⟩
 rotate_left
 refine⟨(sI ?_),rfl⟩
 rotate_left
 all_goals first|(simp_all[Bp];done)|(grind[Bp])
theorem Hv (d:Dcd):Fun Tryz.prog 60 [.agg (Bt d)] [] (.v (vI (Bp d))) []:=by
 have hN:Bg=274877906944:=rfl
 refine Ar Tryz.func60 Q4 Q4 (w:=let z1:=Bs d.field.kind;let z2:=vI (Ay d.wire);(.br (.seg [.call [] (.v z2) []] (.leaf () [])) (.br (.seg [.call [] (.v (vI z1)) [],.call [] (.v (vI (Ay z1))) []] (.leaf () [])) (.leaf () [])),((decide (d.mode=5))=true→(Fun Tryz.prog 74 [vI d.wire] [] (.v z2) [])∧(.v z2:S)= .v (vI (Bp d))∧([]:List Blk)=[])∧((decide (d.mode=5))=false→((decide (d.mode=8))=true→(Fun Tryz.prog 124 [vI d.field.kind] [] (.v (vI z1)) [])∧(Fun Tryz.prog 74 [vI z1] [] (.v (vI (Ay z1))) [])∧(.v (vI (Ay z1)):S)= .v (vI (Bp d))∧([]:List Blk)=[])∧((decide (d.mode=8))=false→(.v (vI 0):S)= .v (vI (Bp d))∧([]:List Blk)=[])))) Q4 ?_
 refine dsp (fun h1 p1=>?_) fun h1 p1=>?_
 refine⟨(Dk _),(sI ?_),rfl⟩
 rotate_left
 refine dsp (fun h2 p2=>?_) fun h2 p2=>?_
 refine⟨(Pa _),(Dk _),(sI ?_),rfl⟩
 rotate_left
 refine⟨(sI ?_),rfl⟩
 rotate_left
 all_goals first|(simp_all[Bp];done)|(grind[Bp])
structure K2 where
 v:Nat
def Jc (p:Pln) (f:Fld):Fam:=⟨K2,fun q1=>[(2,.v (vP 0)),(3,.v (vP 1)),(11,.v (vI ((List.length p.shapes:Nat):Int))),(12,.v (vI ((q1.v:Nat):Int)))],fun _=>[.cells (M1 p),.cells (Fm f)],fun q1=>q1.v≤List.length p.shapes∧Ff p.shapes f q1.v=false,fun q1=>List.length p.shapes-q1.v⟩
theorem Aij (p:Pln) (f:Fld) (hp1:List.length (p).shapes≤1000) (hp2: ∀x∈(p).shapes,List.length x.fields≤1000):Fun Tryz.prog 82 [.agg (M1 p),.agg (Fm f)] [] (.v (vB (known (p).shapes f))) []:=by
 have hN:Bg=274877906944:=rfl
 refine Ar Tryz.func82 Q4 Q4 (w:=let z4:=((List.length p.shapes:Nat):Int);let z5:List Blk:=[.cells (M1 p),.cells (Fm f)];let z6:=Jc p f;(.seg [.at 0,.keep [2,3,11,12],.sel [0,1]] (.loop z6 fun q1=>let z1:=((q1.v:Nat):Int);.br (.seg [.call [] (.tup [.agg (Fm ((fieldAt p.shapes z1 f.number).getD fld0)),vB (fieldAt p.shapes z1 f.number).isSome]) []] (.br (.br (.leaf () []) (.seg [.as 30 (.v (vI (z1+1))),.at 0,.keep [2,3,11,12],.sel [0,1]] (.next))) (.seg [.as 30 (.v (vI (z1+1))),.at 0,.keep [2,3,11,12],.sel [0,1]] (.next)))) (.leaf () [])),z6.Has [(2,.v (vP 0)),(3,.v (vP 1)),(11,.v (vI z4)),(12,.v (vI 0))] z5∧∀q1,z6.inv q1→(let z3:=((q1.v:Nat):Int);let z2:=fieldAt p.shapes z3 f.number;((decide (z3<z4))=true→(Fun Tryz.prog 140 [.agg [.seq .shp p.shapes],vI z3,vI f.number] [] (.tup [.agg (Fm (z2.getD fld0)),vB z2.isSome]) [])∧(z2.isSome=true→((decide ((z2.getD fld0).number=f.number)&&(decide ((z2.getD fld0).kind=f.kind)&&(decide ((z2.getD fld0).rep=f.rep)&&(decide ((z2.getD fld0).packed=f.packed)&&decide ((z2.getD fld0).msg=f.msg)))))=true→(.v (vB true):S)= .v (vB (known (p).shapes f))∧([]:List Blk)=[])∧((decide ((z2.getD fld0).number=f.number)&&(decide ((z2.getD fld0).kind=f.kind)&&(decide ((z2.getD fld0).rep=f.rep)&&(decide ((z2.getD fld0).packed=f.packed)&&decide ((z2.getD fld0).msg=f.msg)))))=false→((.v (vI (IntKind.i64.wrap (z3+1))):S)= .v (vI (z3+1)))∧z6.Nxt q1 [(2,.v (vP 0)),(3,.v (vP 1)),(11,.v (vI z4)),(12,.v (vI (z3+1)))] z5))∧(z2.isSome=false→((.v (vI (IntKind.i64.wrap (z3+1))):S)= .v (vI (z3+1)))∧z6.Nxt q1 [(2,.v (vP 0)),(3,.v (vP 1)),(11,.v (vI z4)),(12,.v (vI (z3+1)))] z5))∧((decide (z3<z4))=false→(.v (vB false):S)= .v (vB (known (p).shapes f))∧([]:List Blk)=[])))) Q4 ?_
 refine⟨Bk (j:=(⟨0⟩:K2)) Q10 rfl (by dsimp only[Jc];exact⟨by omega,rfl⟩),fun (q1:K2) hq_q1=>?_⟩
 have hi_q1:q1.v≤List.length p.shapes∧Ff p.shapes f q1.v=false:=hq_q1
 obtain ⟨v1,v2⟩:=hi_q1
 refine dsp (fun h1 p1=>?_) fun h1 p1=>?_
 refine⟨(Uj p.shapes _ _ Q2 Q2),fun h2=>?_,fun h2=>?_⟩
 obtain ⟨o,ho⟩:=Option.isSome_iff_exists.1 h2
 have hg:(fieldAt p.shapes (q1.v:Int) f.number).getD fld0=o:=by rw[ho];rfl
 refine⟨fun h3=>have p3:=(Cc dT (Cc dT (Cc dT (Cc dT dT)))).1 h3;?_,fun h3=>have p3:=(Cd dT (Cd dT (Cd dT (Cd dT dF)))).1 h3;?_⟩
 rw[hg] at p3
 have hkk:=Wy (by omega) (show (fieldAt p.shapes (q1.v:Int) f.number)=some f by rw[ho,Ad2 p3])
 refine⟨(sB ?_),rfl⟩
 rotate_left
 rw[hg] at p3
 have hkn:Ff p.shapes f (q1.v+1)=false:=Ly v2 (by rw[ho];intro e;exact Ad3 p3 (Option.some.inj e))
 exact⟨(Ae Q2 Q2),Bd (j:=(⟨q1.v+1⟩:K2)) Q10 rfl (by dsimp only[Jc];exact⟨by omega,hkn⟩) (by dsimp only[Jc];omega)⟩
 have hkn:Ff p.shapes f (q1.v+1)=false:=Ly v2 (by intro e;rw[e] at h2;simp at h2)
 exact⟨(Ae Q2 Q2),Bd (j:=(⟨q1.v+1⟩:K2)) Q10 rfl (by dsimp only[Jc];exact⟨by omega,hkn⟩) (by dsimp only[Jc];omega)⟩
 have hkk:=Aar v2 (by omega)
 refine⟨(sB ?_),rfl⟩
 rotate_left
 all_goals first|(exact hkk.symm)|(grind)
structure F8 where
 i:Nat
def E9 (d:Dcd):Fam:=⟨F8,fun q1=>[(1,.v (vP 0)),(3,.v (vI ((q1.i:Nat):Int)))],fun _=>[.cells (Bt d)],fun q1=>q1.i≤List.length d.plan.shapes∧Ff d.plan.shapes d.field q1.i=false,fun q1=>List.length d.plan.shapes-q1.i⟩
theorem Ab6 (d:Dcd) (hp1:List.length (d).plan.shapes≤1000) (hp2: ∀x∈(d).plan.shapes,List.length x.fields≤1000):Fun Tryz.prog 70 [.agg (Bt d)] [] (.v (vB (decide ((d).field=fld0)||known (d).plan.shapes (d).field))) []:=by
 have hN:Bg=274877906944:=rfl
 refine Ar Tryz.func70 Q4 Q4 (w:=let z5:=decide (d.field.number=0)&&(decide (d.field.kind=0)&&(decide (d.field.rep=false)&&(decide (d.field.packed=false)&&decide (d.field.msg=0))));let z6:=vB (decide ((d).field=fld0)||known (d).plan.shapes (d).field);let z7:=E9 d;let z8:=((List.length d.plan.shapes:Nat):Int);(.br (.leaf () []) (.seg [.at 0,.keep [1,3],.sel [0]] (.loop z7 fun q1=>let z2:=((q1.i:Nat):Int);let z1:=fieldAt d.plan.shapes z2 d.field.number;.br (.seg [.call [] (.tup [.agg (Fm (z1.getD fld0)),vB z1.isSome]) []] (.br (.br (.leaf () []) (.seg [.as 18 (.v (vI (z2+1))),.at 0,.keep [1,3],.sel [0]] (.next))) (.seg [.as 18 (.v (vI (z2+1))),.at 0,.keep [1,3],.sel [0]] (.next)))) (.leaf () []))),(z5=true→(.v (vB true):S)= .v z6∧([]:List Blk)=[])∧(z5=false→z7.Has [(1,.v (vP 0)),(3,.v (vI 0))] [.cells (Bt d)]∧∀q1,z7.inv q1→(let z4:=((q1.i:Nat):Int);let z3:=fieldAt d.plan.shapes z4 d.field.number;((decide (z4<z8))=true→(Fun Tryz.prog 133 [.agg [.seq .shp d.plan.shapes],vI z4,vI d.field.number] [] (.tup [.agg (Fm (z3.getD fld0)),vB z3.isSome]) [])∧(z3.isSome=true→((decide ((z3.getD fld0).number=d.field.number)&&(decide ((z3.getD fld0).kind=d.field.kind)&&(decide ((z3.getD fld0).rep=d.field.rep)&&(decide ((z3.getD fld0).packed=d.field.packed)&&decide ((z3.getD fld0).msg=d.field.msg)))))=true→(.v (vB true):S)= .v z6∧([]:List Blk)=[])∧((decide ((z3.getD fld0).number=d.field.number)&&(decide ((z3.getD fld0).kind=d.field.kind)&&(decide ((z3.getD fld0).rep=d.field.rep)&&(decide ((z3.getD fld0).packed=d.field.packed)&&decide ((z3.getD fld0).msg=d.field.msg)))))=false→((.v (vI (IntKind.i64.wrap (z4+1))):S)= .v (vI (z4+1)))∧z7.Nxt q1 [(1,.v (vP 0)),(3,.v (vI (z4+1)))] [.cells (Bt d)]))∧(z3.isSome=false→((.v (vI (IntKind.i64.wrap (z4+1))):S)= .v (vI (z4+1)))∧z7.Nxt q1 [(1,.v (vP 0)),(3,.v (vI (z4+1)))] [.cells (Bt d)]))∧((decide (z4<z8))=false→(.v (vB false):S)= .v z6∧([]:List Blk)=[]))))) Q4 ?_
 refine⟨fun h1=>have p1:=(Cc dT (Cc dT (Cc dT (Cc dT dT)))).1 h1;?_,fun h1=>have p1:=(Cd dT (Cd dT (Cd dT (Cd dT dF)))).1 h1;?_⟩
 refine⟨(sB ?_),rfl⟩
 rotate_left
 refine⟨Bk (j:=(⟨0⟩:F8)) Q10 rfl (by dsimp only[E9];exact⟨by omega,rfl⟩),fun (q1:F8) hq_q1=>?_⟩
 have hi_q1:q1.i≤List.length d.plan.shapes∧Ff d.plan.shapes d.field q1.i=false:=hq_q1
 obtain ⟨v1,v2⟩:=hi_q1
 refine dsp (fun h2 p2=>?_) fun h2 p2=>?_
 refine⟨(Uk d.plan.shapes _ _ Q2 Q2),fun h3=>?_,fun h3=>?_⟩
 obtain ⟨o,ho⟩:=Option.isSome_iff_exists.1 h3
 have hg:(fieldAt d.plan.shapes (q1.i:Int) d.field.number).getD fld0=o:=by rw[ho];rfl
 refine⟨fun h4=>have p4:=(Cc dT (Cc dT (Cc dT (Cc dT dT)))).1 h4;?_,fun h4=>have p4:=(Cd dT (Cd dT (Cd dT (Cd dT dF)))).1 h4;?_⟩
 rw[hg] at p4
 have hkk:=Wy (by omega) (show (fieldAt d.plan.shapes (q1.i:Int) d.field.number)=some d.field by rw[ho,Ad2 p4])
 refine⟨(sB ?_),rfl⟩
 rotate_left
 rw[hg] at p4
 have hkn:Ff d.plan.shapes d.field (q1.i+1)=false:=Ly v2 (by rw[ho];intro e;exact Ad3 p4 (Option.some.inj e))
 exact⟨(Ae Q2 Q2),Bd (j:=(⟨q1.i+1⟩:F8)) Q10 rfl (by dsimp only[E9];exact⟨by omega,hkn⟩) (by dsimp only[E9];omega)⟩
 have hkn:Ff d.plan.shapes d.field (q1.i+1)=false:=Ly v2 (by intro e;rw[e] at h3;simp at h3)
 exact⟨(Ae Q2 Q2),Bd (j:=(⟨q1.i+1⟩:F8)) Q10 rfl (by dsimp only[E9];exact⟨by omega,hkn⟩) (by dsimp only[E9];omega)⟩
 have hkk:=Aar v2 (by omega)
 refine⟨(sB ?_),rfl⟩
 rotate_left
 all_goals first|(simp[hkk];done)|((rw[hkk];simp_all[fld0];done))|((have hz:=Wz p1;simp[hz];done))|(grind[fld0])
theorem Th {s:Scn} :s=scn0↔s.bits=0∧s.have_=0:=⟨fun h=>by subst h;exact⟨rfl,rfl⟩,fun h=>by cases s;simp_all[scn0]⟩
theorem Ct {f:Fld} :f=fld0↔f.number=0∧f.kind=0∧f.rep=false∧f.packed=false∧f.msg=0:=⟨fun h=>by subst h;exact⟨rfl,rfl,rfl,rfl,rfl⟩,Wz⟩
theorem Rz {e:Ev} :e=ev0↔e.kind=0∧e.field=0∧e.bits=0∧e.len=0∧e.text=[]∧e.code=0∧e.at_=0:=⟨fun h=>by subst h;exact⟨rfl,rfl,rfl,rfl,rfl,rfl,rfl⟩,fun h=>Ajs h⟩
theorem Hw (d:Dcd):0≤Bp d∧Bp d≤8:=by
 unfold Bp
 have h1:=Dy d.wire
 have h2:=Dy (Bs d.field.kind)
 split
 ·exact h1
 ·split
  ·exact h2
  ·omega
structure L4 where
 i:Nat
def L5 (d:Dcd):Fam:=⟨L4,fun q1=>[(1,.v (vP 0)),(3,.v (vI ((List.length d.stack:Nat):Int))),(4,.v (vI ((q1.i:Nat):Int)))],fun _=>[.cells (Bt d)],fun q1=>q1.i≤List.length d.stack∧Ve (List.length d.plan.shapes:Int) (List.drop q1.i d.stack)+q1.i=Ve (List.length d.plan.shapes:Int) d.stack,fun q1=>List.length d.stack-q1.i⟩
theorem Agf (d:Dcd) (hp1:List.length (d).stack≤Bg) (hp2:List.length (d).plan.shapes≤1000):Fun Tryz.prog 71 [.agg (Bt d)] [] (.v (vB (Nk d))) []:=by
 have hN:Bg=274877906944:=rfl
 refine Ar Tryz.func71 Q4 Q4 (w:=let z7:=((List.length d.plan.shapes:Nat):Int)-1;let z8:=((List.length d.stack:Nat):Int);let z9:=(.v (vI (IntKind.i64.wrap z7)):S)= .v (vI z7);let z10:=Am z8 1 d.plan.deep;let z11:=vB (Nk d);let z12:=([]:List Blk);let z13:=L5 d;let z14:=(.v (vB false):S);(.seg [.at 0,.keep [1,3,4],.sel [0]] (.loop z13 fun q1=> .br (.intro (fun (x1:Lev)=>d.stack[q1.i]? =some x1) fun x1=>let z1:=Am x1.msg 0 z7;.case (!z1) (.seg [.ord (os 24 [12,21]) [],.el .lev x1,.as 24 (.v (vI z7)),.call [] (.v (vB z1)) [],.br true] (.leaf () [])) (.seg [.ord (os 24 [12,21]) [],.el .lev x1,.as 24 (.v (vI z7)),.call [] (.v (vB z1)) [],.br false,.el .lev x1,.call [] (.v (vB (Am x1.left 0 2000))) []] (.br (.leaf () []) (.seg [.as 12 (.v (vI (((q1.i:Nat):Int)+1))),.at 0,.keep [1,3,4],.sel [0]] (.next))))) (.br (.leaf () []) (.br (.leaf () []) (.seg [.call [] (.v (vB z10)) []] (.br (.seg [.call [] (.v (vI (Dh d))) []] (.leaf () [])) (.leaf () [])))))),z13.Has [(1,.v (vP 0)),(3,.v (vI z8)),(4,.v (vI 0))] [.cells (Bt d)]∧∀q1,z13.inv q1→(let z6:=((q1.i:Nat):Int);((decide (z6<z8))=true→(∃(x1:Lev),d.stack[q1.i]? =some x1)∧∀(x1:Lev),(d.stack[q1.i]? =some x1)→(let z2:=Am x1.msg 0 z7;let z3:=d.stack[q1.i]? =some x1;let z4:List V:=[vI x1.msg,vI 0,vI z7];let z5:=Am x1.left 0 2000;((!z2)=true→z3∧((0:Int)≤z6)∧z3∧((0:Int)≤z6)∧z9∧z9∧(Fun Tryz.prog 59 z4 [] (.v (vB z2)) [])∧((!z2)=true)∧z14= .v z11∧z12=[])∧((!z2)=false→z3∧((0:Int)≤z6)∧z3∧((0:Int)≤z6)∧z9∧z9∧(Fun Tryz.prog 59 z4 [] (.v (vB z2)) [])∧((!z2)=false)∧z3∧((0:Int)≤z6)∧z3∧((0:Int)≤z6)∧(Fun Tryz.prog 59 [vI x1.left,vI 0,vI 2000] [] (.v (vB z5)) [])∧((!z5)=true→z14= .v z11∧z12=[])∧((!z5)=false→((.v (vI (IntKind.i64.wrap (z6+1))):S)= .v (vI (z6+1)))∧z13.Nxt q1 [(1,.v (vP 0)),(3,.v (vI z8)),(4,.v (vI (z6+1)))] [.cells (Bt d)]))))∧((decide (z6<z8))=false→((decide (d.mode=1))=true→(.v (vB (decide (z8=0))):S)= .v z11∧z12=[])∧((decide (d.mode=1))=false→((decide (d.mode=9))=true→(.v (vB (decide (z8≤d.plan.deep))):S)= .v z11∧z12=[])∧((decide (d.mode=9))=false→(Fun Tryz.prog 59 [vI z8,vI 1,vI d.plan.deep] [] (.v (vB z10)) [])∧(z10=true→(Fun Tryz.prog 73 [.agg (Bt d)] [] (.v (vI (Dh d))) [])∧(.v (vB (decide (1≤Dh d))):S)= .v z11∧z12=[])∧(z10=false→z14= .v z11∧z12=[]))))))) Q4 ?_
 refine⟨Bk (j:=(⟨0⟩:L4)) Q10 rfl (by dsimp only[L5];exact⟨by omega,rfl⟩),fun (q1:L4) hq_q1=>?_⟩
 have hi_q1:q1.i≤List.length d.stack∧Ve (List.length d.plan.shapes:Int) (List.drop q1.i d.stack)+q1.i=Ve (List.length d.plan.shapes:Int) d.stack:=hq_q1
 obtain ⟨v1,v2⟩:=hi_q1
 refine dsp (fun h1 p1=>?_) fun h1 p1=>?_
 refine⟨(Bm (l:=d.stack) (i:=q1.i) Q2),fun x1 hx1=>?_⟩
 rw[Ez hx1,Qv] at v2
 refine⟨fun h2=>have q2:=Ap h2;have p2:=Az q2;?_,fun h2=>have q2:=Ao h2;have p2:=As q2;?_⟩
 refine⟨hx1,Q2,hx1,Q2,(Ae Q2 Q2),(Ae Q2 Q2),(Ba _ _ _),h2,(sB ?_),rfl⟩
 rotate_left
 refine⟨hx1,Q2,hx1,Q2,(Ae Q2 Q2),(Ae Q2 Q2),(Ba _ _ _),h2,hx1,Q2,hx1,Q2,(Ba _ _ _),fun h3=>have q3:=Ap h3;have p3:=Az q3;?_,fun h3=>have q3:=Ao h3;have p3:=As q3;?_⟩
 refine⟨(sB ?_),rfl⟩
 rotate_left
 exact⟨(Ae Q2 Q2),Bd (j:=(⟨q1.i+1⟩:L4)) Q10 rfl (by dsimp only[L5];exact⟨by omega,by simp_all[Ew];omega⟩) (by dsimp only[L5];omega)⟩
 have hal:List.all d.stack (Ew (List.length d.plan.shapes:Int))=true:=by rw[Lw];rw[List.drop_eq_nil_of_le (by omega)] at v2;simp only[Ve] at v2;exact decide_eq_true (by omega)
 refine dsp (fun h2 p2=>?_) fun h2 p2=>?_
 refine⟨(sB ?_),rfl⟩
 rotate_left
 refine dsp (fun h3 p3=>?_) fun h3 p3=>?_
 refine⟨(sB ?_),rfl⟩
 rotate_left
 refine⟨(Ba _ _ _),fun h4=>have p4:=As h4;?_,fun h4=>have p4:=Az h4;?_⟩
 refine⟨(Mx d Q2),(sB ?_),rfl⟩
 rotate_left
 refine⟨(sB ?_),rfl⟩
 rotate_left
 all_goals first|(simp_all[Nk];done)|((have hal:List.all d.stack (Ew (List.length d.plan.shapes:Int))=false:=(by rw[Lw];rw[if_neg (by simp_all[Ew])] at v2;exact decide_eq_false (by have:=congrArg List.length (Ez hx1);simp only[List.length_drop,List.length_cons] at this;omega));simp[Nk,hal];done))|(grind[Nk])
theorem Nm (d:Dcd) (hp1:List.length (d).stack≤Bg):Fun Tryz.prog 77 [.agg (Bt d)] [] (.v (vB (Zk d))) []:=by
 have hN:Bg=274877906944:=rfl
 have hwd:=Hw d
 refine Ar Tryz.func77 Q4 Q4 (w:=let z3:=8*d.scan.have_;let z4:=decide (Int.fdiv d.scan.bits (2 ^ min (Int.toNat z3) 64)=0);let z8:=vB (C7 d.scan);let z9:=(.v (vB (decide (d.scan.bits=0)&&decide (d.scan.have_=0))):S);let z10:=decide (d.mode=8);let z11:=([]:List Blk);let z12:=vB (Zk d);let z13:=Bp d-1;let z2:=Am d.scan.have_ 0 z13;let z5:=z2=false→(.v (vB false):S)= .v z12∧z11=[];let z14:=(.v (.c (.int .u64 (IntKind.u64.wrap z3))):S)= .v (.c (.int .u64 z3));let z15:=decide (Bp d=0);let z16:=z4=false→(.v (vB false):S)= .v z12∧z11=[];let z17:=vI (Dh d);let z18:List V:=[vI d.scan.have_,vI 0,vI z13];let z19:=(.v (vI (IntKind.i64.wrap z3)):S)= .v (vI z3);let z21:=decide (d.mode=6);let z22:=decide (d.mode=7);let z23:=decide (d.mode=5);let z24:=Bp d;let z6:=(.v (vI (IntKind.i64.wrap (z24-1))):S)= .v (vI z13);let z7:=z24-d.scan.have_;let z20:=(.v (vI (IntKind.i64.wrap z7)):S)= .v (vI z7);let z1:=z2=true→z19∧z14∧((0:Int)≤8*d.scan.have_)∧(z4=true→z20∧(.v (vB (decide (z24-d.scan.have_≤d.want))):S)= .v z12∧z11=[])∧z16;(.seg [.call [] (.v (vI z24)) []] (.br (.seg [.br true] (.leaf () [])) (.br (.seg [.br true] (.leaf () [])) (.br (.leaf () []) (.br (.seg [.br true] (.br (.br (.seg [.call [] (.v z8) []] (.leaf () [])) (.seg [.call [] (.v z17) [],.br true,.as 41 (.v (vI z13)),.call [] (.v (vB z2)) []] (.br (.seg [.as 50 (.v (vI z3)),.as 51 (.v (.c (.int .u64 z3)))] (.br (.seg [.as 60 (.v (vI z7))] (.leaf () [])) (.leaf () []))) (.leaf () [])))) (.seg [.call [] (.v z17) [],.br false,.as 41 (.v (vI z13)),.call [] (.v (vB z2)) []] (.br (.seg [.as 50 (.v (vI z3)),.as 51 (.v (.c (.int .u64 z3)))] (.br (.seg [.as 60 (.v (vI z7))] (.leaf () [])) (.leaf () []))) (.leaf () []))))) (.br (.seg [.br true] (.br (.seg [.call [] (.v z8) []] (.leaf () [])) (.seg [.call [] (.v z17) [],.br true,.as 41 (.v (vI z13)),.call [] (.v (vB z2)) []] (.br (.seg [.as 50 (.v (vI z3)),.as 51 (.v (.c (.int .u64 z3)))] (.br (.seg [.as 60 (.v (vI z7))] (.leaf () [])) (.leaf () []))) (.leaf () []))))) (.seg [.call [] (.v z8) []] (.leaf () []))))))),(Fun Tryz.prog 60 [.agg (Bt d)] [] (.v (vI z24)) [])∧(z21=true→(z21=true)∧z9= .v z12∧z11=[])∧(z21=false→(z22=true→(z22=true)∧z9= .v z12∧z11=[])∧(z22=false→((decide (d.mode=9))=true→z9= .v z12∧z11=[])∧((decide (d.mode=9))=false→(z23=true→(z23=true)∧(z10=true→(z15=true→(Fun Tryz.prog 136 [.agg (J0 d.scan)] [] (.v z8) [])∧(.v z8:S)= .v z12∧z11=[])∧(z15=false→(Fun Tryz.prog 73 [.agg (Bt d)] [] (.v z17) [])∧(z10=true)∧z6∧(Fun Tryz.prog 59 z18 [] (.v (vB z2)) [])∧z1∧z5))∧(z10=false→(Fun Tryz.prog 73 [.agg (Bt d)] [] (.v z17) [])∧(z10=false)∧z6∧(Fun Tryz.prog 59 z18 [] (.v (vB z2)) [])∧(z2=true→z19∧z14∧((0:Int)≤8*d.scan.have_)∧(z4=true→z20∧(.v (vB (decide (z24-d.scan.have_≤Dh d))):S)= .v z12∧z11=[])∧z16)∧z5))∧(z23=false→(z10=true→(z10=true)∧(z15=true→(Fun Tryz.prog 136 [.agg (J0 d.scan)] [] (.v z8) [])∧(.v z8:S)= .v z12∧z11=[])∧(z15=false→(Fun Tryz.prog 73 [.agg (Bt d)] [] (.v z17) [])∧(z10=true)∧z6∧(Fun Tryz.prog 59 z18 [] (.v (vB z2)) [])∧z1∧z5))∧(z10=false→(Fun Tryz.prog 136 [.agg (J0 d.scan)] [] (.v z8) [])∧(.v z8:S)= .v z12∧z11=[]))))))) Q4 ?_
 refine⟨(Hv d),dsp (fun h1 p1=>?_) fun h1 p1=>?_⟩
 refine⟨h1,(sB ?_),rfl⟩
 rotate_left
 refine dsp (fun h2 p2=>?_) fun h2 p2=>?_
 refine⟨h2,(sB ?_),rfl⟩
 rotate_left
 refine dsp (fun h3 p3=>?_) fun h3 p3=>?_
 refine⟨(sB ?_),rfl⟩
 rotate_left
 refine dsp (fun h4 p4=>?_) fun h4 p4=>?_
 refine⟨h4,dsp (fun h5 p5=>?_) fun h5 p5=>?_⟩
 refine dsp (fun h6 p6=>?_) fun h6 p6=>?_
 refine⟨(Tg d.scan),(sB ?_),rfl⟩
 rotate_left
 refine⟨(Mx d Q2),h5,(Ae Q2 Q2),(Ba _ _ _),fun h7=>have p7:=As h7;?_,fun h7=>have p7:=Az h7;?_⟩
 refine⟨(Ae Q2 Q2),(Bv Q2 Q2),Q2,dsp (fun h8 p8=>?_) fun h8 p8=>?_⟩
 refine⟨(Ae Q2 Q2),(sB ?_),rfl⟩
 rotate_left
 refine⟨(sB ?_),rfl⟩
 rotate_left
 refine⟨(sB ?_),rfl⟩
 rotate_left
 refine⟨(Mx d Q2),h5,(Ae Q2 Q2),(Ba _ _ _),fun h6=>have p6:=As h6;?_,fun h6=>have p6:=Az h6;?_⟩
 refine⟨(Ae Q2 Q2),(Bv Q2 Q2),Q2,dsp (fun h7 p7=>?_) fun h7 p7=>?_⟩
 refine⟨(Ae Q2 Q2),(sB ?_),rfl⟩
 rotate_left
 refine⟨(sB ?_),rfl⟩
 rotate_left
 refine⟨(sB ?_),rfl⟩
 rotate_left
 refine dsp (fun h5 p5=>?_) fun h5 p5=>?_
 refine⟨h5,dsp (fun h6 p6=>?_) fun h6 p6=>?_⟩
 refine⟨(Tg d.scan),(sB ?_),rfl⟩
 rotate_left
 refine⟨(Mx d Q2),h5,(Ae Q2 Q2),(Ba _ _ _),fun h7=>have p7:=As h7;?_,fun h7=>have p7:=Az h7;?_⟩
 refine⟨(Ae Q2 Q2),(Bv Q2 Q2),Q2,dsp (fun h8 p8=>?_) fun h8 p8=>?_⟩
 refine⟨(Ae Q2 Q2),(sB ?_),rfl⟩
 rotate_left
 refine⟨(sB ?_),rfl⟩
 rotate_left
 refine⟨(sB ?_),rfl⟩
 rotate_left
 refine⟨(Tg d.scan),(sB ?_),rfl⟩
 rotate_left
 all_goals first|(simp_all[Zk,Ajr,Nj,Th];done)|(grind[Zk,Ajr,Nj,Th])
theorem Cm (d:Dcd) (hp1:List.length (d).stack≤Bg):Fun Tryz.prog 87 [.agg (Bt d)] [] (.v (vB (J1 d))) []:=by
 have hN:Bg=274877906944:=rfl
 have hwd:=Hw d
 refine Ar Tryz.func87 Q4 Q4 (w:=let z3:=8*d.scan.have_;let z2:=decide (Int.fdiv d.scan.bits (2 ^ min (Int.toNat z3) 64)=0);let z4:=(.v (vB (decide (d.scan.bits=0)&&decide (d.scan.have_=0))):S);let z6:=([]:List Blk);let z7:=vB (J1 d);let z9:=(.v (.c (.int .u64 (IntKind.u64.wrap z3))):S)= .v (.c (.int .u64 z3));let z10:=Bp d-1;let z1:=Am d.scan.have_ 0 z10;let z11:=z2=false→(.v (vB false):S)= .v z7∧z6=[];let z12:=z1=false→(.v (vB false):S)= .v z7∧z6=[];let z13:=(.v (vI (IntKind.i64.wrap z3)):S)= .v (vI z3);let z15:=Bp d;let z5:=z15-d.scan.have_;let z8:=(.v (vI (IntKind.i64.wrap (z15-1))):S)= .v (vI z10);let z14:=(.v (vI (IntKind.i64.wrap z5)):S)= .v (vI z5);let z16:=vB (C7 d.scan);(.seg [.call [] (.v (vI z15)) []] (.br (.seg [.call [] (.v (vI (Dh d))) []] (.br (.seg [.as 21 (.v (vI z10)),.call [] (.v (vB z1)) []] (.br (.seg [.as 30 (.v (vI z3)),.as 31 (.v (.c (.int .u64 z3)))] (.br (.seg [.as 40 (.v (vI z5))] (.leaf () [])) (.leaf () []))) (.leaf () []))) (.seg [.as 21 (.v (vI z10)),.call [] (.v (vB z1)) []] (.br (.seg [.as 30 (.v (vI z3)),.as 31 (.v (.c (.int .u64 z3)))] (.br (.seg [.as 40 (.v (vI z5))] (.leaf () [])) (.leaf () []))) (.leaf () []))))) (.br (.leaf () []) (.br (.leaf () []) (.br (.leaf () []) (.seg [.call [] (.v z16) []] (.leaf () [])))))),(Fun Tryz.prog 121 [.agg (Bt d)] [] (.v (vI z15)) [])∧((decide (0<Bp d))=true→(Fun Tryz.prog 85 [.agg (Bt d)] [] (.v (vI (Dh d))) [])∧((decide (d.mode=8))=true→z8∧(Fun Tryz.prog 79 [vI d.scan.have_,vI 0,vI z10] [] (.v (vB z1)) [])∧(z1=true→z13∧z9∧((0:Int)≤8*d.scan.have_)∧(z2=true→z14∧(.v (vB (decide (z15-d.scan.have_≤d.want))):S)= .v z7∧z6=[])∧z11)∧z12)∧((decide (d.mode=8))=false→z8∧(Fun Tryz.prog 79 [vI d.scan.have_,vI 0,vI z10] [] (.v (vB z1)) [])∧(z1=true→z13∧z9∧((0:Int)≤8*d.scan.have_)∧(z2=true→z14∧(.v (vB (decide (z15-d.scan.have_≤Dh d))):S)= .v z7∧z6=[])∧z11)∧z12))∧((decide (0<Bp d))=false→((decide (d.mode=6))=true→z4= .v z7∧z6=[])∧((decide (d.mode=6))=false→((decide (d.mode=7))=true→z4= .v z7∧z6=[])∧((decide (d.mode=7))=false→((decide (d.mode=9))=true→z4= .v z7∧z6=[])∧((decide (d.mode=9))=false→(Fun Tryz.prog 147 [.agg (J0 d.scan)] [] (.v z16) [])∧(.v z16:S)= .v z7∧z6=[])))))) Q4 ?_
 refine⟨(Pb d),dsp (fun h1 p1=>?_) fun h1 p1=>?_⟩
 refine⟨(Dq d Q2),dsp (fun h2 p2=>?_) fun h2 p2=>?_⟩
 refine⟨(Ae Q2 Q2),(B7 _ _ _),fun h3=>have p3:=As h3;?_,fun h3=>have p3:=Az h3;?_⟩
 refine⟨(Ae Q2 Q2),(Bv Q2 Q2),Q2,dsp (fun h4 p4=>?_) fun h4 p4=>?_⟩
 refine⟨(Ae Q2 Q2),(sB ?_),rfl⟩
 rotate_left
 refine⟨(sB ?_),rfl⟩
 rotate_left
 refine⟨(sB ?_),rfl⟩
 rotate_left
 refine⟨(Ae Q2 Q2),(B7 _ _ _),fun h3=>have p3:=As h3;?_,fun h3=>have p3:=Az h3;?_⟩
 refine⟨(Ae Q2 Q2),(Bv Q2 Q2),Q2,dsp (fun h4 p4=>?_) fun h4 p4=>?_⟩
 refine⟨(Ae Q2 Q2),(sB ?_),rfl⟩
 rotate_left
 refine⟨(sB ?_),rfl⟩
 rotate_left
 refine⟨(sB ?_),rfl⟩
 rotate_left
 refine dsp (fun h2 p2=>?_) fun h2 p2=>?_
 refine⟨(sB ?_),rfl⟩
 rotate_left
 refine dsp (fun h3 p3=>?_) fun h3 p3=>?_
 refine⟨(sB ?_),rfl⟩
 rotate_left
 refine dsp (fun h4 p4=>?_) fun h4 p4=>?_
 refine⟨(sB ?_),rfl⟩
 rotate_left
 refine⟨(Aax d.scan),(sB ?_),rfl⟩
 rotate_left
 all_goals first|(simp_all[J1,Nj,Th];done)|(grind[J1,Nj,Th])
theorem Cn (d:Dcd) (hp1:List.length (d).stack≤Bg):Fun Tryz.prog 86 [.agg (Bt d)] [] (.v (vB (Hj d&&Hk d))) []:=by
 have hN:Bg=274877906944:=rfl
 have hww:Ay d.wire=0∨0≤d.wire:=by unfold Ay;split<;>(try split)<;>omega
 refine Ar Tryz.func86 Q4 Q4 (w:=let z1:= !(!(decide (d.field.number=0)&&(decide (d.field.kind=0)&&(decide (d.field.rep=false)&&(decide (d.field.packed=false)&&decide (d.field.msg=0))))));let z2:=vB (Hj d&&Hk d);let z3:=vB (Cy d.field d.wire);let z4:=([]:List Blk);let z5:=Am d.want 1 (Dh d);let z7:=(.v (vB false):S);let z8:=decide (d.mode=6);let z9:=decide (d.mode=8);let z10:=vB (Qk d.field);let z11:=decide (0<Ay d.wire);let z12:=Fm d.field;let z13:=(!z5)=true→z7= .v z2∧z4=[];let z15:=vI (Ay d.wire);let z16:=decide (d.mode=3);let z17:=decide (d.wire=0);let z18:=decide (d.mode=4);let z19:=decide (d.wire=2);let z20:=vI (Dh d);let z21:List V:=[vI d.want,vI 1,vI (Dh d)];let z22:=(.v z3:S);let z23:=decide (d.mode=7);let z24:=decide (d.mode=5);let z25:=z17=false→z7= .v z2∧z4=[];let z26:=z19=false→z7= .v z2∧z4=[];let z27:=z11=false→z7= .v z2∧z4=[];let z28:=(.v (vB true):S);let z6:=z1=true→z28= .v z2∧z4=[];let z14:=z24=false→z28= .v z2∧z4=[];(.br (.seg [.br true,.ord (os 6 [3,4]) [],.call [] (.v z20) [],.call [] (.v (vB z5)) []] (.br (.leaf () []) (.seg [.br true] (.br (.leaf () []) (.leaf () []))))) (.br (.seg [.br true,.ord (os 6 [3,4]) [],.call [] (.v z20) [],.call [] (.v (vB z5)) []] (.br (.leaf () []) (.seg [.br false] (.br (.seg [.call [] (.v z10) []] (.leaf () [])) (.br (.br (.br (.leaf () []) (.seg [.call [] (.v z3) []] (.leaf () []))) (.leaf () [])) (.br (.br (.br (.leaf () []) (.seg [.call [] (.v z3) []] (.leaf () []))) (.leaf () [])) (.br (.seg [.call [] (.v z15) []] (.br (.br (.leaf () []) (.seg [.call [] (.v z3) []] (.leaf () []))) (.leaf () []))) (.leaf () [])))))))) (.br (.seg [.ord (os 6 [3,4]) [],.call [] (.v z20) [],.call [] (.v (vB z5)) []] (.br (.leaf () []) (.seg [.br false,.br true,.call [] (.v z10) []] (.leaf () [])))) (.br (.leaf () []) (.seg [.br false,.br false] (.br (.br (.br (.leaf () []) (.seg [.call [] (.v z3) []] (.leaf () []))) (.leaf () [])) (.br (.br (.br (.leaf () []) (.seg [.call [] (.v z3) []] (.leaf () []))) (.leaf () [])) (.br (.seg [.call [] (.v z15) []] (.br (.br (.leaf () []) (.seg [.call [] (.v z3) []] (.leaf () []))) (.leaf () []))) (.leaf () [])))))))),(z8=true→(z8=true)∧(Fun Tryz.prog 85 [.agg (Bt d)] [] (.v z20) [])∧(Fun Tryz.prog 79 z21 [] (.v (vB z5)) [])∧z13∧((!z5)=false→(z8=true)∧((decide (d.field.kind=6))=true→z28= .v z2∧z4=[])∧((decide (d.field.kind=6))=false→(.v (vB (decide (d.field.kind=7))):S)= .v z2∧z4=[])))∧(z8=false→(z23=true→(z23=true)∧(Fun Tryz.prog 85 [.agg (Bt d)] [] (.v z20) [])∧(Fun Tryz.prog 79 z21 [] (.v (vB z5)) [])∧z13∧((!z5)=false→(z8=false)∧(z9=true→(Fun Tryz.prog 144 [.agg z12] [] (.v z10) [])∧(.v z10:S)= .v z2∧z4=[])∧(z9=false→(z16=true→(z17=true→z6∧(z1=false→(Fun Tryz.prog 145 [.agg z12,vI d.wire] [] (.v z3) [])∧z22= .v z2∧z4=[]))∧z25)∧(z16=false→(z18=true→(z19=true→z6∧(z1=false→(Fun Tryz.prog 145 [.agg z12,vI d.wire] [] (.v z3) [])∧z22= .v z2∧z4=[]))∧z26)∧(z18=false→(z24=true→(Fun Tryz.prog 146 [vI d.wire] [] (.v z15) [])∧(z11=true→z6∧(z1=false→(Fun Tryz.prog 145 [.agg z12,vI d.wire] [] (.v z3) [])∧z22= .v z2∧z4=[]))∧z27)∧z14)))))∧(z23=false→(z9=true→(Fun Tryz.prog 85 [.agg (Bt d)] [] (.v z20) [])∧(Fun Tryz.prog 79 z21 [] (.v (vB z5)) [])∧z13∧((!z5)=false→(z8=false)∧(z9=true)∧(Fun Tryz.prog 144 [.agg z12] [] (.v z10) [])∧(.v z10:S)= .v z2∧z4=[]))∧(z9=false→((!decide (d.want=0))=true→z7= .v z2∧z4=[])∧((!decide (d.want=0))=false→(z8=false)∧(z9=false)∧(z16=true→(z17=true→z6∧(z1=false→(Fun Tryz.prog 145 [.agg z12,vI d.wire] [] (.v z3) [])∧z22= .v z2∧z4=[]))∧z25)∧(z16=false→(z18=true→(z19=true→z6∧(z1=false→(Fun Tryz.prog 145 [.agg z12,vI d.wire] [] (.v z3) [])∧z22= .v z2∧z4=[]))∧z26)∧(z18=false→(z24=true→(Fun Tryz.prog 146 [vI d.wire] [] (.v z15) [])∧(z11=true→z6∧(z1=false→(Fun Tryz.prog 145 [.agg z12,vI d.wire] [] (.v z3) [])∧z22= .v z2∧z4=[]))∧z27)∧z14)))))))) Q4 ?_
 refine dsp (fun h1 p1=>?_) fun h1 p1=>?_
 refine⟨h1,(Dq d Q2),(B7 _ _ _),fun h2=>have q2:=Ap h2;have p2:=Az q2;?_,fun h2=>have q2:=Ao h2;have p2:=As q2;?_⟩
 refine⟨(sB ?_),rfl⟩
 rotate_left
 refine⟨h1,dsp (fun h3 p3=>?_) fun h3 p3=>?_⟩
 refine⟨(sB ?_),rfl⟩
 rotate_left
 refine⟨(sB ?_),rfl⟩
 rotate_left
 refine dsp (fun h2 p2=>?_) fun h2 p2=>?_
 refine⟨h2,(Dq d Q2),(B7 _ _ _),fun h3=>have q3:=Ap h3;have p3:=Az q3;?_,fun h3=>have q3:=Ao h3;have p3:=As q3;?_⟩
 refine⟨(sB ?_),rfl⟩
 rotate_left
 refine⟨h1,dsp (fun h4 p4=>?_) fun h4 p4=>?_⟩
 refine⟨(Aea d.field),(sB ?_),rfl⟩
 rotate_left
 refine dsp (fun h5 p5=>?_) fun h5 p5=>?_
 refine dsp (fun h6 p6=>?_) fun h6 p6=>?_
 refine⟨fun h7=>have q7:=Ap h7;have q7':=Ao q7;have p7:=(Cc dT (Cc dT (Cc dT (Cc dT dT)))).1 q7';?_,fun h7=>have q7:=Ao h7;have q7':=Ap q7;have p7:=(Cd dT (Cd dT (Cd dT (Cd dT dF)))).1 q7';?_⟩
 refine⟨(sB ?_),rfl⟩
 rotate_left
 refine⟨(Js d.field _ Q2),(sB ?_),rfl⟩
 rotate_left
 refine⟨(sB ?_),rfl⟩
 rotate_left
 refine dsp (fun h6 p6=>?_) fun h6 p6=>?_
 refine dsp (fun h7 p7=>?_) fun h7 p7=>?_
 refine⟨fun h8=>have q8:=Ap h8;have q8':=Ao q8;have p8:=(Cc dT (Cc dT (Cc dT (Cc dT dT)))).1 q8';?_,fun h8=>have q8:=Ao h8;have q8':=Ap q8;have p8:=(Cd dT (Cd dT (Cd dT (Cd dT dF)))).1 q8';?_⟩
 refine⟨(sB ?_),rfl⟩
 rotate_left
 refine⟨(Js d.field _ Q2),(sB ?_),rfl⟩
 rotate_left
 refine⟨(sB ?_),rfl⟩
 rotate_left
 refine dsp (fun h7 p7=>?_) fun h7 p7=>?_
 refine⟨(E0 _),dsp (fun h8 p8=>?_) fun h8 p8=>?_⟩
 refine⟨fun h9=>have q9:=Ap h9;have q9':=Ao q9;have p9:=(Cc dT (Cc dT (Cc dT (Cc dT dT)))).1 q9';?_,fun h9=>have q9:=Ao h9;have q9':=Ap q9;have p9:=(Cd dT (Cd dT (Cd dT (Cd dT dF)))).1 q9';?_⟩
 refine⟨(sB ?_),rfl⟩
 rotate_left
 refine⟨(Js d.field _ Q2),(sB ?_),rfl⟩
 rotate_left
 refine⟨(sB ?_),rfl⟩
 rotate_left
 refine⟨(sB ?_),rfl⟩
 rotate_left
 refine dsp (fun h3 p3=>?_) fun h3 p3=>?_
 refine⟨(Dq d Q2),(B7 _ _ _),fun h4=>have q4:=Ap h4;have p4:=Az q4;?_,fun h4=>have q4:=Ao h4;have p4:=As q4;?_⟩
 refine⟨(sB ?_),rfl⟩
 rotate_left
 refine⟨h1,h3,(Aea d.field),(sB ?_),rfl⟩
 rotate_left
 refine⟨fun h4=>have q4:=Ap h4;have p4:=of_decide_eq_false q4;?_,fun h4=>have q4:=Ao h4;have p4:=of_decide_eq_true q4;?_⟩
 refine⟨(sB ?_),rfl⟩
 rotate_left
 refine⟨h1,h3,dsp (fun h5 p5=>?_) fun h5 p5=>?_⟩
 refine dsp (fun h6 p6=>?_) fun h6 p6=>?_
 refine⟨fun h7=>have q7:=Ap h7;have q7':=Ao q7;have p7:=(Cc dT (Cc dT (Cc dT (Cc dT dT)))).1 q7';?_,fun h7=>have q7:=Ao h7;have q7':=Ap q7;have p7:=(Cd dT (Cd dT (Cd dT (Cd dT dF)))).1 q7';?_⟩
 refine⟨(sB ?_),rfl⟩
 rotate_left
 refine⟨(Js d.field _ Q2),(sB ?_),rfl⟩
 rotate_left
 refine⟨(sB ?_),rfl⟩
 rotate_left
 refine dsp (fun h6 p6=>?_) fun h6 p6=>?_
 refine dsp (fun h7 p7=>?_) fun h7 p7=>?_
 refine⟨fun h8=>have q8:=Ap h8;have q8':=Ao q8;have p8:=(Cc dT (Cc dT (Cc dT (Cc dT dT)))).1 q8';?_,fun h8=>have q8:=Ao h8;have q8':=Ap q8;have p8:=(Cd dT (Cd dT (Cd dT (Cd dT dF)))).1 q8';?_⟩
 refine⟨(sB ?_),rfl⟩
 rotate_left
 refine⟨(Js d.field _ Q2),(sB ?_),rfl⟩
 rotate_left
 refine⟨(sB ?_),rfl⟩
 rotate_left
 refine dsp (fun h7 p7=>?_) fun h7 p7=>?_
 refine⟨(E0 _),dsp (fun h8 p8=>?_) fun h8 p8=>?_⟩
 refine⟨fun h9=>have q9:=Ap h9;have q9':=Ao q9;have p9:=(Cc dT (Cc dT (Cc dT (Cc dT dT)))).1 q9';?_,fun h9=>have q9:=Ao h9;have q9':=Ap q9;have p9:=(Cd dT (Cd dT (Cd dT (Cd dT dF)))).1 q9';?_⟩
 refine⟨(sB ?_),rfl⟩
 rotate_left
 refine⟨(Js d.field _ Q2),(sB ?_),rfl⟩
 rotate_left
 refine⟨(sB ?_),rfl⟩
 rotate_left
 refine⟨(sB ?_),rfl⟩
 rotate_left
 all_goals first|(simp_all[Hj,Hk,Ahk,Ct,Fq];done)|(grind[Hj,Hk,Ahk,Ct,Fq])
end Go.Proofs.YtcmnedgnppnhoaaGreat.Ax
