/- Schemas. Events. What is too long to draw from. Draws of numbers, bytes, scripts. Drawn descriptions: checks. What drawn descriptions compile to. -/
import Derived.Test.YtcmnedgnppnhoaaGreatKS1
set_option linter.unusedSimpArgs false
set_option linter.unusedVariables false
namespace Go.Proofs.YtcmnedgnppnhoaaGreat.Ax
open Go.RowKit
theorem An8 (f:Fld) (before:Int) (n:Int) (hp1:(0:Int)≤n∧n≤1000):Fun Tryz.prog 158 [.agg (Ej f),vI before,vI n] [] (.v (vB (decide (before<(f).number)&&J0 f n))) []:=by
 have hN:Be=274877906944:=rfl
 refine Ar Tryz.func158 Q4 Q4 (w:=let z1:=vB (decide (before<(f).number)&&J0 f n);let z2:=vB (Aq f.msg 0 (n-1));let z4:=([]:List Blk);let z5:=(.v (vB false):S);let z6:=(.v (vI (IntKind.i64.wrap (n-1))):S)= .v (vI (n-1));let z7:=D9 f.number;let z8:=Cy f.kind;let z9:=Fd f.kind;let z10:=decide (f.kind=8);let z3:=z10=false→(.v (vB (decide (f.msg=(-1)))):S)= .v z1∧z4=[];(.seg [.call [] (.v (vB z7)) []] (.br (.leaf () []) (.br (.leaf () []) (.seg [.call [] (.v (vB z9)) []] (.br (.leaf () []) (.br (.br (.leaf () []) (.seg [.call [] (.v (vB z8)) []] (.br (.leaf () []) (.br (.seg [.as 45 (.v (vI (n-1))),.call [] (.v z2) []] (.leaf () [])) (.leaf () []))))) (.br (.seg [.as 45 (.v (vI (n-1))),.call [] (.v z2) []] (.leaf () [])) (.leaf () []))))))),(Fun Tryz.prog 194 [vI f.number] [] (.v (vB z7)) [])∧((!z7)=true→z5= .v z1∧z4=[])∧((!z7)=false→((decide (f.number≤before))=true→z5= .v z1∧z4=[])∧((decide (f.number≤before))=false→(Fun Tryz.prog 195 [vI f.kind] [] (.v (vB z9)) [])∧((!z9)=true→z5= .v z1∧z4=[])∧((!z9)=false→(f.packed=true→((!f.rep)=true→z5= .v z1∧z4=[])∧((!f.rep)=false→(Fun Tryz.prog 185 [vI f.kind] [] (.v (vB z8)) [])∧((!z8)=true→z5= .v z1∧z4=[])∧((!z8)=false→(z10=true→z6∧(Fun Tryz.prog 79 [vI f.msg,vI 0,vI (n-1)] [] (.v z2) [])∧(.v z2:S)= .v z1∧z4=[])∧z3)))∧(f.packed=false→(z10=true→z6∧(Fun Tryz.prog 79 [vI f.msg,vI 0,vI (n-1)] [] (.v z2) [])∧(.v z2:S)= .v z1∧z4=[])∧z3)))))) Q4 ?_
 refine⟨(Afv _),fun h1=>have q1:=Ap h1;?_,fun h1=>have q1:=Ao h1;?_⟩
 refine⟨(sB ?_),rfl⟩
 rotate_left
 refine dsp (fun h2 p2=>?_) fun h2 p2=>?_
 refine⟨(sB ?_),rfl⟩
 rotate_left
 refine⟨(Aeo _),fun h3=>have q3:=Ap h3;have p3:=A4 q3;?_,fun h3=>have q3:=Ao h3;have p3:=Av q3;?_⟩
 refine⟨(sB ?_),rfl⟩
 rotate_left
 refine⟨fun h4=>?_,fun h4=>?_⟩
 refine⟨fun h5=>have q5:=Ap h5;?_,fun h5=>have q5:=Ao h5;?_⟩
 refine⟨(sB ?_),rfl⟩
 rotate_left
 refine⟨(Xh _),fun h6=>have q6:=Ap h6;have p6:=A4 q6;?_,fun h6=>have q6:=Ao h6;have p6:=Av q6;?_⟩
 refine⟨(sB ?_),rfl⟩
 rotate_left
 refine dsp (fun h7 p7=>?_) fun h7 p7=>?_
 refine⟨(Ac Q2 Q2),(Ch _ _ _),(sB ?_),rfl⟩
 rotate_left
 refine⟨(sB ?_),rfl⟩
 rotate_left
 refine dsp (fun h5 p5=>?_) fun h5 p5=>?_
 refine⟨(Ac Q2 Q2),(Ch _ _ _),(sB ?_),rfl⟩
 rotate_left
 refine⟨(sB ?_),rfl⟩
 rotate_left
 all_goals first|(simp[J0, *];done)|(simp_all[J0];done)|(simp_all[J0];omega)|(rw[Bool.eq_iff_iff];simp_all[J0];omega)
theorem Uv (s:List Shp) (f:Fld) (hp1:s.length≤1000):Fun Tryz.prog 155 [.agg [.seq .shp s],.agg (Ej f)] [] (.v (vB (J0 f (s.length:Int)))) []:=by
 have hN:Be=274877906944:=rfl
 refine Ar Tryz.func155 Q4 Q4 (w:=let z1:=(s.length:Int);let z2:=vB (Aq f.msg 0 (z1-1));let z4:=vB (J0 f z1);let z5:=([]:List Blk);let z6:=(.v (vI (IntKind.i64.wrap (z1-1))):S)= .v (vI (z1-1));let z7:=D9 f.number;let z8:=(.v (vB false):S);let z9:=Cy f.kind;let z10:=Fd f.kind;let z11:=decide (f.kind=8);let z3:=z11=false→(.v (vB (decide (f.msg=(-1)))):S)= .v z4∧z5=[];(.seg [.call [] (.v (vB z7)) []] (.br (.leaf () []) (.seg [.call [] (.v (vB z10)) []] (.br (.leaf () []) (.br (.br (.leaf () []) (.seg [.call [] (.v (vB z9)) []] (.br (.leaf () []) (.br (.seg [.as 38 (.v (vI (z1-1))),.call [] (.v z2) []] (.leaf () [])) (.leaf () []))))) (.br (.seg [.as 38 (.v (vI (z1-1))),.call [] (.v z2) []] (.leaf () [])) (.leaf () [])))))),(Fun Tryz.prog 191 [vI f.number] [] (.v (vB z7)) [])∧((!z7)=true→z8= .v z4∧z5=[])∧((!z7)=false→(Fun Tryz.prog 134 [vI f.kind] [] (.v (vB z10)) [])∧((!z10)=true→z8= .v z4∧z5=[])∧((!z10)=false→(f.packed=true→((!f.rep)=true→z8= .v z4∧z5=[])∧((!f.rep)=false→(Fun Tryz.prog 135 [vI f.kind] [] (.v (vB z9)) [])∧((!z9)=true→z8= .v z4∧z5=[])∧((!z9)=false→(z11=true→z6∧(Fun Tryz.prog 59 [vI f.msg,vI 0,vI (z1-1)] [] (.v z2) [])∧(.v z2:S)= .v z4∧z5=[])∧z3)))∧(f.packed=false→(z11=true→z6∧(Fun Tryz.prog 59 [vI f.msg,vI 0,vI (z1-1)] [] (.v z2) [])∧(.v z2:S)= .v z4∧z5=[])∧z3))))) Q4 ?_
 refine⟨(Zh _),fun h1=>have q1:=Ap h1;?_,fun h1=>have q1:=Ao h1;?_⟩
 refine⟨(sB ?_),rfl⟩
 rotate_left
 refine⟨(V8 _),fun h2=>have q2:=Ap h2;have p2:=A4 q2;?_,fun h2=>have q2:=Ao h2;have p2:=Av q2;?_⟩
 refine⟨(sB ?_),rfl⟩
 rotate_left
 refine⟨fun h3=>?_,fun h3=>?_⟩
 refine⟨fun h4=>have q4:=Ap h4;?_,fun h4=>have q4:=Ao h4;?_⟩
 refine⟨(sB ?_),rfl⟩
 rotate_left
 refine⟨(M0 _),fun h5=>have q5:=Ap h5;have p5:=A4 q5;?_,fun h5=>have q5:=Ao h5;have p5:=Av q5;?_⟩
 refine⟨(sB ?_),rfl⟩
 rotate_left
 refine dsp (fun h6 p6=>?_) fun h6 p6=>?_
 refine⟨(Ac Q2 Q2),(Bh _ _ _),(sB ?_),rfl⟩
 rotate_left
 refine⟨(sB ?_),rfl⟩
 rotate_left
 refine dsp (fun h4 p4=>?_) fun h4 p4=>?_
 refine⟨(Ac Q2 Q2),(Bh _ _ _),(sB ?_),rfl⟩
 rotate_left
 refine⟨(sB ?_),rfl⟩
 rotate_left
 all_goals first|(simp[J0, *];done)|(simp_all[J0];done)|(simp_all[J0];omega)|(rw[Bool.eq_iff_iff];simp_all[J0];omega)
structure Ht where
 id:Int
 v:Nat
def Kq (s:List Shp):Fam:=⟨Ht,fun q1=>[(1,.v (vP 0)),(3,.v (vI q1.id)),(14,.v (.c (.seq .shp s))),(15,.v (vI (s.length:Int))),(16,.v (vI (q1.v:Int)))],fun _=>[.cells [.seq .shp s]],fun q1=>q1.v≤s.length∧E1 (s.length:Int) q1.id (List.drop q1.v s)=E1 (s.length:Int) 0 s,fun q1=>s.length-q1.v⟩
structure Kr where
 number:Int
 v:Nat
def Hu (s:List Shp) (q1:Ht) (x1:Shp):Fam:=⟨Kr,fun q2=>[(1,.v (vP 0)),(5,.v (vP 1)),(6,.v (vI q2.number)),(14,.v (.c (.seq .shp s))),(15,.v (vI (s.length:Int))),(16,.v (vI (q1.v:Int))),(36,.v (.c (.seq .fld x1.fields))),(37,.v (vI (x1.fields.length:Int))),(38,.v (vI (q2.v:Int)))],fun _=>[.cells [.seq .shp s],.cells (Aqt x1)],fun q2=>q2.v≤x1.fields.length∧Dh (s.length:Int) q2.number (List.drop q2.v x1.fields)=Dh (s.length:Int) 0 x1.fields,fun q2=>x1.fields.length-q2.v⟩
theorem Afy (s:List Shp):Fun Tryz.prog 105 [.agg [.seq .shp s]] [] (.v (vB (Dt s))) []:=by
 have hN:Be=274877906944:=rfl
 refine Ar Tryz.func105 Q4 Q4 (w:=let z7:=(s.length:Int);let z8:=vB (Dt s);let z9:=(.v (vB false):S);let z10:=([]:List Blk);let z11:=Kq s;(.br (.leaf () []) (.seg [.at 0,.keep [1,3,14,15,16],.sel [0]] (.loop z11 fun q1=> .br (.intro (fun (x1:Shp)=>s[q1.v]? =some x1) fun x1=> .seg [.el .shp x1] (.br (.leaf () []) (.br (.leaf () []) (.br (.leaf () []) (.seg [.at 0,.keep [1,5,6,14,15,16,36,37,38],.sel [0,1]] (.loop (Hu s q1 x1) fun q2=> .br (.intro (fun (x2:Fld)=>x1.fields[q2.v]? =some x2) fun x2=> .seg [.el .fld x2,.call [] (.v (vB (decide (q2.number<(x2).number)&&J0 x2 z7))) []] (.br (.leaf () []) (.seg [.as 51 (.v (vI ((q2.v:Int)+1))),.at 0,.keep [1,5,6,14,15,16,36,37,38],.sel [0,1]] (.next)))) (.seg [.as 54 (.v (vI ((q1.v:Int)+1))),.at 0,.keep [1,3,14,15,16],.sel [0]] (.next)))))))) (.leaf () []))),((decide (6<z7))=true→z9= .v z8∧z10=[])∧((decide (6<z7))=false→z11.Has [(1,.v (vP 0)),(3,.v (vI 0)),(14,.v (.c (.seq .shp s))),(15,.v (vI z7)),(16,.v (vI 0))] [.cells [.seq .shp s]]∧∀q1,z11.inv q1→(let z6:=(q1.v:Int);((decide (z6<z7))=true→(∃(x1:Shp),s[q1.v]? =some x1)∧∀(x1:Shp),(s[q1.v]? =some x1)→(let z3:=(x1.fields.length:Int);let z4:=Hu s q1 x1;let z5:List Blk:=[.cells [.seq .shp s],.cells (Aqt x1)];(s[q1.v]? =some x1)∧((0:Int)≤z6)∧((decide (x1.id≤q1.id))=true→z9= .v z8∧z10=[])∧((decide (x1.id≤q1.id))=false→((decide (99<x1.id))=true→z9= .v z8∧z10=[])∧((decide (99<x1.id))=false→((decide (8<z3))=true→z9= .v z8∧z10=[])∧((decide (8<z3))=false→z4.Has [(1,.v (vP 0)),(5,.v (vP 1)),(6,.v (vI 0)),(14,.v (.c (.seq .shp s))),(15,.v (vI z7)),(16,.v (vI z6)),(36,.v (.c (.seq .fld x1.fields))),(37,.v (vI z3)),(38,.v (vI 0))] z5∧∀q2,z4.inv q2→(let z2:=(q2.v:Int);((decide (z2<z3))=true→(∃(x2:Fld),x1.fields[q2.v]? =some x2)∧∀(x2:Fld),(x1.fields[q2.v]? =some x2)→(let z1:=decide (q2.number<(x2).number)&&J0 x2 z7;(x1.fields[q2.v]? =some x2)∧((0:Int)≤z2)∧(Fun Tryz.prog 158 [.agg (Ej x2),vI q2.number,vI z7] [] (.v (vB z1)) [])∧((!z1)=true→z9= .v z8∧z10=[])∧((!z1)=false→((.v (vI (IntKind.i64.wrap (z2+1))):S)= .v (vI (z2+1)))∧z4.Nxt q2 [(1,.v (vP 0)),(5,.v (vP 1)),(6,.v (vI x2.number)),(14,.v (.c (.seq .shp s))),(15,.v (vI z7)),(16,.v (vI z6)),(36,.v (.c (.seq .fld x1.fields))),(37,.v (vI z3)),(38,.v (vI (z2+1)))] z5)))∧((decide (z2<z3))=false→((.v (vI (IntKind.i64.wrap (z6+1))):S)= .v (vI (z6+1)))∧z11.Nxt q1 [(1,.v (vP 0)),(3,.v (vI x1.id)),(14,.v (.c (.seq .shp s))),(15,.v (vI z7)),(16,.v (vI (z6+1)))] [.cells [.seq .shp s]])))))))∧((decide (z6<z7))=false→(.v (vB true):S)= .v z8∧z10=[]))))) Q4 ?_
 refine dsp (fun h1 p1=>?_) fun h1 p1=>?_
 refine⟨(sB ?_),rfl⟩
 rotate_left
 refine⟨Bs (j:=(⟨0,0⟩:Ht)) Q9 rfl (by dsimp only[Kq];exact⟨by omega,rfl⟩),fun (q1:Ht) hq_q1=>?_⟩
 have hi_q1:q1.v≤s.length∧E1 (s.length:Int) q1.id (List.drop q1.v s)=E1 (s.length:Int) 0 s:=hq_q1
 obtain ⟨v1,v2⟩:=hi_q1
 refine dsp (fun h2 p2=>?_) fun h2 p2=>?_
 refine⟨(Bq (l:=s) (i:=q1.v) Q2),fun x1 hx1=>?_⟩
 rw[Er hx1,E1] at v2
 refine⟨hx1,Q2,dsp (fun h3 p3=>?_) fun h3 p3=>?_⟩
 refine⟨(sB ?_),rfl⟩
 rotate_left
 refine dsp (fun h4 p4=>?_) fun h4 p4=>?_
 refine⟨(sB ?_),rfl⟩
 rotate_left
 refine dsp (fun h5 p5=>?_) fun h5 p5=>?_
 refine⟨(sB ?_),rfl⟩
 rotate_left
 refine⟨Bs (j:=(⟨0,0⟩:Kr)) Q9 rfl (by dsimp only[Hu];exact⟨by omega,rfl⟩),fun (q2:Kr) hq_q2=>?_⟩
 have hi_q2:q2.v≤x1.fields.length∧Dh (s.length:Int) q2.number (List.drop q2.v x1.fields)=Dh (s.length:Int) 0 x1.fields:=hq_q2
 obtain ⟨w1,w2⟩:=hi_q2
 refine dsp (fun h6 p6=>?_) fun h6 p6=>?_
 refine⟨(Bq (l:=x1.fields) (i:=q2.v) Q2),fun x2 hx2=>?_⟩
 rw[Er hx2,Dh] at w2
 refine⟨hx2,Q2,(An8 x2 _ _ Q2),fun h7=>have q7:=Ap h7;have p7:=(Cx dT Iff.rfl).1 q7;?_,fun h7=>have q7:=Ao h7;have p7:=(Cw dT Iff.rfl).1 q7;?_⟩
 refine⟨(sB ?_),rfl⟩
 rotate_left
 exact⟨(Ac Q2 Q2),Bc (j:=(⟨x2.number,q2.v+1⟩:Kr)) Q9 rfl (by dsimp only[Hu];exact⟨by omega,by grind[Dh]⟩) (by dsimp only[Hu];omega)⟩
 rw[Kp p6] at w2
 exact⟨(Ac Q2 Q2),Bc (j:=(⟨x1.id,q1.v+1⟩:Ht)) Q9 rfl (by dsimp only[Kq];exact⟨by omega,by grind[E1,Dh]⟩) (by dsimp only[Kq];omega)⟩
 rw[Kp p2] at v2
 refine⟨(sB ?_),rfl⟩
 rotate_left
 all_goals grind[Dt,E1,Dh]
structure Gj where
 i:Nat
 pv:Int
def Hv (s:List Shp):Fam:=⟨Gj,fun q1=>[(1,.v (vP 0)),(3,.v (vI (q1.i:Int)))],fun _=>[.cells [.seq .shp s]],fun q1=>q1.i≤s.length∧(0:Int)≤q1.pv∧(q1.i=0→q1.pv=0)∧(∀y,0<q1.i→s[Int.toNat ((q1.i:Int)-1)]? =some y→q1.pv=y.id)∧E1 (s.length:Int) q1.pv (List.drop q1.i s)=E1 (s.length:Int) 0 s,fun q1=>s.length-q1.i⟩
structure Ea where
 k:Nat
 pv:Int
def Dm (s:List Shp) (q1:Gj) (x1:Shp):Fam:=⟨Ea,fun q2=>[(1,.v (vP 0)),(3,.v (vI (q1.i:Int))),(4,.v (vP 1)),(5,.v (vI (q2.k:Int)))],fun _=>[.cells [.seq .shp s],.cells (Aqt x1)],fun q2=>q2.k≤x1.fields.length∧(0:Int)≤q2.pv∧(q2.k=0→q2.pv=0)∧(∀y,0<q2.k→x1.fields[Int.toNat ((q2.k:Int)-1)]? =some y→q2.pv=y.number)∧Dh (s.length:Int) q2.pv (List.drop q2.k x1.fields)=Dh (s.length:Int) 0 x1.fields,fun q2=>x1.fields.length-q2.k⟩
theorem Afz (s:List Shp):Fun Tryz.prog 97 [.agg [.seq .shp s]] [] (.v (vB (Dt s))) []:=by
 have hN:Be=274877906944:=rfl
 refine Ar Tryz.func97 Q4 Q4 (w:=let z25:=(s.length:Int);let z26:=(.v (vB false):S);let z27:=vB (Dt s);let z28:=([]:List Blk);let z29:=Hv s;let z30:=os 28 [6];let z31:List Blk:=[.cells [.seq .shp s]];(.br (.leaf () []) (.seg [.at 0,.keep [1,3],.sel [0]] (.loop z29 fun q1=>let z23:=(q1.i:Int);.br (.intro (fun (x1:Shp)=>s[q1.i]? =some x1) fun x1=>let z17:=Aq x1.id 1 99;.seg [.el .shp x1] (.case (!z17) (.seg [.ord (os 26 [2]) [],.call [] (.v (vB z17)) [],.br true] (.leaf () [])) (.case (decide (0<z23)) (.intro (fun (x2:Shp)=>s[Int.toNat (z23-1)]? =some x2) fun x2=> .case (decide (x1.id≤x2.id)) (.seg [.ord (os 26 [2]) [],.call [] (.v (vB z17)) [],.br false,.br true,.as 33 (.v (vI (z23-1))),.el .shp x2,.br true] (.leaf () [])) (.seg [.ord (os 26 [2]) [],.call [] (.v (vB z17)) [],.br false,.br true,.as 33 (.v (vI (z23-1))),.el .shp x2,.br false] (.br (.leaf () []) (.seg [.at 0,.keep [1,3,4,5],.sel [0,1]] (.loop (Dm s q1 x1) fun q2=>let z6:=(q2.k:Int);.br (.intro (fun (x3:Fld)=>x1.fields[q2.k]? =some x3) fun x3=>let z3:=J0 x3 z25;.case (!z3) (.seg [.ord z30 [],.el .fld x3,.call [] (.v (vB z3)) [],.br true] (.leaf () [])) (.case (decide (0<z6)) (.intro (fun (x4:Fld)=>x1.fields[Int.toNat (z6-1)]? =some x4) fun x4=> .seg [.ord z30 [],.el .fld x3,.call [] (.v (vB z3)) [],.br false,.br true,.as 70 (.v (vI (z6-1))),.el .fld x4,.el .fld x3] (.br (.leaf () []) (.seg [.as 54 (.v (vI (z6+1))),.at 0,.keep [1,3,4,5],.sel [0,1]] (.next)))) (.seg [.ord z30 [],.el .fld x3,.call [] (.v (vB z3)) [],.br false,.br false,.as 54 (.v (vI (z6+1))),.at 0,.keep [1,3,4,5],.sel [0,1]] (.next)))) (.seg [.as 16 (.v (vI (z23+1))),.at 0,.keep [1,3],.sel [0]] (.next))))))) (.seg [.ord (os 26 [2]) [],.call [] (.v (vB z17)) [],.br false,.br false] (.br (.leaf () []) (.seg [.at 0,.keep [1,3,4,5],.sel [0,1]] (.loop (Dm s q1 x1) fun q2=>let z15:=(q2.k:Int);.br (.intro (fun (x2:Fld)=>x1.fields[q2.k]? =some x2) fun x2=>let z12:=J0 x2 z25;.case (!z12) (.seg [.ord z30 [],.el .fld x2,.call [] (.v (vB z12)) [],.br true] (.leaf () [])) (.case (decide (0<z15)) (.intro (fun (x3:Fld)=>x1.fields[Int.toNat (z15-1)]? =some x3) fun x3=> .seg [.ord z30 [],.el .fld x2,.call [] (.v (vB z12)) [],.br false,.br true,.as 70 (.v (vI (z15-1))),.el .fld x3,.el .fld x2] (.br (.leaf () []) (.seg [.as 54 (.v (vI (z15+1))),.at 0,.keep [1,3,4,5],.sel [0,1]] (.next)))) (.seg [.ord z30 [],.el .fld x2,.call [] (.v (vB z12)) [],.br false,.br false,.as 54 (.v (vI (z15+1))),.at 0,.keep [1,3,4,5],.sel [0,1]] (.next)))) (.seg [.as 16 (.v (vI (z23+1))),.at 0,.keep [1,3],.sel [0]] (.next))))))))) (.leaf () []))),((decide (6<z25))=true→z26= .v z27∧z28=[])∧((decide (6<z25))=false→z29.Has [(1,.v (vP 0)),(3,.v (vI 0))] z31∧∀q1,z29.inv q1→(let z24:=(q1.i:Int);((decide (z24<z25))=true→(∃(x1:Shp),s[q1.i]? =some x1)∧∀(x1:Shp),(s[q1.i]? =some x1)→(let z18:=(x1.fields.length:Int);let z19:List Blk:=[.cells [.seq .shp s],.cells (Aqt x1)];let z20:=Aq x1.id 1 99;let z21:=Dm s q1 x1;let z22:List V:=[vI x1.id,vI 1,vI 99];(s[q1.i]? =some x1)∧((0:Int)≤z24)∧((!z20)=true→(Fun Tryz.prog 59 z22 [] (.v (vB z20)) [])∧((!z20)=true)∧z26= .v z27∧z28=[])∧((!z20)=false→((decide (0<z24))=true→(∃(x2:Shp),s[Int.toNat (z24-1)]? =some x2)∧∀(x2:Shp),(s[Int.toNat (z24-1)]? =some x2)→(let z8:=s[Int.toNat (z24-1)]? =some x2;let z9:=decide (x1.id≤x2.id);(z9=true→(Fun Tryz.prog 59 z22 [] (.v (vB z20)) [])∧((!z20)=false)∧((decide (0<z24))=true)∧((.v (vI (IntKind.i64.wrap (z24-1))):S)= .v (vI (z24-1)))∧((.v (vI (IntKind.i64.wrap (z24-1))):S)= .v (vI (z24-1)))∧z8∧((0:Int)≤z24-1)∧z8∧((0:Int)≤z24-1)∧(z9=true)∧z26= .v z27∧z28=[])∧(z9=false→(Fun Tryz.prog 59 z22 [] (.v (vB z20)) [])∧((!z20)=false)∧((decide (0<z24))=true)∧((.v (vI (IntKind.i64.wrap (z24-1))):S)= .v (vI (z24-1)))∧((.v (vI (IntKind.i64.wrap (z24-1))):S)= .v (vI (z24-1)))∧z8∧((0:Int)≤z24-1)∧z8∧((0:Int)≤z24-1)∧(z9=false)∧((decide (8<z18))=true→z26= .v z27∧z28=[])∧((decide (8<z18))=false→z21.Has [(1,.v (vP 0)),(3,.v (vI z24)),(4,.v (vP 1)),(5,.v (vI 0))] z19∧∀q2,z21.inv q2→(let z7:=(q2.k:Int);((decide (z7<z18))=true→(∃(x3:Fld),x1.fields[q2.k]? =some x3)∧∀(x3:Fld),(x1.fields[q2.k]? =some x3)→(let z4:=J0 x3 z25;let z5:=x1.fields[q2.k]? =some x3;((!z4)=true→z5∧((0:Int)≤z7)∧z5∧((0:Int)≤z7)∧(Fun Tryz.prog 155 [.agg [.seq .shp s],.agg (Ej x3)] [] (.v (vB z4)) [])∧((!z4)=true)∧z26= .v z27∧z28=[])∧((!z4)=false→((decide (0<z7))=true→(∃(x4:Fld),x1.fields[Int.toNat (z7-1)]? =some x4)∧∀(x4:Fld),(x1.fields[Int.toNat (z7-1)]? =some x4)→(let z1:=x1.fields[Int.toNat (z7-1)]? =some x4;let z2:=decide (x3.number≤x4.number);z5∧((0:Int)≤z7)∧z5∧((0:Int)≤z7)∧(Fun Tryz.prog 155 [.agg [.seq .shp s],.agg (Ej x3)] [] (.v (vB z4)) [])∧((!z4)=false)∧((decide (0<z7))=true)∧((.v (vI (IntKind.i64.wrap (z7-1))):S)= .v (vI (z7-1)))∧((.v (vI (IntKind.i64.wrap (z7-1))):S)= .v (vI (z7-1)))∧z1∧((0:Int)≤z7-1)∧z1∧((0:Int)≤z7-1)∧z5∧((0:Int)≤z7)∧z5∧((0:Int)≤z7)∧(z2=true→z26= .v z27∧z28=[])∧(z2=false→((.v (vI (IntKind.i64.wrap (z7+1))):S)= .v (vI (z7+1)))∧z21.Nxt q2 [(1,.v (vP 0)),(3,.v (vI z24)),(4,.v (vP 1)),(5,.v (vI (z7+1)))] z19)))∧((decide (0<z7))=false→z5∧((0:Int)≤z7)∧z5∧((0:Int)≤z7)∧(Fun Tryz.prog 155 [.agg [.seq .shp s],.agg (Ej x3)] [] (.v (vB z4)) [])∧((!z4)=false)∧((decide (0<z7))=false)∧((.v (vI (IntKind.i64.wrap (z7+1))):S)= .v (vI (z7+1)))∧z21.Nxt q2 [(1,.v (vP 0)),(3,.v (vI z24)),(4,.v (vP 1)),(5,.v (vI (z7+1)))] z19))))∧((decide (z7<z18))=false→((.v (vI (IntKind.i64.wrap (z24+1))):S)= .v (vI (z24+1)))∧z29.Nxt q1 [(1,.v (vP 0)),(3,.v (vI (z24+1)))] z31))))))∧((decide (0<z24))=false→(Fun Tryz.prog 59 z22 [] (.v (vB z20)) [])∧((!z20)=false)∧((decide (0<z24))=false)∧((decide (8<z18))=true→z26= .v z27∧z28=[])∧((decide (8<z18))=false→z21.Has [(1,.v (vP 0)),(3,.v (vI z24)),(4,.v (vP 1)),(5,.v (vI 0))] z19∧∀q2,z21.inv q2→(let z16:=(q2.k:Int);((decide (z16<z18))=true→(∃(x2:Fld),x1.fields[q2.k]? =some x2)∧∀(x2:Fld),(x1.fields[q2.k]? =some x2)→(let z13:=J0 x2 z25;let z14:=x1.fields[q2.k]? =some x2;((!z13)=true→z14∧((0:Int)≤z16)∧z14∧((0:Int)≤z16)∧(Fun Tryz.prog 155 [.agg [.seq .shp s],.agg (Ej x2)] [] (.v (vB z13)) [])∧((!z13)=true)∧z26= .v z27∧z28=[])∧((!z13)=false→((decide (0<z16))=true→(∃(x3:Fld),x1.fields[Int.toNat (z16-1)]? =some x3)∧∀(x3:Fld),(x1.fields[Int.toNat (z16-1)]? =some x3)→(let z10:=x1.fields[Int.toNat (z16-1)]? =some x3;let z11:=decide (x2.number≤x3.number);z14∧((0:Int)≤z16)∧z14∧((0:Int)≤z16)∧(Fun Tryz.prog 155 [.agg [.seq .shp s],.agg (Ej x2)] [] (.v (vB z13)) [])∧((!z13)=false)∧((decide (0<z16))=true)∧((.v (vI (IntKind.i64.wrap (z16-1))):S)= .v (vI (z16-1)))∧((.v (vI (IntKind.i64.wrap (z16-1))):S)= .v (vI (z16-1)))∧z10∧((0:Int)≤z16-1)∧z10∧((0:Int)≤z16-1)∧z14∧((0:Int)≤z16)∧z14∧((0:Int)≤z16)∧(z11=true→z26= .v z27∧z28=[])∧(z11=false→((.v (vI (IntKind.i64.wrap (z16+1))):S)= .v (vI (z16+1)))∧z21.Nxt q2 [(1,.v (vP 0)),(3,.v (vI z24)),(4,.v (vP 1)),(5,.v (vI (z16+1)))] z19)))∧((decide (0<z16))=false→z14∧((0:Int)≤z16)∧z14∧((0:Int)≤z16)∧(Fun Tryz.prog 155 [.agg [.seq .shp s],.agg (Ej x2)] [] (.v (vB z13)) [])∧((!z13)=false)∧((decide (0<z16))=false)∧((.v (vI (IntKind.i64.wrap (z16+1))):S)= .v (vI (z16+1)))∧z21.Nxt q2 [(1,.v (vP 0)),(3,.v (vI z24)),(4,.v (vP 1)),(5,.v (vI (z16+1)))] z19))))∧((decide (z16<z18))=false→((.v (vI (IntKind.i64.wrap (z24+1))):S)= .v (vI (z24+1)))∧z29.Nxt q1 [(1,.v (vP 0)),(3,.v (vI (z24+1)))] z31)))))))∧((decide (z24<z25))=false→(.v (vB true):S)= .v z27∧z28=[]))))) Q4 ?_
 refine dsp (fun h1 p1=>?_) fun h1 p1=>?_
 exact⟨(congrArg S.v (congrArg V.c (congrArg C.bool Q69))),rfl⟩
 refine⟨Bs (j:=(⟨0,0⟩:Gj)) Q9 rfl (by dsimp only[Hv];exact⟨by omega,by omega,by omega,by omega,rfl⟩),fun (q1:Gj) hq_q1=>?_⟩
 have hi_q1:q1.i≤s.length∧(0:Int)≤q1.pv∧(q1.i=0→q1.pv=0)∧(∀y,0<q1.i→s[Int.toNat ((q1.i:Int)-1)]? =some y→q1.pv=y.id)∧E1 (s.length:Int) q1.pv (List.drop q1.i s)=E1 (s.length:Int) 0 s:=hq_q1
 obtain ⟨v1,v2,v3,v4,v5⟩:=hi_q1
 refine dsp (fun h2 p2=>?_) fun h2 p2=>?_
 refine⟨(Bq (l:=s) (i:=q1.i) Q2),fun x1 hx1=>?_⟩
 rw[Er hx1,E1] at v5
 refine⟨hx1,Q2,fun h3=>have q3:=Ap h3;have p3:=A4 q3;?_,fun h3=>have q3:=Ao h3;have p3:=Av q3;?_⟩
 exact⟨(Bh _ _ _),h3,(congrArg S.v (congrArg V.c (congrArg C.bool Q69))),rfl⟩
 refine dsp (fun h4 p4=>?_) fun h4 p4=>?_
 refine⟨(Bq (l:=s) (i:=Int.toNat ((q1.i:Int)-1)) Q2),fun x2 hx2=>?_⟩
 have hy:=v4 _ (by omega) hx2
 refine dsp (fun h5 p5=>?_) fun h5 p5=>?_
 exact⟨(Bh _ _ _),h3,h4,(Ac Q2 Q2),(Ac Q2 Q2),hx2,Q2,hx2,Q2,h5,(congrArg S.v (congrArg V.c (congrArg C.bool Q69))),rfl⟩
 refine⟨(Bh _ _ _),h3,h4,(Ac Q2 Q2),(Ac Q2 Q2),hx2,Q2,hx2,Q2,h5,dsp (fun h6 p6=>?_) fun h6 p6=>?_⟩
 exact⟨(congrArg S.v (congrArg V.c (congrArg C.bool Q69))),rfl⟩
 refine⟨Bs (j:=(⟨0,0⟩:Ea)) Q9 rfl (by dsimp only[Dm];exact⟨by omega,by omega,by omega,by omega,rfl⟩),fun (q2:Ea) hq_q2=>?_⟩
 have hi_q2:q2.k≤x1.fields.length∧(0:Int)≤q2.pv∧(q2.k=0→q2.pv=0)∧(∀y,0<q2.k→x1.fields[Int.toNat ((q2.k:Int)-1)]? =some y→q2.pv=y.number)∧Dh (s.length:Int) q2.pv (List.drop q2.k x1.fields)=Dh (s.length:Int) 0 x1.fields:=hq_q2
 obtain ⟨w1,w2,w3,w4,w5⟩:=hi_q2
 refine dsp (fun h7 p7=>?_) fun h7 p7=>?_
 refine⟨(Bq (l:=x1.fields) (i:=q2.k) Q2),fun x3 hx3=>?_⟩
 rw[Er hx3,Dh] at w5
 refine⟨fun h8=>have q8:=Ap h8;?_,fun h8=>have q8:=Ao h8;have p8:=Aai q8;?_⟩
 exact⟨hx3,Q2,hx3,Q2,(Uv s x3 Q2),h8,(congrArg S.v (congrArg V.c (congrArg C.bool Q69))),rfl⟩
 refine dsp (fun h9 p9=>?_) fun h9 p9=>?_
 refine⟨(Bq (l:=x1.fields) (i:=Int.toNat ((q2.k:Int)-1)) Q2),fun x4 hx4=>?_⟩
 have hz:=w4 _ (by omega) hx4
 refine⟨hx3,Q2,hx3,Q2,(Uv s x3 Q2),h8,h9,(Ac Q2 Q2),(Ac Q2 Q2),hx4,Q2,hx4,Q2,hx3,Q2,hx3,Q2,dsp (fun h10 p10=>?_) fun h10 p10=>?_⟩
 exact⟨(congrArg S.v (congrArg V.c (congrArg C.bool Q69))),rfl⟩
 exact⟨(Ac Q2 Q2),Bc (j:=(⟨q2.k+1,x3.number⟩:Ea)) Q9 rfl Q57 (by dsimp only[Dm];omega)⟩
 exact⟨hx3,Q2,hx3,Q2,(Uv s x3 Q2),h8,h9,(Ac Q2 Q2),Bc (j:=(⟨q2.k+1,x3.number⟩:Ea)) Q9 rfl Q57 (by dsimp only[Dm];omega)⟩
 rw[Kp p7,Dh] at w5
 exact⟨(Ac Q2 Q2),Bc (j:=(⟨q1.i+1,x1.id⟩:Gj)) Q9 rfl Q49 (by dsimp only[Hv];omega)⟩
 refine⟨(Bh _ _ _),h3,h4,dsp (fun h5 p5=>?_) fun h5 p5=>?_⟩
 exact⟨(congrArg S.v (congrArg V.c (congrArg C.bool Q69))),rfl⟩
 refine⟨Bs (j:=(⟨0,0⟩:Ea)) Q9 rfl (by dsimp only[Dm];exact⟨by omega,by omega,by omega,by omega,rfl⟩),fun (q2:Ea) hq_q2=>?_⟩
 have hi_q2:q2.k≤x1.fields.length∧(0:Int)≤q2.pv∧(q2.k=0→q2.pv=0)∧(∀y,0<q2.k→x1.fields[Int.toNat ((q2.k:Int)-1)]? =some y→q2.pv=y.number)∧Dh (s.length:Int) q2.pv (List.drop q2.k x1.fields)=Dh (s.length:Int) 0 x1.fields:=hq_q2
 obtain ⟨w1,w2,w3,w4,w5⟩:=hi_q2
 refine dsp (fun h6 p6=>?_) fun h6 p6=>?_
 refine⟨(Bq (l:=x1.fields) (i:=q2.k) Q2),fun x2 hx2=>?_⟩
 rw[Er hx2,Dh] at w5
 refine⟨fun h7=>have q7:=Ap h7;?_,fun h7=>have q7:=Ao h7;have p7:=Aai q7;?_⟩
 exact⟨hx2,Q2,hx2,Q2,(Uv s x2 Q2),h7,(congrArg S.v (congrArg V.c (congrArg C.bool Q69))),rfl⟩
 refine dsp (fun h8 p8=>?_) fun h8 p8=>?_
 refine⟨(Bq (l:=x1.fields) (i:=Int.toNat ((q2.k:Int)-1)) Q2),fun x3 hx3=>?_⟩
 have hz:=w4 _ (by omega) hx3
 refine⟨hx2,Q2,hx2,Q2,(Uv s x2 Q2),h7,h8,(Ac Q2 Q2),(Ac Q2 Q2),hx3,Q2,hx3,Q2,hx2,Q2,hx2,Q2,dsp (fun h9 p9=>?_) fun h9 p9=>?_⟩
 exact⟨(congrArg S.v (congrArg V.c (congrArg C.bool Q69))),rfl⟩
 exact⟨(Ac Q2 Q2),Bc (j:=(⟨q2.k+1,x2.number⟩:Ea)) Q9 rfl Q58 (by dsimp only[Dm];omega)⟩
 exact⟨hx2,Q2,hx2,Q2,(Uv s x2 Q2),h7,h8,(Ac Q2 Q2),Bc (j:=(⟨q2.k+1,x2.number⟩:Ea)) Q9 rfl Q58 (by dsimp only[Dm];omega)⟩
 rw[Kp p6,Dh] at w5
 exact⟨(Ac Q2 Q2),Bc (j:=(⟨q1.i+1,x1.id⟩:Gj)) Q9 rfl Q49 (by dsimp only[Hv];omega)⟩
 rw[Kp p2,E1] at v5
 exact⟨(congrArg S.v (congrArg V.c (congrArg C.bool Q69))),rfl⟩
structure L7 where
 v:Nat
def J3 (n:Int) (x1:Shp):Fam:=⟨L7,fun q1=>[(2,.v (vI n)),(6,.v (vP 0)),(23,.v (.c (.seq .fld x1.fields))),(24,.v (vI (x1.fields.length:Int))),(25,.v (vI (q1.v:Int)))],fun _=>[.cells [.int .i64 0,.int .i64 0,.bool false,.bool false,.int .i64 0]],fun q1=>q1.v≤x1.fields.length∧Ha (List.drop q1.v x1.fields) n=Ha x1.fields n,fun q1=>x1.fields.length-q1.v⟩
theorem Tn (s:List Shp) (sh:Int) (n:Int) (hp1:s.length≤1000) (hp2: ∀x∈s,x.fields.length≤1000):Fun Tryz.prog 140 [.agg [.seq .shp s],vI sh,vI n] [] (.tup [.agg (Ej ((fieldAt s sh n).getD fld0)),vB (fieldAt s sh n).isSome]) []:=by
 have hN:Be=274877906944:=rfl
 refine Ar Tryz.func140 Q4 Q4 (w:=let z4:List C:=[.int .i64 0,.int .i64 0,.bool false,.bool false,.int .i64 0];let z5:=(s.length:Int)-1;let z6:=fieldAt s sh n;let z7:=Aq sh 0 z5;let z8:=Ej (z6.getD fld0);(.seg [.as 14 (.v (vI z5)),.call [] (.v (vB z7)) []] (.br (.leaf () []) (.intro (fun (x1:Shp)=>s[sh.toNat]? =some x1) fun x1=> .seg [.el .shp x1,.at 0,.keep [2,6,23,24,25],.sel [1]] (.loop (J3 n x1) fun q1=> .br (.intro (fun (x2:Fld)=>x1.fields[q1.v]? =some x2) fun x2=> .seg [.el .fld x2] (.br (.leaf () []) (.seg [.as 34 (.v (vI ((q1.v:Int)+1))),.at 0,.keep [2,6,23,24,25],.sel [0]] (.next)))) (.leaf () [])))),((.v (vI (IntKind.i64.wrap z5)):S)= .v (vI z5))∧(Fun Tryz.prog 79 [vI sh,vI 0,vI z5] [] (.v (vB z7)) [])∧((!z7)=true→(.tup [.agg z4,vB false]:S)= .tup [.agg z8,vB z6.isSome]∧([]:List Blk)=[])∧((!z7)=false→(∃(x1:Shp),s[sh.toNat]? =some x1)∧∀(x1:Shp),(s[sh.toNat]? =some x1)→(let z2:=(x1.fields.length:Int);let z3:=J3 n x1;(s[sh.toNat]? =some x1)∧((0:Int)≤sh)∧z3.Has [(2,.v (vI n)),(6,.v (vP 0)),(23,.v (.c (.seq .fld x1.fields))),(24,.v (vI z2)),(25,.v (vI 0))] [.cells z4]∧∀q1,z3.inv q1→(let z1:=(q1.v:Int);((decide (z1<z2))=true→(∃(x2:Fld),x1.fields[q1.v]? =some x2)∧∀(x2:Fld),(x1.fields[q1.v]? =some x2)→((x1.fields[q1.v]? =some x2)∧((0:Int)≤z1)∧((decide (x2.number=n))=true→(.tup [.agg (Ej x2),vB true]:S)= .tup [.agg z8,vB z6.isSome]∧([]:List Blk)=[])∧((decide (x2.number=n))=false→((.v (vI (IntKind.i64.wrap (z1+1))):S)= .v (vI (z1+1)))∧z3.Nxt q1 [(2,.v (vI n)),(6,.v (vP 0)),(23,.v (.c (.seq .fld x1.fields))),(24,.v (vI z2)),(25,.v (vI (z1+1)))] [.cells z4])))∧((decide (z1<z2))=false→(.tup [.agg z4,vB false]:S)= .tup [.agg z8,vB z6.isSome]∧([]:List Blk)=[])))))) Q4 ?_
 refine⟨(Ac Q2 Q2),(Ch _ _ _),fun h1=>have q1:=Ap h1;have p1:=A4 q1;?_,fun h1=>have q1:=Ao h1;have p1:=Av q1;?_⟩
 refine have hm1:(fieldAt s sh n).getD fld0=(⟨0,0,false,false,0⟩:Fld):=?_;?_
 rotate_left
 refine⟨(congrArg S.tup (Aa (congrArg V.agg (Aa (congrArg (C.int .i64) ?_) (Aa (congrArg (C.int .i64) ?_) (Aa (congrArg C.bool ?_) (Aa (congrArg C.bool ?_) (Aa (congrArg (C.int .i64) ?_) rfl)))))) (Aa (congrArg V.c (congrArg C.bool ?_)) rfl))),rfl⟩
 rotate_left 6
 have q1_:=q1
 refine⟨(Bq (l:=s) (i:=sh.toNat) Q2),fun x1 hx1=>?_⟩
 have hfa:=Zf (n:=n) q1_ hx1
 have hfl:=hp2 x1 (List.mem_of_getElem? hx1)
 refine⟨hx1,Q2,Bs (j:=(⟨0⟩:L7)) Q9 rfl (by dsimp only[J3];exact⟨by omega,by simp⟩),fun (q1:L7) hq_q1=>?_⟩
 have hi_q1:q1.v≤x1.fields.length∧Ha (List.drop q1.v x1.fields) n=Ha x1.fields n:=hq_q1
 obtain ⟨v1,v2⟩:=hi_q1
 refine dsp (fun h2 p2=>?_) fun h2 p2=>?_
 refine⟨(Bq (l:=x1.fields) (i:=q1.v) Q2),fun x2 hx2=>?_⟩
 rw[Er hx2,Vp] at v2
 refine⟨hx2,Q2,dsp (fun h3 p3=>?_) fun h3 p3=>?_⟩
 refine have hm1:(fieldAt s sh n).getD fld0=x2:=?_;?_
 rotate_left
 refine⟨(congrArg S.tup (Aa (congrArg V.agg (Aa (congrArg (C.int .i64) ?_) (Aa (congrArg (C.int .i64) ?_) (Aa (congrArg C.bool ?_) (Aa (congrArg C.bool ?_) (Aa (congrArg (C.int .i64) ?_) rfl)))))) (Aa (congrArg V.c (congrArg C.bool ?_)) rfl))),rfl⟩
 rotate_left 6
 exact⟨(Ac Q2 Q2),Bc (j:=(⟨q1.v+1⟩:L7)) Q9 rfl (by dsimp only[J3];exact⟨by omega,by grind⟩) (by dsimp only[J3];omega)⟩
 rw[Kp p2] at v2
 refine have hm1:(fieldAt s sh n).getD fld0=(⟨0,0,false,false,0⟩:Fld):=?_;?_
 rotate_left
 refine⟨(congrArg S.tup (Aa (congrArg V.agg (Aa (congrArg (C.int .i64) ?_) (Aa (congrArg (C.int .i64) ?_) (Aa (congrArg C.bool ?_) (Aa (congrArg C.bool ?_) (Aa (congrArg (C.int .i64) ?_) rfl)))))) (Aa (congrArg V.c (congrArg C.bool ?_)) rfl))),rfl⟩
 rotate_left 6
 all_goals grind[fieldAt,fld0,Ha]
structure L8 where
 i:Nat
def J4 (n:Int) (x1:Shp):Fam:=⟨L8,fun q1=>[(2,.v (vI n)),(6,.v (vP 0)),(8,.v (.c (.seq .fld x1.fields))),(9,.v (vI (q1.i:Int)))],fun _=>[.cells [.int .i64 0,.int .i64 0,.bool false,.bool false,.int .i64 0]],fun q1=>q1.i≤x1.fields.length∧Ha (List.drop q1.i x1.fields) n=Ha x1.fields n,fun q1=>x1.fields.length-q1.i⟩
theorem To (s:List Shp) (sh:Int) (n:Int) (hp1:s.length≤1000) (hp2: ∀x∈s,x.fields.length≤1000):Fun Tryz.prog 133 [.agg [.seq .shp s],vI sh,vI n] [] (.tup [.agg (Ej ((fieldAt s sh n).getD fld0)),vB (fieldAt s sh n).isSome]) []:=by
 have hN:Be=274877906944:=rfl
 refine Ar Tryz.func133 Q4 Q4 (w:=let z4:List C:=[.int .i64 0,.int .i64 0,.bool false,.bool false,.int .i64 0];let z5:=(s.length:Int)-1;let z6:=fieldAt s sh n;let z7:=Aq sh 0 z5;let z8:=Ej (z6.getD fld0);(.seg [.as 14 (.v (vI z5)),.call [] (.v (vB z7)) []] (.br (.leaf () []) (.intro (fun (x1:Shp)=>s[sh.toNat]? =some x1) fun x1=> .seg [.el .shp x1,.at 0,.keep [2,6,8,9],.sel [1]] (.loop (J4 n x1) fun q1=> .br (.intro (fun (x2:Fld)=>x1.fields[q1.i]? =some x2) fun x2=> .seg [.el .fld x2] (.br (.seg [.el .fld x2] (.leaf () [])) (.seg [.as 29 (.v (vI ((q1.i:Int)+1))),.at 0,.keep [2,6,8,9],.sel [0]] (.next)))) (.leaf () [])))),((.v (vI (IntKind.i64.wrap z5)):S)= .v (vI z5))∧(Fun Tryz.prog 59 [vI sh,vI 0,vI z5] [] (.v (vB z7)) [])∧((!z7)=true→(.tup [.agg z4,vB false]:S)= .tup [.agg z8,vB z6.isSome]∧([]:List Blk)=[])∧((!z7)=false→(∃(x1:Shp),s[sh.toNat]? =some x1)∧∀(x1:Shp),(s[sh.toNat]? =some x1)→(let z2:=(x1.fields.length:Int);let z3:=J4 n x1;(s[sh.toNat]? =some x1)∧((0:Int)≤sh)∧z3.Has [(2,.v (vI n)),(6,.v (vP 0)),(8,.v (.c (.seq .fld x1.fields))),(9,.v (vI 0))] [.cells z4]∧∀q1,z3.inv q1→(let z1:=(q1.i:Int);((decide (z1<z2))=true→(∃(x2:Fld),x1.fields[q1.i]? =some x2)∧∀(x2:Fld),(x1.fields[q1.i]? =some x2)→((x1.fields[q1.i]? =some x2)∧((0:Int)≤z1)∧((decide (x2.number=n))=true→(x1.fields[q1.i]? =some x2)∧((0:Int)≤z1)∧(.tup [.agg (Ej x2),vB true]:S)= .tup [.agg z8,vB z6.isSome]∧([]:List Blk)=[])∧((decide (x2.number=n))=false→((.v (vI (IntKind.i64.wrap (z1+1))):S)= .v (vI (z1+1)))∧z3.Nxt q1 [(2,.v (vI n)),(6,.v (vP 0)),(8,.v (.c (.seq .fld x1.fields))),(9,.v (vI (z1+1)))] [.cells z4])))∧((decide (z1<z2))=false→(.tup [.agg z4,vB false]:S)= .tup [.agg z8,vB z6.isSome]∧([]:List Blk)=[])))))) Q4 ?_
 refine⟨(Ac Q2 Q2),(Bh _ _ _),fun h1=>have q1:=Ap h1;have p1:=A4 q1;?_,fun h1=>have q1:=Ao h1;have p1:=Av q1;?_⟩
 refine have hm1:(fieldAt s sh n).getD fld0=(⟨0,0,false,false,0⟩:Fld):=?_;?_
 rotate_left
 refine⟨(congrArg S.tup (Aa (congrArg V.agg (Aa (congrArg (C.int .i64) ?_) (Aa (congrArg (C.int .i64) ?_) (Aa (congrArg C.bool ?_) (Aa (congrArg C.bool ?_) (Aa (congrArg (C.int .i64) ?_) rfl)))))) (Aa (congrArg V.c (congrArg C.bool ?_)) rfl))),rfl⟩
 rotate_left 6
 have q1_:=q1
 refine⟨(Bq (l:=s) (i:=sh.toNat) Q2),fun x1 hx1=>?_⟩
 have hfa:=Zf (n:=n) q1_ hx1
 have hfl:=hp2 x1 (List.mem_of_getElem? hx1)
 refine⟨hx1,Q2,Bs (j:=(⟨0⟩:L8)) Q9 rfl (by dsimp only[J4];exact⟨by omega,by simp⟩),fun (q1:L8) hq_q1=>?_⟩
 have hi_q1:q1.i≤x1.fields.length∧Ha (List.drop q1.i x1.fields) n=Ha x1.fields n:=hq_q1
 obtain ⟨v1,v2⟩:=hi_q1
 refine dsp (fun h2 p2=>?_) fun h2 p2=>?_
 refine⟨(Bq (l:=x1.fields) (i:=q1.i) Q2),fun x2 hx2=>?_⟩
 rw[Er hx2,Vp] at v2
 refine⟨hx2,Q2,dsp (fun h3 p3=>?_) fun h3 p3=>?_⟩
 refine⟨hx2,Q2,?_⟩
 refine have hm1:(fieldAt s sh n).getD fld0=x2:=?_;?_
 rotate_left
 refine⟨(congrArg S.tup (Aa (congrArg V.agg (Aa (congrArg (C.int .i64) ?_) (Aa (congrArg (C.int .i64) ?_) (Aa (congrArg C.bool ?_) (Aa (congrArg C.bool ?_) (Aa (congrArg (C.int .i64) ?_) rfl)))))) (Aa (congrArg V.c (congrArg C.bool ?_)) rfl))),rfl⟩
 rotate_left 6
 exact⟨(Ac Q2 Q2),Bc (j:=(⟨q1.i+1⟩:L8)) Q9 rfl (by dsimp only[J4];exact⟨by omega,by grind⟩) (by dsimp only[J4];omega)⟩
 rw[Kp p2] at v2
 refine have hm1:(fieldAt s sh n).getD fld0=(⟨0,0,false,false,0⟩:Fld):=?_;?_
 rotate_left
 refine⟨(congrArg S.tup (Aa (congrArg V.agg (Aa (congrArg (C.int .i64) ?_) (Aa (congrArg (C.int .i64) ?_) (Aa (congrArg C.bool ?_) (Aa (congrArg C.bool ?_) (Aa (congrArg (C.int .i64) ?_) rfl)))))) (Aa (congrArg V.c (congrArg C.bool ?_)) rfl))),rfl⟩
 rotate_left 6
 all_goals grind[fieldAt,fld0,Ha]
theorem Aam (p:Pln):Fun Tryz.prog 48 [.agg (Ex p)] [] (.v (vB (B5 p))) []:=by
 have hN:Be=274877906944:=rfl
 refine Ar Tryz.func48 Q4 Q4 (w:=let z1:=(p.shapes.length:Int)-1;let z2:=Aq p.root 0 z1;let z3:=Dt p.shapes;let z4:=Aq p.deep 1 8;let z5:=vB (Aq p.most 0 2000);let z6:=vB (B5 p);let z7:=([]:List Blk);let z8:=(.v (vB false):S);(.seg [.call [] (.v (vB z3)) []] (.br (.seg [.as 13 (.v (vI z1)),.call [] (.v (vB z2)) []] (.br (.seg [.call [] (.v (vB z4)) []] (.br (.seg [.call [] (.v z5) []] (.leaf () [])) (.leaf () []))) (.leaf () []))) (.leaf () [])),(Fun Tryz.prog 105 [.agg [.seq .shp p.shapes]] [] (.v (vB z3)) [])∧(z3=true→((.v (vI (IntKind.i64.wrap z1)):S)= .v (vI z1))∧(Fun Tryz.prog 79 [vI p.root,vI 0,vI z1] [] (.v (vB z2)) [])∧(z2=true→(Fun Tryz.prog 79 [vI p.deep,vI 1,vI 8] [] (.v (vB z4)) [])∧(z4=true→(Fun Tryz.prog 79 [vI p.most,vI 0,vI 2000] [] (.v z5) [])∧(.v z5:S)= .v z6∧z7=[])∧(z4=false→z8= .v z6∧z7=[]))∧(z2=false→z8= .v z6∧z7=[]))∧(z3=false→z8= .v z6∧z7=[]))) Q4 ?_
 refine⟨(Afy p.shapes),fun h1=>have p1:=Ut h1;?_,fun h1=>?_⟩
 refine⟨(Ac Q2 Q2),(Ch _ _ _),fun h2=>have p2:=Av h2;?_,fun h2=>have p2:=A4 h2;?_⟩
 refine⟨(Ch _ _ _),fun h3=>have p3:=Av h3;?_,fun h3=>have p3:=A4 h3;?_⟩
 exact⟨(Ch _ _ _),(congrArg S.v (congrArg V.c (congrArg C.bool Q83))),rfl⟩
 exact⟨(congrArg S.v (congrArg V.c (congrArg C.bool Q83))),rfl⟩
 exact⟨(congrArg S.v (congrArg V.c (congrArg C.bool Q83))),rfl⟩
 exact⟨(congrArg S.v (congrArg V.c (congrArg C.bool Q83))),rfl⟩
theorem Rt (p:Pln):Fun Tryz.prog 34 [.agg (Ex p)] [] (.v (vB (B5 p))) []:=by
 have hN:Be=274877906944:=rfl
 refine Ar Tryz.func34 Q4 Q4 (w:=let z1:=(p.shapes.length:Int)-1;let z2:=Aq p.root 0 z1;let z3:=Dt p.shapes;let z4:=Aq p.deep 1 8;let z5:=vB (Aq p.most 0 2000);let z6:=vB (B5 p);let z7:=([]:List Blk);let z8:=(.v (vB false):S);(.seg [.call [] (.v (vB z3)) []] (.br (.seg [.as 13 (.v (vI z1)),.call [] (.v (vB z2)) []] (.br (.seg [.call [] (.v (vB z4)) []] (.br (.seg [.call [] (.v z5) []] (.leaf () [])) (.leaf () []))) (.leaf () []))) (.leaf () [])),(Fun Tryz.prog 97 [.agg [.seq .shp p.shapes]] [] (.v (vB z3)) [])∧(z3=true→((.v (vI (IntKind.i64.wrap z1)):S)= .v (vI z1))∧(Fun Tryz.prog 59 [vI p.root,vI 0,vI z1] [] (.v (vB z2)) [])∧(z2=true→(Fun Tryz.prog 59 [vI p.deep,vI 1,vI 8] [] (.v (vB z4)) [])∧(z4=true→(Fun Tryz.prog 59 [vI p.most,vI 0,vI 2000] [] (.v z5) [])∧(.v z5:S)= .v z6∧z7=[])∧(z4=false→z8= .v z6∧z7=[]))∧(z2=false→z8= .v z6∧z7=[]))∧(z3=false→z8= .v z6∧z7=[]))) Q4 ?_
 refine⟨(Afz p.shapes),fun h1=>have p1:=Ut h1;?_,fun h1=>?_⟩
 refine⟨(Ac Q2 Q2),(Bh _ _ _),fun h2=>have p2:=Av h2;?_,fun h2=>have p2:=A4 h2;?_⟩
 refine⟨(Bh _ _ _),fun h3=>have p3:=Av h3;?_,fun h3=>have p3:=A4 h3;?_⟩
 exact⟨(Bh _ _ _),(congrArg S.v (congrArg V.c (congrArg C.bool Q83))),rfl⟩
 exact⟨(congrArg S.v (congrArg V.c (congrArg C.bool Q83))),rfl⟩
 exact⟨(congrArg S.v (congrArg V.c (congrArg C.bool Q83))),rfl⟩
 exact⟨(congrArg S.v (congrArg V.c (congrArg C.bool Q83))),rfl⟩
theorem Af0 (k:Int):Fun Tryz.prog 143 [vI k] [] (.v (vB (F1 k))) []:=by
 have hN:Be=274877906944:=rfl
 refine Ar Tryz.func143 Q4 Q4 (w:=(.br (.leaf () []) (.br (.leaf () []) (.leaf () [])),((decide (k=2))=true→(.v (vB true):S)= .v (vB (F1 k))∧([]:List Blk)=[])∧((decide (k=2))=false→((decide (k=3))=true→(.v (vB true):S)= .v (vB (F1 k))∧([]:List Blk)=[])∧((decide (k=3))=false→(.v (vB (decide (k=6))):S)= .v (vB (F1 k))∧([]:List Blk)=[])))) Q4 ?_
 refine dsp (fun h1 p1=>?_) fun h1 p1=>?_
 exact⟨(congrArg S.v (congrArg V.c (congrArg C.bool (by grind[F1])))),rfl⟩
 refine dsp (fun h2 p2=>?_) fun h2 p2=>?_
 exact⟨(congrArg S.v (congrArg V.c (congrArg C.bool (by grind[F1])))),rfl⟩
 exact⟨(congrArg S.v (congrArg V.c (congrArg C.bool (by grind[F1])))),rfl⟩
theorem Am8 (l:List Int) (hp1:((List.length l:Nat):Int)≤9223372036854775807):Fun Tryz.prog 9 [.c (.seq .u8 l)] [] (.v (vB (decide (1048576<((List.length l:Nat):Int))))) []:=by
 have hN:Be=274877906944:=rfl
 refine Ar Tryz.func9 Q4 Q4 (w:=let z1:=vB (decide (1048576<((List.length l:Nat):Int)));(.leaf () [],(.v z1:S)= .v z1∧([]:List Blk)=[])) Q4 ?_
 exact⟨rfl,rfl⟩
structure Cur where
 b:List Int
 i:Int
 h:Int
def A6 (c:Cur):Prop:=0≤c.i∧c.b.length≤1048576
def Au (x:Cur):List C:=[.seq .u8 x.b,.int .i64 x.i,.int .i64 x.h]
structure M2 where
 x:Int
 c1:Cur
def Hj (c:Cur) (o:M2):Prop:=Fun Tryz.prog 104 [vP 0] [.cells (Au c)] (.v (vI o.x)) [.cells (Au o.c1)]
def Ey (c:Cur) (o:M2):Prop:=(((0:Int)≤o.x∧o.x≤255)∧(A6 o.c1))∧Hj c o
theorem N4 (c:Cur) (hp1:A6 c): ∃o:M2,Ey c o:=by
 have hN:Be=274877906944:=rfl
 have hcb:=hp1.1
 have hcl:=hp1.2
 refine Cc Tryz.func104 Q4 Q4 (w:=let z5:=(IntKind.i64.wrap (c.h*6364136223846793005))+1442695040888963407;let z3:=IntKind.i64.wrap z5;let z8:=(.v (vI (Int.fdiv z3 (2 ^ 33))):S)= .v (vI (z3 / 8589934592));let z10:List Blk:=[.cells [.seq .u8 c.b,.int .i64 (c.i+1),.int .i64 z3]];let z11:=decide (c.i<((List.length c.b:Nat):Int));let z12:List Blk:=[.cells [.seq .u8 c.b,.int .i64 c.i,.int .i64 z3]];let z13:=z3 / 35184372088832;let z4:=IntKind.i64.wrap (((BitVec.ofInt 64 (z3 / 8589934592) ^^^ BitVec.ofInt 64 z13).toNat:Nat));let z7:=(.v (vI (Int.fdiv z3 (2 ^ 45))):S)= .v (vI z13);let z9:=z4 % 256;let z6:=(.v (vI (IntKind.i64.wrap (((BitVec.ofInt 64 z4&&&BitVec.ofInt 64 255).toNat:Nat)))):S)= .v (vI z9);(.seg [.ord (os 13 []) [],.as 17 (.v (vI (z3 / 8589934592))),.as 22 (.v (vI z13)),.as 24 (.v (vI z9)),.ord (os 10 []) []] (.br (.intro (fun (x1:Int)=>c.b[Int.toNat c.i]? =some x1) fun x1=>let z1:=IntKind.i64.wrap (z9+(IntKind.i64.wrap (x1)));.seg [.ord (os 15 []) [],.el .u8 x1,.as 48 (.v (vI (z1 % 256))),.as 54 (.v (vI (c.i+1)))] (.leaf (⟨z1 % 256,(⟨c.b,c.i+1,IntKind.i64.wrap z5⟩:Cur)⟩:M2) [0])) (.leaf (⟨z4 % 256,(⟨c.b,c.i,IntKind.i64.wrap z5⟩:Cur)⟩:M2) [0])),((0:Int)≤33)∧((0:Int)≤33)∧z8∧z8∧((0:Int)≤45)∧((0:Int)≤45)∧z7∧z7∧z6∧z6∧(z11=true→(∃(x1:Int),c.b[Int.toNat c.i]? =some x1)∧∀(x1:Int),(c.b[Int.toNat c.i]? =some x1)→(let z2:=IntKind.i64.wrap (z9+(IntKind.i64.wrap (x1)));(c.b[Int.toNat c.i]? =some x1)∧((0:Int)≤c.i)∧(c.b[Int.toNat c.i]? =some x1)∧((0:Int)≤c.i)∧((.v (vI (IntKind.i64.wrap (((BitVec.ofInt 64 z2&&&BitVec.ofInt 64 255).toNat:Nat)))):S)= .v (vI (z2 % 256)))∧((.v (vI (IntKind.i64.wrap (((BitVec.ofInt 64 z2&&&BitVec.ofInt 64 255).toNat:Nat)))):S)= .v (vI (z2 % 256)))∧((.v (vI (IntKind.i64.wrap (c.i+1))):S)= .v (vI (c.i+1)))∧(((0:Int)≤(z2 % 256)∧(z2 % 256)≤255)∧(A6 (⟨c.b,c.i+1,IntKind.i64.wrap z5⟩:Cur)))∧(.v (vI (z2 % 256)):S)= .v (vI (z2 % 256))∧(z10:List Blk)=z10))∧(z11=false→(((0:Int)≤z9∧z9≤255)∧(A6 (⟨c.b,c.i,IntKind.i64.wrap z5⟩:Cur)))∧(.v (vI z9):S)= .v (vI z9)∧(z12:List Blk)=z12))) Q4 ?_
 refine⟨Q26,Q26,(Y8 (k:=33) Q26 Q26),(Y8 (k:=33) Q26 Q26),Q26,Q26,(Y8 (k:=45) Q26 Q26),(Y8 (k:=45) Q26 Q26),(G9 (k:=8) Q26 Q26),(G9 (k:=8) Q26 Q26),dsp (fun h1 p1=>?_) fun h1 p1=>?_⟩
 refine⟨(Bq (l:=c.b) (i:=Int.toNat c.i) Q2),fun x1 hx1=>?_⟩
 exact⟨hx1,Q2,hx1,Q2,(G9 (k:=8) Q26 Q26),(G9 (k:=8) Q26 Q26),(Ac Q2 Q2),⟨Q2,Q0⟩,rfl,rfl⟩
 exact⟨⟨Q2,Q0⟩,rfl,rfl⟩
structure Du where
 x:Int
 c1:Cur
def As (c:Cur) (n:Int) (o:Du):Prop:=Fun Tryz.prog 46 [vP 0,vI n] [.cells (Au c)] (.v (vI o.x)) [.cells (Au o.c1)]
def Ad (c:Cur) (n:Int) (o:Du):Prop:=(((0:Int)≤o.x)∧((1:Int)≤n→o.x<n)∧(n≤(0:Int)→o.x=(0:Int))∧(A6 o.c1))∧As c n o
theorem A3 (c:Cur) (n:Int) (hp1:A6 c): ∃o:Du,Ad c n o:=by
 have hN:Be=274877906944:=rfl
 refine Cc Tryz.func46 Q4 Q4 (w:=let z8:=Ey c;(.br (.leaf (⟨0,c⟩:Du) [0]) (.br (.intro z8 fun o1=> .seg [.call [0] (.v (vI o1.x)) [.cells (Au o1.c1)]] (.leaf (⟨Int.tmod o1.x n,o1.c1⟩:Du) [0])) (.intro z8 fun o1=> .seg [.call [0] (.v (vI o1.x)) [.cells (Au o1.c1)]] (.intro (Ey o1.c1) fun o2=>let z6:=(o1.x*16777216)+(o2.x*65536);.seg [.call [0] (.v (vI o2.x)) [.cells (Au o2.c1)]] (.intro (Ey o2.c1) fun o3=>let z4:=z6+(o3.x*256);.seg [.call [0] (.v (vI o3.x)) [.cells (Au o3.c1)]] (.intro (Ey o3.c1) fun o4=>let z2:=z4+o4.x;.seg [.call [0] (.v (vI o4.x)) [.cells (Au o4.c1)],.as 26 (.v (vI (o1.x*16777216))),.as 28 (.v (vI (o2.x*65536))),.as 29 (.v (vI z6)),.as 31 (.v (vI (o3.x*256))),.as 32 (.v (vI z4)),.as 34 (.v (vI z2))] (.leaf (⟨Int.tmod z2 n,o4.c1⟩:Du) [0])))))),((decide (n≤0))=true→(((0:Int)≤0)∧((1:Int)≤n→0<n)∧(n≤(0:Int)→0=(0:Int))∧(A6 c))∧(.v (vI 0):S)= .v (vI 0)∧([.cells (Au c)]:List Blk)=[.cells (Au c)])∧((decide (n≤0))=false→((decide (n≤256))=true→In z8 fun o1=>(let z1:=Int.tmod o1.x n;(Hj c o1)∧(n≠0)∧(((0:Int)≤z1)∧((1:Int)≤n→z1<n)∧(n≤(0:Int)→z1=(0:Int))∧(A6 o1.c1))∧(.v (vI z1):S)= .v (vI z1)∧([.cells (Au o1.c1)]:List Blk)=[.cells (Au o1.c1)]))∧((decide (n≤256))=false→In z8 fun o1=>((Hj c o1)∧In (Ey o1.c1) fun o2=>(let z7:=(o1.x*16777216)+(o2.x*65536);(Hj o1.c1 o2)∧In (Ey o2.c1) fun o3=>(let z5:=z7+(o3.x*256);(Hj o2.c1 o3)∧In (Ey o3.c1) fun o4=>(let z3:=z5+o4.x;(Hj o3.c1 o4)∧((.v (vI (IntKind.i64.wrap (o1.x*16777216))):S)= .v (vI (o1.x*16777216)))∧((.v (vI (IntKind.i64.wrap (o2.x*65536))):S)= .v (vI (o2.x*65536)))∧((.v (vI (IntKind.i64.wrap z7)):S)= .v (vI z7))∧((.v (vI (IntKind.i64.wrap (o3.x*256))):S)= .v (vI (o3.x*256)))∧((.v (vI (IntKind.i64.wrap z5)):S)= .v (vI z5))∧((.v (vI (IntKind.i64.wrap z3)):S)= .v (vI z3))∧(n≠0)∧(((0:Int)≤(Int.tmod z3 n))∧((1:Int)≤n→(Int.tmod z3 n)<n)∧(n≤(0:Int)→(Int.tmod z3 n)=(0:Int))∧(A6 o4.c1))∧(.v (vI (Int.tmod z3 n)):S)= .v (vI (Int.tmod z3 n))∧([.cells (Au o4.c1)]:List Blk)=[.cells (Au o4.c1)])))))))) Q4 ?_
 refine dsp (fun h1 p1=>?_) fun h1 p1=>?_
 exact⟨⟨Q2,Q2,Q2,Q0⟩,rfl,rfl⟩
 refine dsp (fun h2 p2=>?_) fun h2 p2=>?_
 refine⟨(N4 c Q0),fun o1 ho_o1=>?_⟩
 obtain ⟨⟨hp_o1_0,hp_o1_1⟩,hf_o1⟩:=ho_o1
 exact⟨hf_o1,Q2,⟨(by have:=Xc o1.x n;omega),(by have:=Xc o1.x n;omega),(by have:=Xc o1.x n;omega),Q0⟩,rfl,rfl⟩
 refine⟨(N4 c Q0),fun o1 ho_o1=>?_⟩
 obtain ⟨⟨hp_o1_0,hp_o1_1⟩,hf_o1⟩:=ho_o1
 refine⟨hf_o1,(N4 o1.c1 Q0),fun o2 ho_o2=>?_⟩
 obtain ⟨⟨hp_o2_0,hp_o2_1⟩,hf_o2⟩:=ho_o2
 refine⟨hf_o2,(N4 o2.c1 Q0),fun o3 ho_o3=>?_⟩
 obtain ⟨⟨hp_o3_0,hp_o3_1⟩,hf_o3⟩:=ho_o3
 refine⟨hf_o3,(N4 o3.c1 Q0),fun o4 ho_o4=>?_⟩
 obtain ⟨⟨hp_o4_0,hp_o4_1⟩,hf_o4⟩:=ho_o4
 exact⟨hf_o4,(Ac Q2 Q2),(Ac Q2 Q2),(Ac Q2 Q2),(Ac Q2 Q2),(Ac Q2 Q2),(Ac Q2 Q2),Q2,⟨Q76,Q76,Q76,Q0⟩,rfl,rfl⟩
structure M3 where
 p:Bool
 c1:Cur
def Bt (c:Cur) (n:Int) (o:M3):Prop:=Fun Tryz.prog 44 [vP 0,vI n] [.cells (Au c)] (.v (vB o.p)) [.cells (Au o.c1)]
def Ay (c:Cur) (n:Int) (o:M3):Prop:=((A6 o.c1))∧Bt c n o
theorem B9 (c:Cur) (n:Int) (hp1:A6 c): ∃o:M3,Ay c n o:=by
 have hN:Be=274877906944:=rfl
 refine Cc Tryz.func44 Q4 Q4 (w:=(.intro (Ad c n) fun o1=> .seg [.call [0] (.v (vI o1.x)) [.cells (Au o1.c1)]] (.leaf (⟨decide (o1.x=0),o1.c1⟩:M3) [0]),In (Ad c n) fun o1=>((As c n o1)∧((A6 o1.c1))∧(.v (vB (decide (o1.x=0))):S)= .v (vB (decide (o1.x=0)))∧([.cells (Au o1.c1)]:List Blk)=[.cells (Au o1.c1)]))) Q4 ?_
 refine⟨(A3 c n Q0),fun o1 ho_o1=>?_⟩
 obtain ⟨⟨hp_o1_0,hp_o1_1,hp_o1_2,hp_o1_3⟩,hf_o1⟩:=ho_o1
 exact⟨hf_o1,Q0,rfl,rfl⟩
structure Ks where
 x:Int
 c1:Cur
def Eb (c:Cur) (l:List Int) (o:Ks):Prop:=Fun Tryz.prog 113 [vP 0,.c (.seq .int l)] [.cells (Au c)] (.v (vI o.x)) [.cells (Au o.c1)]
def Ci (c:Cur) (l:List Int) (o:Ks):Prop:=((o.x∈l)∧(A6 o.c1))∧Eb c l o
theorem F8 (c:Cur) (l:List Int) (hp1:A6 c) (hp2:1≤List.length l) (hp3:List.length l≤1000): ∃o:Ks,Ci c l o:=by
 have hN:Be=274877906944:=rfl
 refine Cc Tryz.func113 Q4 Q4 (w:=let z1:=((List.length l:Nat):Int);(.intro (Ad c z1) fun o1=> .seg [.call [0] (.v (vI o1.x)) [.cells (Au o1.c1)]] (.intro (fun (x1:Int)=>l[Int.toNat o1.x]? =some x1) fun x1=> .seg [.el .int x1] (.leaf (⟨x1,o1.c1⟩:Ks) [0])),In (Ad c z1) fun o1=>((As c z1 o1)∧(∃(x1:Int),l[Int.toNat o1.x]? =some x1)∧∀(x1:Int),(l[Int.toNat o1.x]? =some x1)→((l[Int.toNat o1.x]? =some x1)∧((0:Int)≤o1.x)∧((x1∈l)∧(A6 o1.c1))∧(.v (vI x1):S)= .v (vI x1)∧([.cells (Au o1.c1)]:List Blk)=[.cells (Au o1.c1)])))) Q4 ?_
 refine⟨(A3 c ((List.length l:Nat):Int) Q0),fun o1 ho_o1=>?_⟩
 obtain ⟨⟨hp_o1_0,hp_o1_1,hp_o1_2,hp_o1_3⟩,hf_o1⟩:=ho_o1
 refine⟨hf_o1,(Bq (l:=l) (i:=Int.toNat o1.x) Q2),fun x1 hx1=>?_⟩
 exact⟨hx1,Q2,⟨(List.mem_of_getElem? hx1),Q0⟩,rfl,rfl⟩
structure An9 where
 x:Int
 c1:Cur
structure Qt where
 c1:Cur
def Abz (b:List Int) (o:Qt):Prop:=Fun Tryz.prog 51 [.c (.seq .u8 b)] [] (.v (vP 0)) [.cells (Au o.c1)]
def Xn (b:List Int) (o:Qt):Prop:=((A6 o.c1))∧Abz b o
structure Ru where
 h:Int
 i:Nat
def Rv (b:List Int):Fam:=⟨Ru,fun q1=>[(0,.v (.c (.seq .u8 b))),(3,.v (vI q1.h)),(4,.v (vI ((q1.i:Nat):Int)))],fun _=>[],fun q1=>q1.i≤List.length b∧(0:Int)≤q1.h∧q1.h≤1073741823,fun q1=>List.length b-q1.i⟩
theorem Aoa (b:List Int) (hp1:List.length b≤1048576): ∃o:Qt,Xn b o:=by
 have hN:Be=274877906944:=rfl
 refine Cc Tryz.func51 Q4 Q4 (w:=let z4:=((List.length b:Nat):Int);let z5:=Rv b;(.seg [.as 7 (.v (vI (28433+z4))),.at 0,.keep [0,3,4],.sel []] (.loop z5 fun q1=> .br (.br (.seg [.as 19 (.v (vI (q1.h*131)))] (.intro (fun (x1:Int)=>b[q1.i]? =some x1) fun x1=> .seg [.el .u8 x1,.as 27 (.v (vI ((IntKind.i64.wrap ((IntKind.i64.wrap ((q1.h*131)+(IntKind.i64.wrap (x1))))+7)) % 1073741824))),.as 17 (.v (vI (((q1.i:Nat):Int)+1))),.at 0,.keep [0,3,4],.sel []] (.next))) (.leaf (⟨(⟨b,0,q1.h⟩:Cur)⟩:Qt) [0])) (.leaf (⟨(⟨b,0,q1.h⟩:Cur)⟩:Qt) [0])),((.v (vI (IntKind.i64.wrap (28433+z4))):S)= .v (vI (28433+z4)))∧z5.Has [(0,.v (.c (.seq .u8 b))),(3,.v (vI (28433+z4))),(4,.v (vI 0))] []∧∀q1,z5.inv q1→(let z2:List Blk:=[.cells [.seq .u8 b,.int .i64 0,.int .i64 q1.h]];let z3:=((q1.i:Nat):Int);((decide (z3<z4))=true→((decide (z3<4000))=true→((.v (vI (IntKind.i64.wrap (q1.h*131))):S)= .v (vI (q1.h*131)))∧(∃(x1:Int),b[q1.i]? =some x1)∧∀(x1:Int),(b[q1.i]? =some x1)→(let z1:=IntKind.i64.wrap ((IntKind.i64.wrap ((q1.h*131)+(IntKind.i64.wrap (x1))))+7);(b[q1.i]? =some x1)∧((0:Int)≤z3)∧((.v (vI (IntKind.i64.wrap (((BitVec.ofInt 64 z1&&&BitVec.ofInt 64 1073741823).toNat:Nat)))):S)= .v (vI (z1 % 1073741824)))∧((.v (vI (IntKind.i64.wrap (z3+1))):S)= .v (vI (z3+1)))∧z5.Nxt q1 [(0,.v (.c (.seq .u8 b))),(3,.v (vI (z1 % 1073741824))),(4,.v (vI (z3+1)))] []))∧((decide (z3<4000))=false→((A6 (⟨b,0,q1.h⟩:Cur)))∧(.v (vP 0):S)= .v (vP 0)∧(z2:List Blk)=z2))∧((decide (z3<z4))=false→((A6 (⟨b,0,q1.h⟩:Cur)))∧(.v (vP 0):S)= .v (vP 0)∧(z2:List Blk)=z2)))) Q4 ?_
 refine⟨(Ac Q2 Q2),Bs (j:=(⟨28433+((List.length b:Nat):Int),0⟩:Ru)) Q9 rfl (by dsimp only[Rv];exact⟨by omega,by omega,by omega⟩),fun (q1:Ru) hq_q1=>?_⟩
 have hi_q1:q1.i≤List.length b∧(0:Int)≤q1.h∧q1.h≤1073741823:=hq_q1
 obtain ⟨v1,v2,v3⟩:=hi_q1
 refine dsp (fun h1 p1=>?_) fun h1 p1=>?_
 refine dsp (fun h2 p2=>?_) fun h2 p2=>?_
 refine⟨(Ac Q2 Q2),(Bq (l:=b) (i:=q1.i) Q2),fun x1 hx1=>?_⟩
 exact⟨hx1,Q2,(G9 (k:=30) Q26 Q26),(Ac Q2 Q2),Bc (j:=(⟨(IntKind.i64.wrap ((IntKind.i64.wrap ((q1.h*131)+(IntKind.i64.wrap (x1))))+7)) % 1073741824,q1.i+1⟩:Ru)) Q9 rfl (by dsimp only[Rv];exact⟨by omega,by omega,by omega⟩) (by dsimp only[Rv];omega)⟩
 exact⟨(⟨by dsimp only;omega,hp1⟩),rfl,rfl⟩
 exact⟨(⟨by dsimp only;omega,hp1⟩),rfl,rfl⟩
structure N5 where
 l:List Int
 c1:Cur
def Dn (c:Cur) (n:Int) (o:N5):Prop:=Fun Tryz.prog 89 [vP 0,vI n] [.cells (Au c)] (.v (vO 1)) [.cells (Au o.c1),.lst .u8 o.l]
def B3 (c:Cur) (n:Int) (o:N5):Prop:=((List.length o.l≤Int.toNat n)∧(A6 o.c1))∧Dn c n o
structure L9 where
 c:Cur
 b:List Int
 i:Nat
def Ma (n:Int):Fam:=⟨L9,fun q1=>[(0,.v (vP 0)),(1,.v (vI n)),(5,.v (vO 1)),(6,.v (vI ((q1.i:Nat):Int)))],fun q1=>[.cells (Au q1.c),.lst .u8 q1.b],fun q1=>A6 q1.c∧List.length q1.b=q1.i∧(q1.i=0∨((q1.i:Nat):Int)≤n),fun q1=>Int.toNat n-q1.i⟩
theorem Fg (c:Cur) (n:Int) (hp1:A6 c) (hp2:n≤100000): ∃o:N5,B3 c n o:=by
 have hN:Be=274877906944:=rfl
 refine Cc Tryz.func89 Q4 Q4 (w:=let z2:=Ma n;(.seg [.ty .u8,.at 0,.keep [0,1,5,6],.sel [0,1]] (.loop z2 fun q1=> .br (.intro (Ey q1.c) fun o1=> .seg [.call [0] (.v (vI o1.x)) [.cells (Au o1.c1)],.as 16 (.v (.c (.int .u8 o1.x))),.ty .u8,.ty .u8,.as 12 (.v (vI (((q1.i:Nat):Int)+1))),.at 0,.keep [0,1,5,6],.sel [0,3]] (.next)) (.leaf (⟨q1.b,q1.c⟩:N5) [0,1])),z2.Has [(0,.v (vP 0)),(1,.v (vI n)),(5,.v (vO 1)),(6,.v (vI 0))] [.cells (Au c),.lst .u8 ([]:List Int)]∧∀q1,z2.inv q1→(let z1:=((q1.i:Nat):Int);((decide (z1<n))=true→In (Ey q1.c) fun o1=>((Hj q1.c o1)∧((.v (.c (.int .u8 (IntKind.u8.wrap (o1.x)))):S)= .v (.c (.int .u8 o1.x)))∧(List.length q1.b+List.length [o1.x]≤Be)∧((.v (vI (IntKind.i64.wrap (z1+1))):S)= .v (vI (z1+1)))∧z2.Nxt q1 [(0,.v (vP 0)),(1,.v (vI n)),(5,.v (vO 1)),(6,.v (vI (z1+1)))] [.cells (Au o1.c1),.lst .u8 (q1.b++[o1.x])]))∧((decide (z1<n))=false→((List.length q1.b≤Int.toNat n)∧(A6 q1.c))∧(.v (vO 1):S)= .v (vO 1)∧([.cells (Au q1.c),.lst .u8 q1.b]:List Blk)=[.cells (Au q1.c),.lst .u8 q1.b])))) Q4 ?_
 refine⟨Bs (j:=(⟨c,([]:List Int),0⟩:L9)) Q9 rfl (by dsimp only[Ma];exact⟨hp1,rfl,.inl rfl⟩),fun (q1:L9) hq_q1=>?_⟩
 have hi_q1:A6 q1.c∧List.length q1.b=q1.i∧(q1.i=0∨((q1.i:Nat):Int)≤n):=hq_q1
 obtain ⟨v1,v2,v3⟩:=hi_q1
 refine dsp (fun h1 p1=>?_) fun h1 p1=>?_
 refine⟨(N4 q1.c Q0),fun o1 ho_o1=>?_⟩
 obtain ⟨⟨hp_o1_0,hp_o1_1⟩,hf_o1⟩:=ho_o1
 exact⟨hf_o1,(Mv Q2 Q2),Q6,(Ac Q2 Q2),Bc (j:=(⟨o1.c1,q1.b++[o1.x],q1.i+1⟩:L9)) Q9 rfl (by dsimp only[Ma];exact⟨by assumption,by simp;omega,by omega⟩) (by dsimp only[Ma];omega)⟩
 exact⟨⟨Q2,Q0⟩,rfl,rfl⟩
structure Raw where
 msgs:List Shp
structure Vio where
 code:Int
 msg:Int
 field:Int
structure Arg (ids:List Int) (f:Fld):Prop where
 num:D9 f.number=true
 kd:1≤f.kind∧f.kind≤8
 pk:f.packed=true→f.rep=true∧f.kind≤5
 ref:f.kind=8→f.msg∈ids
 no:f.kind≠8→f.msg=0
def Aj6 (fs:List Fld):List Int:=fs.map fun f=>f.number
def Hw (l:List Shp):List Int:=l.map fun m=>m.id
def Qu (l:List Shp) (id:Int):Bool:=l.any fun m=>decide (m.id=id)
def Dd (l:List Fld) (n:Int):Bool:=l.any fun f=>decide (f.number=n)
structure FldsG (ids:List Int) (fs:List Fld):Prop where
 len:fs.length≤5
 num:(Aj6 fs).Nodup
 all: ∀f∈fs,Arg ids f
structure RawK (n:Nat) (l:List Shp):Prop where
 len:l.length=n
 pos:1≤n∧n≤3
 ids:Hw l=[5,1,99].take n
 flds: ∀m∈l,FldsG (Hw l) m.fields
theorem Aep {l:List Fld} {n:Int} :Dd l n=false↔∀f∈l,f.number≠n:=by
 simp[Dd]
theorem Ade {l:List Shp} {x:Int} :Qu l x=true↔x∈Hw l:=by
 simp[Qu,Hw]
theorem Zi {l:List Int} (h:l.Nodup) {i:Nat} {x:Int} (hx:l[i]? =some x):x ∉ l.take i:=by
 intro hm
 obtain ⟨j,hj,he⟩:=List.mem_take_iff_getElem.1 hm
 have hi:=(List.getElem?_eq_some_iff.1 hx)
 obtain ⟨hi1,hi2⟩:=hi
 exact List.pairwise_iff_getElem.1 h j i Q2 hi1 Q2 (by rw[hi2,he])
theorem RawK.nodup {n:Nat} {l:List Shp} (h:RawK n l):(Hw l).Nodup:=by
 rw[h.ids]
 have h2:=h.pos
 have:n=1∨n=2∨n=3:=by omega
 rcases this with rfl|rfl|rfl<;>decide
theorem RawK.noId {n:Nat} {l:List Shp} (h:RawK n l) {i:Nat} {m:Shp} (hm:l[i]? =some m):Qu (l.take i) m.id=false:=by
 cases hc:Qu (l.take i) m.id with
 |false=>rfl
 |true=>
  have:=Ade.1 hc
  unfold Hw at this
  rw[List.map_take] at this
  exact absurd this (Zi (l:=Hw l) h.nodup (by unfold Hw;rw[List.getElem?_map,hm];rfl))
theorem FldsG.noNum {ids:List Int} {fs:List Fld} (h:FldsG ids fs) {i:Nat} {f:Fld} (hf:fs[i]? =some f):Dd (fs.take i) f.number=false:=by
 rw[Aep]
 intro g hg he
 have:f.number∈(Aj6 fs).take i:=by
  unfold Aj6
  rw[←List.map_take]
  exact List.mem_map.2 ⟨g,hg,he⟩
 exact absurd this (Zi (l:=Aj6 fs) h.num (by unfold Aj6;rw[List.getElem?_map,hf];rfl))
theorem RawK.id_ok {n:Nat} {l:List Shp} (h:RawK n l) {m:Shp} (hm:m∈l):1≤m.id∧m.id≤99:=by
 have hx:m.id∈Hw l:=List.mem_map.2 ⟨m,hm,rfl⟩
 rw[h.ids] at hx
 have:=List.mem_of_mem_take hx
 simp at this
 omega
theorem Ah9 {l:List Shp} {i:Nat} {m:Shp} {fs:List Fld} (h:l[i]? =some m):Hw (l.set i ⟨m.id,fs⟩)=Hw l:=by
 unfold Hw
 apply List.ext_getElem?
 intro j
 rw[List.getElem?_map,List.getElem?_map,List.getElem?_set]
 split
 ·rename_i hij
  subst hij
  have hl:=(List.getElem?_eq_some_iff.1 h).1
  rw[if_pos hl,h]
  rfl
 ·rfl
theorem Akr (fs:List Fld) (f:Fld):Aj6 (fs++[f])=Aj6 fs++[f.number]:=by simp[Aj6]
theorem RawK.add {n:Nat} {l:List Shp} (h:RawK n l) {i:Nat} {m:Shp} {f:Fld} (hm:l[i]? =some m) (hf:Arg (Hw l) f) (hn:Dd m.fields f.number=false) (hk:m.fields.length≤4):RawK n (l.set i ⟨m.id,m.fields++[f]⟩):=by
 have hM:=h.flds m (List.mem_of_getElem? hm)
 refine⟨by rw[List.length_set];exact h.len,h.pos,by rw[Ah9 hm];exact h.ids,fun x hx=>?_⟩
 rw[Ah9 hm]
 rcases List.mem_or_eq_of_mem_set hx with hx|rfl
 ·exact h.flds x hx
 ·refine⟨by rw[List.length_append];simp;omega,?_,fun g hg=>?_⟩
  ·show (Aj6 (m.fields++[f])).Nodup
   rw[Akr,List.nodup_append]
   refine⟨hM.num,by simp,fun a ha b hb=>?_⟩
   simp at hb
   subst hb
   intro e
   subst e
   obtain ⟨g,hg,he⟩:=List.mem_map.1 ha
   exact Aep.1 hn g hg he
  ·rcases List.mem_append.1 hg with hg|hg
   ·exact hM.all g hg
   ·simp at hg;subst hg;exact hf
def Wa (l:List Shp) (id:Int):Nat:=(l.filter fun m=>decide (m.id<id)).length
theorem Ab0 {l:List Shp} {i:Nat} {m:Shp} {id:Int} (h:l[i]? =some m):Wa (l.take (i+1)) id=Wa (l.take i) id+(if m.id<id then 1 else 0):=by
 have ht:l.take (i+1)=l.take i++[m]:=by rw[List.take_add_one,h];rfl
 unfold Wa
 rw[ht,List.filter_append,List.length_append]
 split<;>simp[*]
theorem Aob (l:List Shp) (id:Int):Wa l id≤l.length:=List.length_filter_le _ _
theorem Aia {l:List Shp} {id:Int} (h:id∈Hw l):Wa l id<l.length:=by
 obtain ⟨m,hm,rfl⟩:=List.mem_map.1 h
 unfold Wa
 rcases Nat.lt_or_ge (l.filter fun x=>decide (x.id<m.id)).length l.length with h|h
 ·exact h
 ·have:=List.length_filter_eq_length_iff.1 (Nat.le_antisymm (List.length_filter_le _ _) h) m hm
  simp at this
def Am9 (n:Nat) (fs:List Fld):Prop:=fs.length≤5∧∀f∈fs,1≤f.kind∧f.kind≤8∧(f.kind=8→0≤f.msg∧f.msg<(n:Int))
def SchG (l:List Shp):Prop:=(1≤l.length∧l.length≤3)∧∀e∈l,Am9 l.length e.fields
structure PlnG (p:Pln):Prop where
 sch:SchG p.shapes
 root:0≤p.root∧p.root<(p.shapes.length:Int)
 deep:1≤p.deep∧p.deep≤4
 most:0≤p.most∧p.most≤2000
def Ab1 (p:Pln):Prop:=p.shapes.length≤7∧∀e∈p.shapes,e.fields.length≤6
theorem PlnG.b {p:Pln} (h:PlnG p):Ab1 p:=⟨by have:=h.sch.1;omega,fun e he=>by have:=(h.sch.2 e he).1;omega⟩
theorem Ab2 {α:Type} {l:List α} {i:Nat} {x:α} (h:l[i]? =some x):l.take (i+1)=l.take i++[x]:=by rw[List.take_add_one,h];rfl
theorem Af1 {l:List Shp} {i:Nat} {m:Shp} {id:Int} (h:l[i]? =some m):Qu (l.take (i+1)) id=(Qu (l.take i) id||decide (m.id=id)):=by
 rw[Ab2 h];simp[Qu]
theorem Adf {l:List Fld} {i:Nat} {f:Fld} {n:Int} (h:l[i]? =some f):Dd (l.take (i+1)) n=(Dd (l.take i) n||decide (f.number=n)):=by
 rw[Ab2 h];simp[Dd]
theorem Af2 {l:List Shp} {i:Nat} {m:Shp} {id:Int} {k:Nat} (h:l[i]? =some m) (hi:i<k) (he:m.id=id):Qu (l.take k) id=true:=by
 rw[Qu,List.any_eq_true]
 exact⟨m,List.mem_of_getElem? (by rw[List.getElem?_take,if_pos hi];exact h),by simpa using he⟩
theorem Adg {l:List Fld} {i:Nat} {f:Fld} {n:Int} (h:l[i]? =some f) (he:f.number=n):Dd l n=true:=by
 rw[Dd,List.any_eq_true]
 exact⟨f,List.mem_of_getElem? h,by simpa using he⟩
structure Rw where
 i:Nat
def Rx (r:Raw) (id:Int) (n:Int):Fam:=⟨Rw,fun q1=>[(1,.v (vI id)),(2,.v (vI n)),(3,.v (vP 0)),(7,.v (vI ((q1.i:Nat):Int)))],fun _=>[.cells [.seq .shp r.msgs]],fun q1=>((q1.i:Nat):Int)≤n∧Qu (List.take q1.i r.msgs) id=false,fun q1=>Int.toNat n-q1.i⟩
theorem Adh (r:Raw) (id:Int) (n:Int) (hp1:(0:Int)≤n∧n≤((List.length (r).msgs:Nat):Int)) (hp2:List.length (r).msgs≤1000):Fun Tryz.prog 224 [.agg [.seq .shp r.msgs],vI id,vI n] [] (.v (vB (Qu (List.take (Int.toNat n) (r).msgs) id))) []:=by
 have hN:Be=274877906944:=rfl
 refine Ar Tryz.func224 Q4 Q4 (w:=let z2:=Rx r id n;let z3:=vB (Qu (List.take (Int.toNat n) (r).msgs) id);(.seg [.at 0,.keep [1,2,3,7],.sel [0]] (.loop z2 fun q1=> .br (.intro (fun (x1:Shp)=>r.msgs[q1.i]? =some x1) fun x1=> .seg [.el .shp x1] (.br (.leaf () []) (.seg [.as 12 (.v (vI (((q1.i:Nat):Int)+1))),.at 0,.keep [1,2,3,7],.sel [0]] (.next)))) (.leaf () [])),z2.Has [(1,.v (vI id)),(2,.v (vI n)),(3,.v (vP 0)),(7,.v (vI 0))] [.cells [.seq .shp r.msgs]]∧∀q1,z2.inv q1→(let z1:=((q1.i:Nat):Int);((decide (z1<n))=true→(∃(x1:Shp),r.msgs[q1.i]? =some x1)∧∀(x1:Shp),(r.msgs[q1.i]? =some x1)→((r.msgs[q1.i]? =some x1)∧((0:Int)≤z1)∧((decide (x1.id=id))=true→(.v (vB true):S)= .v z3∧([]:List Blk)=[])∧((decide (x1.id=id))=false→((.v (vI (IntKind.i64.wrap (z1+1))):S)= .v (vI (z1+1)))∧z2.Nxt q1 [(1,.v (vI id)),(2,.v (vI n)),(3,.v (vP 0)),(7,.v (vI (z1+1)))] [.cells [.seq .shp r.msgs]])))∧((decide (z1<n))=false→(.v (vB false):S)= .v z3∧([]:List Blk)=[])))) Q4 ?_
 refine⟨Bs (j:=(⟨0⟩:Rw)) Q9 rfl (by dsimp only[Rx];exact⟨by omega,rfl⟩),fun (q1:Rw) hq_q1=>?_⟩
 have hi_q1:((q1.i:Nat):Int)≤n∧Qu (List.take q1.i r.msgs) id=false:=hq_q1
 obtain ⟨v1,v2⟩:=hi_q1
 refine dsp (fun h1 p1=>?_) fun h1 p1=>?_
 refine⟨(Bq (l:=r.msgs) (i:=q1.i) Q2),fun x1 hx1=>?_⟩
 refine⟨hx1,Q2,dsp (fun h2 p2=>?_) fun h2 p2=>?_⟩
 refine⟨(sB ?_),rfl⟩
 rotate_left
 exact⟨(Ac Q2 Q2),Bc (j:=(⟨q1.i+1⟩:Rw)) Q9 rfl (by dsimp only[Rx];exact⟨by omega,by rw[Af1 hx1,v2];simpa using by assumption⟩) (by dsimp only[Rx];omega)⟩
 have hin:Int.toNat n=q1.i:=by omega
 refine⟨(sB ?_),rfl⟩
 rotate_left
 all_goals first|((rw[hin,v2];done))|((rw[Af2 hx1 (by omega) (by assumption)];done))|(grind)
structure N6 where
 i:Nat
def N7 (l:List Fld) (n:Int):Fam:=⟨N6,fun q1=>[(0,.v (.c (.seq .fld l))),(1,.v (vI n)),(5,.v (vI ((q1.i:Nat):Int)))],fun _=>[],fun q1=>q1.i≤List.length l∧Dd (List.take q1.i l) n=false,fun q1=>List.length l-q1.i⟩
theorem Gk (l:List Fld) (n:Int) (hp1:List.length l≤1000):Fun Tryz.prog 212 [.c (.seq .fld l),vI n] [] (.v (vB (Dd l n))) []:=by
 have hN:Be=274877906944:=rfl
 refine Ar Tryz.func212 Q4 Q4 (w:=let z2:=N7 l n;(.seg [.at 0,.keep [0,1,5],.sel []] (.loop z2 fun q1=> .br (.intro (fun (x1:Fld)=>l[q1.i]? =some x1) fun x1=> .seg [.el .fld x1] (.br (.leaf () []) (.seg [.as 11 (.v (vI (((q1.i:Nat):Int)+1))),.at 0,.keep [0,1,5],.sel []] (.next)))) (.leaf () [])),z2.Has [(0,.v (.c (.seq .fld l))),(1,.v (vI n)),(5,.v (vI 0))] []∧∀q1,z2.inv q1→(let z1:=((q1.i:Nat):Int);((decide (z1<((List.length l:Nat):Int)))=true→(∃(x1:Fld),l[q1.i]? =some x1)∧∀(x1:Fld),(l[q1.i]? =some x1)→((l[q1.i]? =some x1)∧((0:Int)≤z1)∧((decide (x1.number=n))=true→(.v (vB true):S)= .v (vB (Dd l n))∧([]:List Blk)=[])∧((decide (x1.number=n))=false→((.v (vI (IntKind.i64.wrap (z1+1))):S)= .v (vI (z1+1)))∧z2.Nxt q1 [(0,.v (.c (.seq .fld l))),(1,.v (vI n)),(5,.v (vI (z1+1)))] [])))∧((decide (z1<((List.length l:Nat):Int)))=false→(.v (vB false):S)= .v (vB (Dd l n))∧([]:List Blk)=[])))) Q4 ?_
 refine⟨Bs (j:=(⟨0⟩:N6)) Q9 rfl (by dsimp only[N7];exact⟨by omega,rfl⟩),fun (q1:N6) hq_q1=>?_⟩
 have hi_q1:q1.i≤List.length l∧Dd (List.take q1.i l) n=false:=hq_q1
 obtain ⟨v1,v2⟩:=hi_q1
 refine dsp (fun h1 p1=>?_) fun h1 p1=>?_
 refine⟨(Bq (l:=l) (i:=q1.i) Q2),fun x1 hx1=>?_⟩
 refine⟨hx1,Q2,dsp (fun h2 p2=>?_) fun h2 p2=>?_⟩
 refine⟨(sB ?_),rfl⟩
 rotate_left
 exact⟨(Ac Q2 Q2),Bc (j:=(⟨q1.i+1⟩:N6)) Q9 rfl (by dsimp only[N7];exact⟨by omega,by rw[Adf hx1,v2];simpa using by assumption⟩) (by dsimp only[N7];omega)⟩
 have hin:List.take q1.i l=l:=List.take_of_length_le (by omega)
 rw[hin] at v2
 refine⟨(sB ?_),rfl⟩
 rotate_left
 all_goals first|((rw[v2];done))|((rw[Adg hx1 (by assumption)];done))|(grind)
theorem Aib (r:Raw) (msg:Int) (hp1:RawK (List.length (r).msgs) (r).msgs) (hp2:(0:Int)≤msg∧msg<((List.length (r).msgs:Nat):Int)):Fun Tryz.prog 220 [.agg [.seq .shp r.msgs],vI msg] [] (.v (vI 0)) []:=by
 have hN:Be=274877906944:=rfl
 have hpos:=hp1.pos
 refine Ar Tryz.func220 Q4 Q4 (w:=let z3:=((List.length r.msgs:Nat):Int)-1;let z4:=Aq msg 0 z3;let z5:=List.take (Int.toNat msg) (r).msgs;(.seg [.as 10 (.v (vI z3)),.call [] (.v (vB z4)) []] (.br (.leaf () []) (.intro (fun (x1:Shp)=>r.msgs[Int.toNat msg]? =some x1) fun x1=> .seg [.el .shp x1,.call [] (.v (vB (Aq x1.id 1 99))) []] (.br (.leaf () []) (.seg [.call [] (.v (vB (Qu z5 x1.id))) [],.br false,.br false] (.leaf () []))))),((.v (vI (IntKind.i64.wrap z3)):S)= .v (vI z3))∧(Fun Tryz.prog 59 [vI msg,vI 0,vI z3] [] (.v (vB z4)) [])∧((!z4)=true→(.v (vI 0):S)= .v (vI 0)∧([]:List Blk)=[])∧((!z4)=false→(∃(x1:Shp),r.msgs[Int.toNat msg]? =some x1)∧∀(x1:Shp),(r.msgs[Int.toNat msg]? =some x1)→(let z1:=Qu z5 x1.id;let z2:=Aq x1.id 1 99;(r.msgs[Int.toNat msg]? =some x1)∧((0:Int)≤msg)∧(Fun Tryz.prog 59 [vI x1.id,vI 1,vI 99] [] (.v (vB z2)) [])∧((!z2)=true→(.v (vI 2):S)= .v (vI 0)∧([]:List Blk)=[])∧((!z2)=false→(Fun Tryz.prog 224 [.agg [.seq .shp r.msgs],vI x1.id,vI msg] [] (.v (vB z1)) [])∧(z1=false)∧((decide (8<((List.length x1.fields:Nat):Int)))=false)∧(.v (vI 0):S)= .v (vI 0)∧([]:List Blk)=[]))))) Q4 ?_
 refine⟨(Ac Q2 Q2),(Bh _ _ _),fun h1=>have q1:=Ap h1;have p1:=A4 q1;?_,fun h1=>have q1:=Ao h1;have p1:=Av q1;?_⟩
 exact⟨rfl,rfl⟩
 refine⟨(Bq (l:=r.msgs) (i:=Int.toNat msg) Q2),fun x1 hx1=>?_⟩
 have hid:=hp1.id_ok (List.mem_of_getElem? hx1)
 have hfl:=(hp1.flds _ (List.mem_of_getElem? hx1)).len
 have hno:=hp1.noId hx1
 refine⟨hx1,Q2,(Bh _ _ _),fun h2=>have q2:=Ap h2;have p2:=A4 q2;?_,fun h2=>have q2:=Ao h2;have p2:=Av q2;?_⟩
 refine⟨(sI ?_),rfl⟩
 rotate_left
 exact⟨(Adh r _ _ Q2 Q2),hno,(decide_eq_false Q2),rfl,rfl⟩
 all_goals first|(rfl)|((exfalso;omega))|((exfalso;simp_all;done))|(grind)
theorem Adi (r:Raw) (msg:Int) (field:Int) (hp1:RawK (List.length (r).msgs) (r).msgs) (hp2:(0:Int)≤msg∧msg<((List.length (r).msgs:Nat):Int)) (hp3: ∀m,(r).msgs[Int.toNat msg]? =some m→(0:Int)≤field∧field<((List.length m.fields:Nat):Int)):Fun Tryz.prog 221 [.agg [.seq .shp r.msgs],vI msg,vI field] [] (.v (vI 0)) []:=by
 have hN:Be=274877906944:=rfl
 have hpos:=hp1.pos
 refine Ar Tryz.func221 Q4 Q4 (w:=let z12:=((List.length r.msgs:Nat):Int);let z13:=([]:List Blk);let z14:=Aq msg 0 (z12-1);let z15:=(.v (vI 0):S);let z16:=List.take (Int.toNat z12) (r).msgs;let z17:=(0:Int)≤field;(.seg [.as 13 (.v (vI (z12-1))),.call [] (.v (vB z14)) []] (.br (.leaf () []) (.intro (fun (x1:Shp)=>r.msgs[Int.toNat msg]? =some x1) fun x1=>let z8:=((List.length x1.fields:Nat):Int)-1;.seg [.el .shp x1,.as 25 (.v (vI z8)),.call [] (.v (vB (Aq field 0 z8))) []] (.br (.leaf () []) (.seg [.el .shp x1] (.intro (fun (x2:Fld)=>x1.fields[Int.toNat field]? =some x2) fun x2=>let z1:=vB (Qu z16 x2.msg);.seg [.el .fld x2,.call [] (.v (vB (D9 x2.number))) []] (.br (.leaf () []) (.seg [.ord (os 7 [5]) [],.call [] (.v (vB (Dd (List.take (Int.toNat field) x1.fields) x2.number))) [],.br false,.call [] (.v (vB (Fd x2.kind))) []] (.br (.leaf () []) (.br (.br (.leaf () []) (.seg [.call [] (.v (vB (Cy x2.kind))) []] (.br (.leaf () []) (.br (.seg [.call [] (.v z1) []] (.br (.leaf () []) (.br (.br (.leaf () []) (.leaf () [])) (.leaf () [])))) (.br (.br (.leaf () []) (.leaf () [])) (.leaf () [])))))) (.br (.seg [.call [] (.v z1) []] (.br (.leaf () []) (.br (.br (.leaf () []) (.leaf () [])) (.leaf () [])))) (.br (.br (.leaf () []) (.leaf () [])) (.leaf () [])))))))))))),((.v (vI (IntKind.i64.wrap (z12-1))):S)= .v (vI (z12-1)))∧(Fun Tryz.prog 59 [vI msg,vI 0,vI (z12-1)] [] (.v (vB z14)) [])∧((!z14)=true→z15= .v (vI 0)∧z13=[])∧((!z14)=false→(∃(x1:Shp),r.msgs[Int.toNat msg]? =some x1)∧∀(x1:Shp),(r.msgs[Int.toNat msg]? =some x1)→(let z9:=((List.length x1.fields:Nat):Int);let z10:=List.take (Int.toNat field) x1.fields;let z11:=r.msgs[Int.toNat msg]? =some x1;z11∧((0:Int)≤msg)∧((.v (vI (IntKind.i64.wrap (z9-1))):S)= .v (vI (z9-1)))∧(Fun Tryz.prog 59 [vI field,vI 0,vI (z9-1)] [] (.v (vB (Aq field 0 (z9-1)))) [])∧((!(Aq field 0 (z9-1)))=true→z15= .v (vI 0)∧z13=[])∧((!(Aq field 0 (z9-1)))=false→z11∧((0:Int)≤msg)∧(∃(x2:Fld),x1.fields[Int.toNat field]? =some x2)∧∀(x2:Fld),(x1.fields[Int.toNat field]? =some x2)→(let z2:=(!decide (x2.kind=8))=true→((!decide (x2.msg=0))=true→(.v (vI 9):S)= .v (vI 0)∧z13=[])∧((!decide (x2.msg=0))=false→z15= .v (vI 0)∧z13=[]);let z3:=Qu z16 x2.msg;let z4:=(!decide (x2.kind=8))=false→z15= .v (vI 0)∧z13=[];let z5:=decide (x2.kind=8);let z6:=Dd z10 x2.number;let z7:=D9 x2.number;(x1.fields[Int.toNat field]? =some x2)∧z17∧(Fun Tryz.prog 191 [vI x2.number] [] (.v (vB z7)) [])∧((!z7)=true→(.v (vI 5):S)= .v (vI 0)∧z13=[])∧((!z7)=false→(field≤z9)∧z17∧(field≤z9)∧z17∧(Fun Tryz.prog 212 [.c (.seq .fld z10),vI x2.number] [] (.v (vB z6)) [])∧(z6=false)∧(Fun Tryz.prog 134 [vI x2.kind] [] (.v (vB (Fd x2.kind))) [])∧((!(Fd x2.kind))=true→(.v (vI 7):S)= .v (vI 0)∧z13=[])∧((!(Fd x2.kind))=false→(x2.packed=true→((!x2.rep)=true→(.v (vI 8):S)= .v (vI 0)∧z13=[])∧((!x2.rep)=false→(Fun Tryz.prog 135 [vI x2.kind] [] (.v (vB (Cy x2.kind))) [])∧((!(Cy x2.kind))=true→(.v (vI 8):S)= .v (vI 0)∧z13=[])∧((!(Cy x2.kind))=false→(z5=true→(Fun Tryz.prog 224 [.agg [.seq .shp r.msgs],vI x2.msg,vI z12] [] (.v (vB z3)) [])∧((!z3)=true→(.v (vI 9):S)= .v (vI 0)∧z13=[])∧((!z3)=false→z2∧z4))∧(z5=false→z2∧z4))))∧(x2.packed=false→(z5=true→(Fun Tryz.prog 224 [.agg [.seq .shp r.msgs],vI x2.msg,vI z12] [] (.v (vB z3)) [])∧((!z3)=true→(.v (vI 9):S)= .v (vI 0)∧z13=[])∧((!z3)=false→z2∧z4))∧(z5=false→z2∧z4)))))))))) Q4 ?_
 refine⟨(Ac Q2 Q2),(Bh _ _ _),fun h1=>have q1:=Ap h1;have p1:=A4 q1;?_,fun h1=>have q1:=Ao h1;have p1:=Av q1;?_⟩
 exact⟨rfl,rfl⟩
 refine⟨(Bq (l:=r.msgs) (i:=Int.toNat msg) Q2),fun x1 hx1=>?_⟩
 have hfb:=hp3 _ hx1
 have hfg:=hp1.flds _ (List.mem_of_getElem? hx1)
 have hfl:=hfg.len
 refine⟨hx1,Q2,(Ac Q2 Q2),(Bh _ _ _),fun h2=>have q2:=Ap h2;have p2:=A4 q2;?_,fun h2=>have q2:=Ao h2;have p2:=Av q2;?_⟩
 exact⟨rfl,rfl⟩
 refine⟨hx1,Q2,(Bq (l:=x1.fields) (i:=Int.toNat field) Q2),fun x2 hx2=>?_⟩
 have hg:=hfg.all _ (List.mem_of_getElem? hx2)
 have hnn:=hfg.noNum hx2
 have hgk:=hg.kd
 have hgm:=hg.num
 have hgo:Fd x2.kind=true:=by simp only[Fd,Aq,Bool.and_eq_true,decide_eq_true_eq];omega
 have hgp:=hg.pk
 have hgn:=hg.no
 refine⟨hx2,Q2,(Zh _),fun h3=>have q3:=Ap h3;?_,fun h3=>have q3:=Ao h3;?_⟩
 refine⟨(sI ?_),rfl⟩
 rotate_left
 refine⟨Q2,Q2,Q2,Q2,(Gk _ _ (by simp only[List.length_take];omega)),hnn,(V8 _),fun h4=>have q4:=Ap h4;have p4:=A4 q4;?_,fun h4=>have q4:=Ao h4;have p4:=Av q4;?_⟩
 refine⟨(sI ?_),rfl⟩
 rotate_left
 refine⟨fun h5=>?_,fun h5=>?_⟩
 refine⟨fun h6=>have q6:=Ap h6;?_,fun h6=>have q6:=Ao h6;?_⟩
 refine⟨(sI ?_),rfl⟩
 rotate_left
 refine⟨(M0 _),fun h7=>have q7:=Ap h7;have p7:=A4 q7;?_,fun h7=>have q7:=Ao h7;have p7:=Av q7;?_⟩
 refine⟨(sI ?_),rfl⟩
 rotate_left
 refine dsp (fun h8 p8=>?_) fun h8 p8=>?_
 have hir:=(Ade (l:=r.msgs)).2 (hg.ref (by omega))
 refine⟨(Adh r _ _ Q2 Q2),fun h9=>have q9:=Ap h9;?_,fun h9=>have q9:=Ao h9;?_⟩
 refine⟨(sI ?_),rfl⟩
 rotate_left
 refine⟨fun h10=>have q10:=Ap h10;have p10:=of_decide_eq_false q10;?_,fun h10=>have q10:=Ao h10;have p10:=of_decide_eq_true q10;?_⟩
 refine⟨fun h11=>have q11:=Ap h11;have p11:=of_decide_eq_false q11;?_,fun h11=>have q11:=Ao h11;have p11:=of_decide_eq_true q11;?_⟩
 refine⟨(sI ?_),rfl⟩
 rotate_left
 exact⟨rfl,rfl⟩
 exact⟨rfl,rfl⟩
 refine⟨fun h9=>have q9:=Ap h9;have p9:=of_decide_eq_false q9;?_,fun h9=>have q9:=Ao h9;have p9:=of_decide_eq_true q9;?_⟩
 refine⟨fun h10=>have q10:=Ap h10;have p10:=of_decide_eq_false q10;?_,fun h10=>have q10:=Ao h10;have p10:=of_decide_eq_true q10;?_⟩
 refine⟨(sI ?_),rfl⟩
 rotate_left
 exact⟨rfl,rfl⟩
 exact⟨rfl,rfl⟩
 refine dsp (fun h6 p6=>?_) fun h6 p6=>?_
 have hir:=(Ade (l:=r.msgs)).2 (hg.ref (by omega))
 refine⟨(Adh r _ _ Q2 Q2),fun h7=>have q7:=Ap h7;?_,fun h7=>have q7:=Ao h7;?_⟩
 refine⟨(sI ?_),rfl⟩
 rotate_left
 refine⟨fun h8=>have q8:=Ap h8;have p8:=of_decide_eq_false q8;?_,fun h8=>have q8:=Ao h8;have p8:=of_decide_eq_true q8;?_⟩
 refine⟨fun h9=>have q9:=Ap h9;have p9:=of_decide_eq_false q9;?_,fun h9=>have q9:=Ao h9;have p9:=of_decide_eq_true q9;?_⟩
 refine⟨(sI ?_),rfl⟩
 rotate_left
 exact⟨rfl,rfl⟩
 exact⟨rfl,rfl⟩
 refine⟨fun h7=>have q7:=Ap h7;have p7:=of_decide_eq_false q7;?_,fun h7=>have q7:=Ao h7;have p7:=of_decide_eq_true q7;?_⟩
 refine⟨fun h8=>have q8:=Ap h8;have p8:=of_decide_eq_false q8;?_,fun h8=>have q8:=Ao h8;have p8:=of_decide_eq_true q8;?_⟩
 refine⟨(sI ?_),rfl⟩
 rotate_left
 exact⟨rfl,rfl⟩
 exact⟨rfl,rfl⟩
 all_goals first|(rfl)|((exfalso;simp_all[Cy,Aq];omega))|((exfalso;simp_all[Cy,Aq];done))|((exfalso;omega))|(grind)
structure M4 where
 i:Nat
def Ry (r:Raw):Fam:=⟨M4,fun q1=>[(1,.v (vP 0)),(2,.v (vP 1)),(3,.v (vI ((q1.i:Nat):Int)))],fun _=>[.cells [.seq .shp r.msgs],.cells [.int .i64 0,.int .i64 0,.int .i64 0]],fun q1=>q1.i≤List.length r.msgs,fun q1=>List.length r.msgs-q1.i⟩
structure Rz where
 k:Nat
def Jg (r:Raw) (q1:M4):Fam:=⟨Rz,fun q2=>[(1,.v (vP 0)),(2,.v (vP 1)),(3,.v (vI ((q1.i:Nat):Int))),(5,.v (vI ((q2.k:Nat):Int)))],fun _=>[.cells [.seq .shp r.msgs],.cells [.int .i64 0,.int .i64 0,.int .i64 0]],fun q2=>q2.k≤5,fun q2=>5-q2.k⟩
theorem Aoc (r:Raw) (hp1:RawK (List.length (r).msgs) (r).msgs):Fun Tryz.prog 209 [.agg [.seq .shp r.msgs]] [] (.v (.agg [.int .i64 0,.int .i64 0,.int .i64 0])) []:=by
 have hN:Be=274877906944:=rfl
 have hpos:=hp1.pos
 refine Ar Tryz.func209 Q4 Q4 (w:=let zi:Int→C:= .int .i64;let z4:List Blk:=[.cells [.seq .shp r.msgs],.cells [zi 0,zi 0,zi 0]];let z5:=((List.length r.msgs:Nat):Int);let z6:=Ry r;(.br (.leaf () []) (.seg [.at 0,.keep [1,2,3],.sel [0,1]] (.loop z6 fun q1=> .br (.seg [.call [] (.v (vI 0)) [],.br false,.at 0,.keep [1,2,3,5],.sel [0,1]] (.loop (Jg r q1) fun q2=> .intro (fun (x1:Shp)=>r.msgs[q1.i]? =some x1) fun x1=> .seg [.el .shp x1] (.br (.seg [.call [] (.v (vI 0)) [],.br false,.as 36 (.v (vI (((q2.k:Nat):Int)+1))),.at 0,.keep [1,2,3,5],.sel [0,1]] (.next)) (.seg [.as 17 (.v (vI (((q1.i:Nat):Int)+1))),.at 0,.keep [1,2,3],.sel [0,1]] (.next))))) (.leaf () []))),((decide (6<z5))=true→(.v (.agg [zi 1,zi 6,zi (-1)]):S)= .v (.agg [zi 0,zi 0,zi 0])∧([]:List Blk)=[])∧((decide (6<z5))=false→z6.Has [(1,.v (vP 0)),(2,.v (vP 1)),(3,.v (vI 0))] z4∧∀q1,z6.inv q1→(let z3:=((q1.i:Nat):Int);((decide (z3<z5))=true→(Fun Tryz.prog 220 [.agg [.seq .shp r.msgs],vI z3] [] (.v (vI 0)) [])∧((!decide (0=0))=false)∧(Jg r q1).Has [(1,.v (vP 0)),(2,.v (vP 1)),(3,.v (vI z3)),(5,.v (vI 0))] z4∧∀q2,(Jg r q1).inv q2→(let z2:=((q2.k:Nat):Int);(∃(x1:Shp),r.msgs[q1.i]? =some x1)∧∀(x1:Shp),(r.msgs[q1.i]? =some x1)→(let z1:=decide (z2<((List.length x1.fields:Nat):Int));(r.msgs[q1.i]? =some x1)∧((0:Int)≤z3)∧(z1=true→(Fun Tryz.prog 221 [.agg [.seq .shp r.msgs],vI z3,vI z2] [] (.v (vI 0)) [])∧((!decide (0=0))=false)∧((.v (vI (IntKind.i64.wrap (z2+1))):S)= .v (vI (z2+1)))∧(Jg r q1).Nxt q2 [(1,.v (vP 0)),(2,.v (vP 1)),(3,.v (vI z3)),(5,.v (vI (z2+1)))] z4)∧(z1=false→((.v (vI (IntKind.i64.wrap (z3+1))):S)= .v (vI (z3+1)))∧z6.Nxt q1 [(1,.v (vP 0)),(2,.v (vP 1)),(3,.v (vI (z3+1)))] z4))))∧((decide (z3<z5))=false→(.v (.agg [zi 0,zi 0,zi 0]):S)= .v (.agg [zi 0,zi 0,zi 0])∧([]:List Blk)=[]))))) Q4 ?_
 refine dsp (fun h1 p1=>?_) fun h1 p1=>?_
 refine⟨(congrArg S.v (congrArg V.agg (Aa (congrArg (C.int .i64) ?_) (Aa (congrArg (C.int .i64) ?_) (Aa (congrArg (C.int .i64) ?_) rfl))))),rfl⟩
 rotate_left 3
 refine⟨Bs (j:=(⟨0⟩:M4)) Q9 rfl (by dsimp only[Ry];omega),fun (q1:M4) hq_q1=>?_⟩
 have hi_q1:q1.i≤List.length r.msgs:=hq_q1
 have v1:=hi_q1
 refine dsp (fun h2 p2=>?_) fun h2 p2=>?_
 refine⟨(Aib r _ Q2 Q2),Q26,Bs (j:=(⟨0⟩:Rz)) Q9 rfl (by dsimp only[Jg];omega),fun (q2:Rz) hq_q2=>?_⟩
 have hi_q2:q2.k≤5:=hq_q2
 have w1:=hi_q2
 refine⟨(Bq (l:=r.msgs) (i:=q1.i) Q2),fun x1 hx1=>?_⟩
 have hfl:=(hp1.flds _ (List.mem_of_getElem? hx1)).len
 refine⟨hx1,Q2,dsp (fun h3 p3=>?_) fun h3 p3=>?_⟩
 exact⟨(Adi r _ _ Q2 Q2 (fun m hm=>by (try simp only[Int.toNat_natCast] at hm);rw[hx1] at hm;cases hm;omega)),Q26,(Ac Q2 Q2),Bc (j:=(⟨q2.k+1⟩:Rz)) Q9 rfl (by dsimp only[Jg];omega) (by dsimp only[Jg];omega)⟩
 exact⟨(Ac Q2 Q2),Bc (j:=(⟨q1.i+1⟩:M4)) Q9 rfl (by dsimp only[Ry];omega) (by dsimp only[Ry];omega)⟩
 exact⟨rfl,rfl⟩
 all_goals first|(rfl)|((exfalso;simp_all[Cy,Aq];omega))|((exfalso;simp_all[Cy,Aq];done))|((exfalso;omega))|(grind)
structure Qv where
 n:Int
 i:Nat
def M5 (r:Raw) (id:Int):Fam:=⟨Qv,fun q1=>[(1,.v (vI id)),(2,.v (vP 0)),(5,.v (vI q1.n)),(6,.v (vI ((q1.i:Nat):Int)))],fun _=>[.cells [.seq .shp r.msgs]],fun q1=>q1.i≤List.length r.msgs∧q1.n=((Wa (List.take q1.i r.msgs) id:Nat):Int),fun q1=>List.length r.msgs-q1.i⟩
theorem Ana (r:Raw) (id:Int) (hp1:List.length (r).msgs≤1000):Fun Tryz.prog 210 [.agg [.seq .shp r.msgs],vI id] [] (.v (vI ((Wa (r).msgs id:Nat):Int))) []:=by
 have hN:Be=274877906944:=rfl
 refine Ar Tryz.func210 Q4 Q4 (w:=let z2:=M5 r id;let z3:List Blk:=[.cells [.seq .shp r.msgs]];let z4:=((List.length r.msgs:Nat):Int);(.seg [.at 0,.keep [1,2,5,6],.sel [0]] (.loop z2 fun q1=> .br (.intro (fun (x1:Shp)=>r.msgs[q1.i]? =some x1) fun x1=> .seg [.el .shp x1] (.br (.seg [.as 23 (.v (vI (q1.n+1))),.as 13 (.v (vI (((q1.i:Nat):Int)+1))),.at 0,.keep [1,2,5,6],.sel [0]] (.next)) (.seg [.as 13 (.v (vI (((q1.i:Nat):Int)+1))),.at 0,.keep [1,2,5,6],.sel [0]] (.next)))) (.leaf () [])),z2.Has [(1,.v (vI id)),(2,.v (vP 0)),(5,.v (vI 0)),(6,.v (vI 0))] z3∧∀q1,z2.inv q1→(let z1:=((q1.i:Nat):Int);((decide (z1<z4))=true→(∃(x1:Shp),r.msgs[q1.i]? =some x1)∧∀(x1:Shp),(r.msgs[q1.i]? =some x1)→((r.msgs[q1.i]? =some x1)∧((0:Int)≤z1)∧((decide (x1.id<id))=true→((.v (vI (IntKind.i64.wrap (q1.n+1))):S)= .v (vI (q1.n+1)))∧((.v (vI (IntKind.i64.wrap (z1+1))):S)= .v (vI (z1+1)))∧z2.Nxt q1 [(1,.v (vI id)),(2,.v (vP 0)),(5,.v (vI (q1.n+1))),(6,.v (vI (z1+1)))] z3)∧((decide (x1.id<id))=false→((.v (vI (IntKind.i64.wrap (z1+1))):S)= .v (vI (z1+1)))∧z2.Nxt q1 [(1,.v (vI id)),(2,.v (vP 0)),(5,.v (vI q1.n)),(6,.v (vI (z1+1)))] z3)))∧((decide (z1<z4))=false→(.v (vI q1.n):S)= .v (vI ((Wa (r).msgs id:Nat):Int))∧([]:List Blk)=[])))) Q4 ?_
 refine⟨Bs (j:=(⟨0,0⟩:Qv)) Q9 rfl (by dsimp only[M5];exact⟨by omega,by simp[Wa]⟩),fun (q1:Qv) hq_q1=>?_⟩
 have hi_q1:q1.i≤List.length r.msgs∧q1.n=((Wa (List.take q1.i r.msgs) id:Nat):Int):=hq_q1
 obtain ⟨v1,v2⟩:=hi_q1
 refine dsp (fun h1 p1=>?_) fun h1 p1=>?_
 refine⟨(Bq (l:=r.msgs) (i:=q1.i) Q2),fun x1 hx1=>?_⟩
 have hrk:=Aob (List.take q1.i r.msgs) id
 have hrl:(List.take q1.i r.msgs).length≤q1.i:=by rw[List.length_take];omega
 refine⟨hx1,Q2,dsp (fun h2 p2=>?_) fun h2 p2=>?_⟩
 exact⟨(Ac Q2 Q2),(Ac Q2 Q2),Bc (j:=(⟨q1.n+1,q1.i+1⟩:Qv)) Q9 rfl (by dsimp only[M5];exact⟨by omega,by rw[Ab0 hx1];split<;>omega⟩) (by dsimp only[M5];omega)⟩
 exact⟨(Ac Q2 Q2),Bc (j:=(⟨q1.n,q1.i+1⟩:Qv)) Q9 rfl (by dsimp only[M5];exact⟨by omega,by rw[Ab0 hx1];split<;>omega⟩) (by dsimp only[M5];omega)⟩
 have hin:List.take q1.i r.msgs=r.msgs:=List.take_of_length_le (by omega)
 rw[hin] at v2
 refine⟨(sI ?_),rfl⟩
 rotate_left
 all_goals first|((rw[v2];done))|((exact v2))|(omega)
theorem Aic {l:List Fld} {f g:Fld} {k:Nat} (h:g∈(([]++List.take k l)++[f])++List.drop k l):g=f∨g∈l:=by
 simp only[List.nil_append,List.mem_append,List.mem_singleton] at h
 rcases h with (h|h)|h
 ·exact .inr (List.mem_of_mem_take h)
 ·exact .inl h
 ·exact .inr (List.mem_of_mem_drop h)
structure Xo where
 o:List Fld
def Adj (l:List Fld) (f:Fld) (o:Xo):Prop:=Fun Tryz.prog 211 [.c (.seq .fld l),.agg (Ej f)] [] (.v (vO 0)) [.lst .fld o.o]
def Xp (l:List Fld) (f:Fld) (o:Xo):Prop:=((List.length o.o=List.length l+1)∧(∀g∈o.o,g=f∨g∈l))∧Adj l f o
structure Wb where
 k:Nat
def Wc (l:List Fld) (f:Fld):Fam:=⟨Wb,fun q1=>[(0,.v (.c (.seq .fld l))),(3,.v (vP 0)),(5,.v (vI ((q1.k:Nat):Int)))],fun _=>[.cells (Ej f)],fun q1=>q1.k≤List.length l,fun q1=>List.length l-q1.k⟩
theorem Apx (l:List Fld) (f:Fld) (hp1:List.length l≤1000): ∃o:Xo,Xp l f o:=by
 have hN:Be=274877906944:=rfl
 refine Cc Tryz.func211 Q4 Q4 (w:=let z7:=((List.length l:Nat):Int);let z8:=Wc l f;(.seg [.at 0,.keep [0,3,5],.sel [0]] (.loop z8 fun q1=>let z1:=(([]:List Fld)++(List.take q1.k l))++[f];.case (decide (((q1.k:Nat):Int)<z7)) (.intro (fun (x1:Fld)=>l[q1.k]? =some x1) fun x1=> .seg [.ord (os 14 []) [],.br true,.el .fld x1] (.br (.seg [.as 22 (.v (vI (((q1.k:Nat):Int)+1))),.at 0,.keep [0,3,5],.sel [0]] (.next)) (.seg [.ty .fld,.ty .fld,.ord [(0,true),(1,true),(4,true),(5,true),(6,true),(2,false),(3,false),(7,false),(8,true)] [2],.ty .fld,.ty .fld,.ty .fld] (.leaf (⟨z1++(List.drop q1.k l)⟩:Xo) [5])))) (.seg [.ord (os 14 []) [],.br false,.ty .fld,.ty .fld,.ord [(0,true),(1,true),(4,true),(5,true),(6,true),(2,false),(3,false),(7,false),(8,true)] [2],.ty .fld,.ty .fld,.ty .fld] (.leaf (⟨z1++(List.drop q1.k l)⟩:Xo) [5]))),z8.Has [(0,.v (.c (.seq .fld l))),(3,.v (vP 0)),(5,.v (vI 0))] [.cells (Ej f)]∧∀q1,z8.inv q1→(let z3:=((q1.k:Nat):Int);let z4:=([]:List Fld)++(List.take q1.k l);let z2:=(z4++[f])++(List.drop q1.k l);let z5:=List.length ([]:List Fld)+List.length (List.take q1.k l)≤Be;let z6:=List.length (z4++[f])+List.length (List.drop q1.k l)≤Be;((decide (z3<z7))=true→(∃(x1:Fld),l[q1.k]? =some x1)∧∀(x1:Fld),(l[q1.k]? =some x1)→(((decide (z3<z7))=true)∧(l[q1.k]? =some x1)∧((0:Int)≤z3)∧(l[q1.k]? =some x1)∧((0:Int)≤z3)∧((decide (x1.number<f.number))=true→((.v (vI (IntKind.i64.wrap (z3+1))):S)= .v (vI (z3+1)))∧z8.Nxt q1 [(0,.v (.c (.seq .fld l))),(3,.v (vP 0)),(5,.v (vI (z3+1)))] [.cells (Ej f)])∧((decide (x1.number<f.number))=false→(z3≤z7)∧((0:Int)≤z3)∧z5∧(z3≤z7)∧((0:Int)≤z3)∧(z3≤z7)∧((0:Int)≤z3)∧(List.length z4+List.length [f]≤Be)∧z6∧((List.length z2=List.length l+1)∧(∀g∈z2,g=f∨g∈l))∧(.v (vO 0):S)= .v (vO 0)∧([.lst .fld z2]:List Blk)=[.lst .fld z2])))∧((decide (z3<z7))=false→((decide (z3<z7))=false)∧(z3≤z7)∧((0:Int)≤z3)∧z5∧(z3≤z7)∧((0:Int)≤z3)∧(z3≤z7)∧((0:Int)≤z3)∧(List.length z4+List.length [f]≤Be)∧z6∧((List.length z2=List.length l+1)∧(∀g∈z2,g=f∨g∈l))∧(.v (vO 0):S)= .v (vO 0)∧([.lst .fld z2]:List Blk)=[.lst .fld z2])))) Q4 ?_
 refine⟨Bs (j:=(⟨0⟩:Wb)) Q9 rfl (by dsimp only[Wc];omega),fun (q1:Wb) hq_q1=>?_⟩
 have hi_q1:q1.k≤List.length l:=hq_q1
 have v1:=hi_q1
 refine dsp (fun h1 p1=>?_) fun h1 p1=>?_
 refine⟨(Bq (l:=l) (i:=q1.k) Q2),fun x1 hx1=>?_⟩
 refine⟨h1,hx1,Q2,hx1,Q2,dsp (fun h2 p2=>?_) fun h2 p2=>?_⟩
 exact⟨(Ac Q2 Q2),Bc (j:=(⟨q1.k+1⟩:Wb)) Q9 rfl (by dsimp only[Wc];omega) (by dsimp only[Wc];omega)⟩
 exact⟨Q2,Q2,(by simp only[List.length_take,List.length_cons,List.length_nil];omega),Q2,Q2,Q2,Q2,(by simp;omega),(by simp;omega),⟨(by simp;omega),(fun g hg=>Aic hg)⟩,rfl,rfl⟩
 exact⟨h1,Q2,Q2,(by simp only[List.length_take,List.length_cons,List.length_nil];omega),Q2,Q2,Q2,Q2,(by simp;omega),(by simp;omega),⟨(by simp;omega),(fun g hg=>Aic hg)⟩,rfl,rfl⟩
def Arh (n:Nat) (f:Fld):Prop:=1≤f.kind∧f.kind≤8∧(f.kind=8→0≤f.msg∧f.msg<(n:Int))
theorem Aks {n m:Nat} {e:Shp} (h:e∈List.replicate m (⟨0,[]⟩:Shp)):Am9 n e.fields:=by
 rw[List.eq_of_mem_replicate h]
 exact⟨by simp,fun f hf=>by cases hf⟩
theorem Akt {n k:Nat} {l:List Shp} {x e:Shp} (h: ∀e∈l,Am9 n e.fields) (hx:Am9 n x.fields) (he:e∈l.set k x):Am9 n e.fields:=by
 rcases List.mem_or_eq_of_mem_set he with he|rfl
 ·exact h e he
 ·exact hx
theorem G7 {l:List Shp} {i:Nat} {x:Shp} (h:l[i]? =some x):l.set i ⟨x.id,x.fields⟩=l:=by
 apply List.ext_getElem?
 intro j
 rw[List.getElem?_set]
 split
 ·rename_i hij
  subst hij
  rw[if_pos (List.getElem?_eq_some_iff.1 h).1,h]
 ·rfl
theorem Aid {l:List Shp} {i:Nat} {x:Int} (hl:Hw l=List.take i [5,1,99]) (hi:i<3) (hx:([5,1,99,7]:List Int)[i]? =some x):Hw (l++[⟨x,[]⟩])=List.take (i+1) [5,1,99]:=by
 have:Hw (l++[⟨x,[]⟩])=Hw l++[x]:=by simp[Hw]
 rw[this,hl]
 have h3:i=0∨i=1∨i=2:=by omega
 rcases h3 with rfl|rfl|rfl<;>simp at hx<;>subst hx<;>rfl
theorem Aie {n:Nat} {l:List Shp} (h1:l.length=n) (h2:1≤n∧n≤3) (h3:Hw l=List.take n [5,1,99]) (h4: ∀m∈l,m.fields=[]):RawK n l:=
 ⟨h1,h2,h3,fun m hm=>by rw[h4 m hm];exact⟨by simp,by simp[Aj6],fun f hf=>by cases hf⟩⟩
theorem Aod {l:List Shp} {i j:Nat} {x m:Shp} (h: ∀j m,i<j→l[j]? =some m→m.fields=[]) (hj:i<j) (hm:(l.set i x)[j]? =some m):m.fields=[]:=by
 rw[List.getElem?_set_ne (by omega)] at hm
 exact h j m hj hm
structure N8 where
 l:List Shp
def Xq (r:Raw) (o:N8):Prop:=Fun Tryz.prog 192 [.agg [.seq .shp r.msgs]] [] (.tup [.agg [.own 0],.agg [.int .i64 0,.int .i64 0,.int .i64 0]]) [.tree o.l]
def Sy (r:Raw) (o:N8):Prop:=((SchG o.l))∧Xq r o
structure J5 where
 shapes:List Shp
 i:Nat
def Mb (r:Raw):Fam:=⟨J5,fun q1=>[(1,.v (vP 0)),(2,.v (vP 1)),(3,.v (vP 2)),(4,.v (vP 3)),(5,.v (vP 4)),(6,.v (vI ((q1.i:Nat):Int)))],fun q1=>[.cells [.seq .shp r.msgs],.cells [.nil],.cells [.int .i64 0,.int .i64 0,.int .i64 0],.cells [.int .i64 0,.int .i64 0,.int .i64 0],.cells [.own 5],.tree q1.shapes],fun q1=>q1.i≤List.length r.msgs∧List.length q1.shapes=List.length r.msgs∧∀e∈q1.shapes,Am9 (List.length r.msgs) e.fields,fun q1=>List.length r.msgs-q1.i⟩
structure J6 where
 x:Shp
 k:Nat
def F9 (r:Raw) (q1:J5) (x1:Shp):Fam:=⟨J6,fun q2=>[(1,.v (vP 0)),(2,.v (vP 1)),(3,.v (vP 2)),(4,.v (vP 3)),(5,.v (vP 4)),(6,.v (vI ((q1.i:Nat):Int))),(7,.v (vP 6)),(8,.v (vI ((q2.k:Nat):Int)))],fun q2=>[.cells [.seq .shp r.msgs],.cells [.nil],.cells [.int .i64 0,.int .i64 0,.int .i64 0],.cells [.int .i64 0,.int .i64 0,.int .i64 0],.cells [.own 5],.tree q1.shapes,.cells [.int .i64 q2.x.id,.own 7],.lst .fld q2.x.fields],fun q2=>q2.k≤List.length x1.fields∧(q2.x).id=x1.id∧List.length (q2.x).fields=q2.k∧∀f∈(q2.x).fields,Arh (List.length r.msgs) f,fun q2=>List.length x1.fields-q2.k⟩
theorem Aif (r:Raw) (hp1:RawK (List.length (r).msgs) (r).msgs): ∃o:N8,Sy r o:=by
 have hN:Be=274877906944:=rfl
 have hpos:=hp1.pos
 refine Cc Tryz.func192 Q4 Q4 (w:=let zi:Int→C:= .int .i64;let z11:=((List.length r.msgs:Nat):Int);let z12:=Mb r;(.seg [.call [] (.v (.agg [zi 0,zi 0,zi 0])) [],.br false,.tyT,.at 0,.keep [1,2,3,4,5,6],.sel [0,1,2,3,5,4]] (.loop z12 fun q1=> .br (.intro (fun (x1:Shp)=>r.msgs[q1.i]? =some x1) fun x1=> .seg [.el .shp x1,.at 0,.mk 6 1 .fld,.keep [1,2,3,4,5,6,7,8],.sel [0,1,2,3,4,5,6,7]] (.loop (F9 r q1 x1) fun q2=> .seg [.el .shp x1] (.br (.seg [.el .shp x1] (.intro (fun (x2:Fld)=>x1.fields[q2.k]? =some x2) fun x2=>let z1:=((Wa (r).msgs x2.msg:Nat):Int);.seg [.el .fld x2] (.br (.seg [.call [] (.v (vI z1)) []] (.intro (Xp q2.x.fields (⟨x2.number,x2.kind,x2.rep,x2.packed,z1⟩:Fld)) fun o1=> .seg [.call [] (.v (vO 0)) [.lst .fld o1.o],.as 47 (.v (vI (((q2.k:Nat):Int)+1))),.at 0,.keep [1,2,3,4,5,6,7,8],.sel [0,1,2,3,4,5,6,10]] (.next))) (.intro (Xp q2.x.fields (⟨x2.number,x2.kind,x2.rep,x2.packed,(-1)⟩:Fld)) fun o1=> .seg [.call [] (.v (vO 0)) [.lst .fld o1.o],.as 47 (.v (vI (((q2.k:Nat):Int)+1))),.at 0,.keep [1,2,3,4,5,6,7,8],.sel [0,1,2,3,4,5,6,10]] (.next))))) (.intro (fun (x2:Shp)=>q1.shapes[Wa (r).msgs q2.x.id]? =some x2) fun x2=> .seg [.ord [(0,true),(1,true),(2,true),(3,true),(4,true),(6,true),(5,false),(7,true),(8,false)] [],.call [] (.v (vI ((Wa (r).msgs q2.x.id:Nat):Int))) [],.el .shp x2,.as 29 (.v (vI (((q1.i:Nat):Int)+1))),.at 0,.keep [1,2,3,4,5,6],.sel [0,1,2,3,4,5]] (.next))))) (.seg [.ord (os 4 [2,3]) [1]] (.leaf (⟨q1.shapes⟩:N8) [5]))),(Fun Tryz.prog 209 [.agg [.seq .shp r.msgs]] [] (.v (.agg [zi 0,zi 0,zi 0])) [])∧((!decide (0=0))=false)∧(z11≤9223372036854775807)∧(((32:Nat):Int)*z11≤281474976710656)∧(z11≤z11)∧((0:Int)≤z11)∧z12.Has [(1,.v (vP 0)),(2,.v (vP 1)),(3,.v (vP 2)),(4,.v (vP 3)),(5,.v (vP 4)),(6,.v (vI 0))] [.cells [.seq .shp r.msgs],.cells [.nil],.cells [zi 0,zi 0,zi 0],.cells [zi 0,zi 0,zi 0],.cells [.own 5],.tree (List.replicate (List.length r.msgs) (⟨0,([]:List Fld)⟩:Shp))]∧∀q1,z12.inv q1→(let z10:=((q1.i:Nat):Int);((decide (z10<z11))=true→(∃(x1:Shp),r.msgs[q1.i]? =some x1)∧∀(x1:Shp),(r.msgs[q1.i]? =some x1)→(let z7:=F9 r q1 x1;let z8:=r.msgs[q1.i]? =some x1;let z9:=((List.length x1.fields:Nat):Int);z8∧((0:Int)≤z10)∧z7.Has [(1,.v (vP 0)),(2,.v (vP 1)),(3,.v (vP 2)),(4,.v (vP 3)),(5,.v (vP 4)),(6,.v (vI z10)),(7,.v (vP 6)),(8,.v (vI 0))] [.cells [.seq .shp r.msgs],.cells [.nil],.cells [zi 0,zi 0,zi 0],.cells [zi 0,zi 0,zi 0],.cells [.own 5],.tree q1.shapes,.cells [zi x1.id,.own 7],.lst .fld ([]:List Fld)]∧∀q2,z7.inv q2→(let z5:=((q2.k:Nat):Int);let z6:=((Wa (r).msgs q2.x.id:Nat):Int);z8∧((0:Int)≤z10)∧((decide (z5<z9))=true→z8∧((0:Int)≤z10)∧(∃(x2:Fld),x1.fields[q2.k]? =some x2)∧∀(x2:Fld),(x1.fields[q2.k]? =some x2)→(let z3:=(⟨x2.number,x2.kind,x2.rep,x2.packed,(-1)⟩:Fld);let z4:=((Wa (r).msgs x2.msg:Nat):Int);let z2:=(⟨x2.number,x2.kind,x2.rep,x2.packed,z4⟩:Fld);(x1.fields[q2.k]? =some x2)∧((0:Int)≤z5)∧((decide (x2.kind=8))=true→(Fun Tryz.prog 210 [.agg [.seq .shp r.msgs],vI x2.msg] [] (.v (vI z4)) [])∧In (Xp q2.x.fields z2) fun o1=>((Adj q2.x.fields z2 o1)∧((.v (vI (IntKind.i64.wrap (z5+1))):S)= .v (vI (z5+1)))∧z7.Nxt q2 [(1,.v (vP 0)),(2,.v (vP 1)),(3,.v (vP 2)),(4,.v (vP 3)),(5,.v (vP 4)),(6,.v (vI z10)),(7,.v (vP 6)),(8,.v (vI (z5+1)))] [.cells [.seq .shp r.msgs],.cells [.nil],.cells [zi 0,zi 0,zi 0],.cells [zi 0,zi 0,zi 0],.cells [.own 5],.tree q1.shapes,.cells [zi q2.x.id,.own 7],.lst .fld o1.o]))∧((decide (x2.kind=8))=false→In (Xp q2.x.fields z3) fun o1=>((Adj q2.x.fields z3 o1)∧((.v (vI (IntKind.i64.wrap (z5+1))):S)= .v (vI (z5+1)))∧z7.Nxt q2 [(1,.v (vP 0)),(2,.v (vP 1)),(3,.v (vP 2)),(4,.v (vP 3)),(5,.v (vP 4)),(6,.v (vI z10)),(7,.v (vP 6)),(8,.v (vI (z5+1)))] [.cells [.seq .shp r.msgs],.cells [.nil],.cells [zi 0,zi 0,zi 0],.cells [zi 0,zi 0,zi 0],.cells [.own 5],.tree q1.shapes,.cells [zi q2.x.id,.own 7],.lst .fld o1.o]))))∧((decide (z5<z9))=false→(∃(x2:Shp),q1.shapes[Wa (r).msgs q2.x.id]? =some x2)∧∀(x2:Shp),(q1.shapes[Wa (r).msgs q2.x.id]? =some x2)→((Fun Tryz.prog 210 [.agg [.seq .shp r.msgs],vI q2.x.id] [] (.v (vI z6)) [])∧(z6<((List.length q1.shapes:Nat):Int))∧((0:Int)≤z6)∧(q1.shapes[Wa (r).msgs q2.x.id]? =some x2)∧((.v (vI (IntKind.i64.wrap (z10+1))):S)= .v (vI (z10+1)))∧z12.Nxt q1 [(1,.v (vP 0)),(2,.v (vP 1)),(3,.v (vP 2)),(4,.v (vP 3)),(5,.v (vP 4)),(6,.v (vI (z10+1)))] [.cells [.seq .shp r.msgs],.cells [.nil],.cells [zi 0,zi 0,zi 0],.cells [zi 0,zi 0,zi 0],.cells [.own 5],.tree (List.set q1.shapes (Wa (r).msgs q2.x.id) (⟨q2.x.id,q2.x.fields⟩:Shp))])))))∧((decide (z10<z11))=false→((SchG q1.shapes))∧(.tup [.agg [.own 0],.agg [zi 0,zi 0,zi 0]]:S)= .tup [.agg [.own 0],.agg [zi 0,zi 0,zi 0]]∧([.tree q1.shapes]:List Blk)=[.tree q1.shapes])))) Q4 ?_
 refine⟨(Aoc r Q2),Q26,Q2,Q2,Q2,Q2,Bs (j:=(⟨List.replicate (List.length r.msgs) (⟨0,([]:List Fld)⟩:Shp),0⟩:J5)) Q9 rfl (by dsimp only[Mb];exact⟨by omega,by simp,fun e he=>Aks he⟩),fun (q1:J5) hq_q1=>?_⟩
 have hi_q1:q1.i≤List.length r.msgs∧List.length q1.shapes=List.length r.msgs∧∀e∈q1.shapes,Am9 (List.length r.msgs) e.fields:=hq_q1
 obtain ⟨v1,v2,v3⟩:=hi_q1
 refine dsp (fun h1 p1=>?_) fun h1 p1=>?_
 refine⟨(Bq (l:=r.msgs) (i:=q1.i) Q2),fun x1 hx1=>?_⟩
 have hfg:=hp1.flds _ (List.mem_of_getElem? hx1)
 have hfl:=hfg.len
 have hmi:x1.id∈Hw r.msgs:=List.mem_map.2 ⟨_,List.mem_of_getElem? hx1,rfl⟩
 have hrl:=Aia hmi
 refine⟨hx1,Q2,Bs (j:=(⟨(⟨x1.id,([]:List Fld)⟩:Shp),0⟩:J6)) Q9 Q9 (by dsimp only[F9];exact⟨by omega,rfl,rfl,fun f hf=>by cases hf⟩),fun (q2:J6) hq_q2=>?_⟩
 have hi_q2:q2.k≤List.length x1.fields∧(q2.x).id=x1.id∧List.length (q2.x).fields=q2.k∧∀f∈(q2.x).fields,Arh (List.length r.msgs) f:=hq_q2
 obtain ⟨w1,w2,w3,w4⟩:=hi_q2
 refine⟨hx1,Q2,dsp (fun h2 p2=>?_) fun h2 p2=>?_⟩
 refine⟨hx1,Q2,(Bq (l:=x1.fields) (i:=q2.k) Q2),fun x2 hx2=>?_⟩
 have hg:=hfg.all _ (List.mem_of_getElem? hx2)
 have hgk:=hg.kd
 refine⟨hx2,Q2,dsp (fun h3 p3=>?_) fun h3 p3=>?_⟩
 have hir:=Aia (hg.ref (by omega))
 refine⟨(Ana r _ Q2),(Apx q2.x.fields (⟨x2.number,x2.kind,x2.rep,x2.packed,((Wa (r).msgs x2.msg:Nat):Int)⟩:Fld) Q2),fun o1 ho_o1=>?_⟩
 obtain ⟨⟨hp_o1_0,hp_o1_1⟩,hf_o1⟩:=ho_o1
 exact⟨hf_o1,(Ac Q2 Q2),Bc (j:=(⟨(⟨q2.x.id,o1.o⟩:Shp),q2.k+1⟩:J6)) Q9 Q9 (by dsimp only[F9];exact⟨by omega,w2,by omega,fun f hf=>by
          rcases hp_o1_1 f hf with rfl|hf
          ·exact⟨by dsimp only;omega,by dsimp only;omega,fun h8=>by dsimp only at h8 ⊢;omega⟩
          ·exact w4 f hf⟩) (by dsimp only[F9];omega)⟩
 refine⟨(Apx q2.x.fields (⟨x2.number,x2.kind,x2.rep,x2.packed,(-1)⟩:Fld) Q2),fun o1 ho_o1=>?_⟩
 obtain ⟨⟨hp_o1_0,hp_o1_1⟩,hf_o1⟩:=ho_o1
 exact⟨hf_o1,(Ac Q2 Q2),Bc (j:=(⟨(⟨q2.x.id,o1.o⟩:Shp),q2.k+1⟩:J6)) Q9 Q9 (by dsimp only[F9];exact⟨by omega,w2,by omega,fun f hf=>by
          rcases hp_o1_1 f hf with rfl|hf
          ·exact⟨by dsimp only;omega,by dsimp only;omega,fun h8=>by dsimp only at h8 ⊢;omega⟩
          ·exact w4 f hf⟩) (by dsimp only[F9];omega)⟩
 have hxg:Am9 (List.length r.msgs) q2.x.fields:=⟨by omega,w4⟩
 have hrx:Wa r.msgs q2.x.id<List.length r.msgs:=by rw[w2];exact hrl
 refine⟨(Bq (l:=q1.shapes) (i:=Wa (r).msgs q2.x.id) Q2),fun x2 hx2=>?_⟩
 exact⟨(Ana r _ Q2),Q2,Q2,hx2,(Ac Q2 Q2),Bc (j:=(⟨List.set q1.shapes (Wa (r).msgs q2.x.id) (⟨q2.x.id,q2.x.fields⟩:Shp),q1.i+1⟩:J5)) Q9 rfl (by dsimp only[Mb];exact⟨by omega,by rw[List.length_set];exact v2,fun e he=>Akt v3 hxg he⟩) (by dsimp only[Mb];omega)⟩
 have hsg:SchG q1.shapes:=⟨by omega,fun e he=>by rw[v2];exact v3 e he⟩
 exact⟨(hsg),rfl,rfl⟩
end Go.Proofs.YtcmnedgnppnhoaaGreat.Ax
