/- Schemas. Events. Decoders: what is valid. Decoders: what is valid, more. Decoders: what is valid, Ahq. Decoders: what is valid, at last. -/
import Derived.Test.YtcmnedgnppnhoaaGreatKS1
set_option linter.unusedSimpArgs false
set_option linter.unusedVariables false
namespace Go.Proofs.YtcmnedgnppnhoaaGreat.Ax
open Go.RowKit
theorem Am3 (f:Fld) (before:Int) (n:Int) (hp1:(0:Int)≤n∧n≤1000):Fun Tryz.prog 158 [.agg (F2 f),vI before,vI n] [] (.v (vB (decide (before<(f).number)&&Hv f n))) []:=by
 have hN:Bf=274877906944:=rfl
 refine Aq Tryz.func158 Q4 Q4 (w:=let z1:=vB (decide (before<(f).number)&&Hv f n);let z2:=vB (Am f.msg 0 (n-1));let z4:=([]:List Blk);let z5:=(.v (vB false):S);let z6:=(.v (vI (IntKind.i64.wrap (n-1))):S)= .v (vI (n-1));let z7:=Dk f.number;let z8:=C6 f.kind;let z9:=Ey f.kind;let z10:=decide (f.kind=8);let z3:=z10=false→(.v (vB (decide (f.msg=(-1)))):S)= .v z1∧z4=[];(.seg [.call [] (.v (vB z7)) []] (.br (.leaf () []) (.br (.leaf () []) (.seg [.call [] (.v (vB z9)) []] (.br (.leaf () []) (.br (.br (.leaf () []) (.seg [.call [] (.v (vB z8)) []] (.br (.leaf () []) (.br (.seg [.as 45 (.v (vI (n-1))),.call [] (.v z2) []] (.leaf () [])) (.leaf () []))))) (.br (.seg [.as 45 (.v (vI (n-1))),.call [] (.v z2) []] (.leaf () [])) (.leaf () []))))))),(Fun Tryz.prog 194 [vI f.number] [] (.v (vB z7)) [])∧((!z7)=true→z5= .v z1∧z4=[])∧((!z7)=false→((decide (f.number≤before))=true→z5= .v z1∧z4=[])∧((decide (f.number≤before))=false→(Fun Tryz.prog 195 [vI f.kind] [] (.v (vB z9)) [])∧((!z9)=true→z5= .v z1∧z4=[])∧((!z9)=false→(f.packed=true→((!f.rep)=true→z5= .v z1∧z4=[])∧((!f.rep)=false→(Fun Tryz.prog 185 [vI f.kind] [] (.v (vB z8)) [])∧((!z8)=true→z5= .v z1∧z4=[])∧((!z8)=false→(z10=true→z6∧(Fun Tryz.prog 79 [vI f.msg,vI 0,vI (n-1)] [] (.v z2) [])∧(.v z2:S)= .v z1∧z4=[])∧z3)))∧(f.packed=false→(z10=true→z6∧(Fun Tryz.prog 79 [vI f.msg,vI 0,vI (n-1)] [] (.v z2) [])∧(.v z2:S)= .v z1∧z4=[])∧z3)))))) Q4 ?_
 refine⟨(Aen _),fun h1=>have q1:=Ap h1;?_,fun h1=>have q1:=An h1;?_⟩
 refine⟨(sB ?_),rfl⟩
 rotate_left
 refine dsp (fun h2 p2=>?_) fun h2 p2=>?_
 refine⟨(sB ?_),rfl⟩
 rotate_left
 refine⟨(Adi _),fun h3=>have q3:=Ap h3;have p3:=A0 q3;?_,fun h3=>have q3:=An h3;have p3:=As q3;?_⟩
 refine⟨(sB ?_),rfl⟩
 rotate_left
 refine⟨fun h4=>?_,fun h4=>?_⟩
 refine⟨fun h5=>have q5:=Ap h5;?_,fun h5=>have q5:=An h5;?_⟩
 refine⟨(sB ?_),rfl⟩
 rotate_left
 refine⟨(Aaq _),fun h6=>have q6:=Ap h6;have p6:=A0 q6;?_,fun h6=>have q6:=An h6;have p6:=As q6;?_⟩
 refine⟨(sB ?_),rfl⟩
 rotate_left
 refine dsp (fun h7 p7=>?_) fun h7 p7=>?_
 refine⟨(Ae Q2 Q2),(Cc _ _ _),(sB ?_),rfl⟩
 rotate_left
 refine⟨(sB ?_),rfl⟩
 rotate_left
 refine dsp (fun h5 p5=>?_) fun h5 p5=>?_
 refine⟨(Ae Q2 Q2),(Cc _ _ _),(sB ?_),rfl⟩
 rotate_left
 refine⟨(sB ?_),rfl⟩
 rotate_left
 all_goals first|(simp[Hv, *];done)|(simp_all[Hv];done)|(simp_all[Hv];omega)|(rw[Bool.eq_iff_iff];simp_all[Hv];omega)
theorem Tp (s:List Shp) (f:Fld) (hp1:s.length≤1000):Fun Tryz.prog 155 [.agg [.seq .shp s],.agg (F2 f)] [] (.v (vB (Hv f (s.length:Int)))) []:=by
 have hN:Bf=274877906944:=rfl
 refine Aq Tryz.func155 Q4 Q4 (w:=let z1:=(s.length:Int);let z2:=vB (Am f.msg 0 (z1-1));let z4:=vB (Hv f z1);let z5:=([]:List Blk);let z6:=(.v (vI (IntKind.i64.wrap (z1-1))):S)= .v (vI (z1-1));let z7:=Dk f.number;let z8:=(.v (vB false):S);let z9:=C6 f.kind;let z10:=Ey f.kind;let z11:=decide (f.kind=8);let z3:=z11=false→(.v (vB (decide (f.msg=(-1)))):S)= .v z4∧z5=[];(.seg [.call [] (.v (vB z7)) []] (.br (.leaf () []) (.seg [.call [] (.v (vB z10)) []] (.br (.leaf () []) (.br (.br (.leaf () []) (.seg [.call [] (.v (vB z9)) []] (.br (.leaf () []) (.br (.seg [.as 38 (.v (vI (z1-1))),.call [] (.v z2) []] (.leaf () [])) (.leaf () []))))) (.br (.seg [.as 38 (.v (vI (z1-1))),.call [] (.v z2) []] (.leaf () [])) (.leaf () [])))))),(Fun Tryz.prog 191 [vI f.number] [] (.v (vB z7)) [])∧((!z7)=true→z8= .v z4∧z5=[])∧((!z7)=false→(Fun Tryz.prog 134 [vI f.kind] [] (.v (vB z10)) [])∧((!z10)=true→z8= .v z4∧z5=[])∧((!z10)=false→(f.packed=true→((!f.rep)=true→z8= .v z4∧z5=[])∧((!f.rep)=false→(Fun Tryz.prog 135 [vI f.kind] [] (.v (vB z9)) [])∧((!z9)=true→z8= .v z4∧z5=[])∧((!z9)=false→(z11=true→z6∧(Fun Tryz.prog 59 [vI f.msg,vI 0,vI (z1-1)] [] (.v z2) [])∧(.v z2:S)= .v z4∧z5=[])∧z3)))∧(f.packed=false→(z11=true→z6∧(Fun Tryz.prog 59 [vI f.msg,vI 0,vI (z1-1)] [] (.v z2) [])∧(.v z2:S)= .v z4∧z5=[])∧z3))))) Q4 ?_
 refine⟨(X7 _),fun h1=>have q1:=Ap h1;?_,fun h1=>have q1:=An h1;?_⟩
 refine⟨(sB ?_),rfl⟩
 rotate_left
 refine⟨(Va _),fun h2=>have q2:=Ap h2;have p2:=A0 q2;?_,fun h2=>have q2:=An h2;have p2:=As q2;?_⟩
 refine⟨(sB ?_),rfl⟩
 rotate_left
 refine⟨fun h3=>?_,fun h3=>?_⟩
 refine⟨fun h4=>have q4:=Ap h4;?_,fun h4=>have q4:=An h4;?_⟩
 refine⟨(sB ?_),rfl⟩
 rotate_left
 refine⟨(Lx _),fun h5=>have q5:=Ap h5;have p5:=A0 q5;?_,fun h5=>have q5:=An h5;have p5:=As q5;?_⟩
 refine⟨(sB ?_),rfl⟩
 rotate_left
 refine dsp (fun h6 p6=>?_) fun h6 p6=>?_
 refine⟨(Ae Q2 Q2),(Be _ _ _),(sB ?_),rfl⟩
 rotate_left
 refine⟨(sB ?_),rfl⟩
 rotate_left
 refine dsp (fun h4 p4=>?_) fun h4 p4=>?_
 refine⟨(Ae Q2 Q2),(Be _ _ _),(sB ?_),rfl⟩
 rotate_left
 refine⟨(sB ?_),rfl⟩
 rotate_left
 all_goals first|(simp[Hv, *];done)|(simp_all[Hv];done)|(simp_all[Hv];omega)|(rw[Bool.eq_iff_iff];simp_all[Hv];omega)
structure Gu where
 id:Int
 v:Nat
def Jo (s:List Shp):Fam:=⟨Gu,fun q1=>[(1,.v (vP 0)),(3,.v (vI q1.id)),(14,.v (.c (.seq .shp s))),(15,.v (vI (s.length:Int))),(16,.v (vI (q1.v:Int)))],fun _=>[.cells [.seq .shp s]],fun q1=>q1.v≤s.length∧Ec (s.length:Int) q1.id (List.drop q1.v s)=Ec (s.length:Int) 0 s,fun q1=>s.length-q1.v⟩
structure Jp where
 number:Int
 v:Nat
def Gv (s:List Shp) (q1:Gu) (x1:Shp):Fam:=⟨Jp,fun q2=>[(1,.v (vP 0)),(5,.v (vP 1)),(6,.v (vI q2.number)),(14,.v (.c (.seq .shp s))),(15,.v (vI (s.length:Int))),(16,.v (vI (q1.v:Int))),(36,.v (.c (.seq .fld x1.fields))),(37,.v (vI (x1.fields.length:Int))),(38,.v (vI (q2.v:Int)))],fun _=>[.cells [.seq .shp s],.cells (Ak4 x1)],fun q2=>q2.v≤x1.fields.length∧C2 (s.length:Int) q2.number (List.drop q2.v x1.fields)=C2 (s.length:Int) 0 x1.fields,fun q2=>x1.fields.length-q2.v⟩
theorem Aeq (s:List Shp):Fun Tryz.prog 105 [.agg [.seq .shp s]] [] (.v (vB (Dm s))) []:=by
 have hN:Bf=274877906944:=rfl
 refine Aq Tryz.func105 Q4 Q4 (w:=let z7:=(s.length:Int);let z8:=vB (Dm s);let z9:=(.v (vB false):S);let z10:=([]:List Blk);let z11:=Jo s;(.br (.leaf () []) (.seg [.at 0,.keep [1,3,14,15,16],.sel [0]] (.loop z11 fun q1=> .br (.intro (fun (x1:Shp)=>s[q1.v]? =some x1) fun x1=> .seg [.el .shp x1] (.br (.leaf () []) (.br (.leaf () []) (.br (.leaf () []) (.seg [.at 0,.keep [1,5,6,14,15,16,36,37,38],.sel [0,1]] (.loop (Gv s q1 x1) fun q2=> .br (.intro (fun (x2:Fld)=>x1.fields[q2.v]? =some x2) fun x2=> .seg [.el .fld x2,.call [] (.v (vB (decide (q2.number<(x2).number)&&Hv x2 z7))) []] (.br (.leaf () []) (.seg [.as 51 (.v (vI ((q2.v:Int)+1))),.at 0,.keep [1,5,6,14,15,16,36,37,38],.sel [0,1]] (.next)))) (.seg [.as 54 (.v (vI ((q1.v:Int)+1))),.at 0,.keep [1,3,14,15,16],.sel [0]] (.next)))))))) (.leaf () []))),((decide (6<z7))=true→z9= .v z8∧z10=[])∧((decide (6<z7))=false→z11.Has [(1,.v (vP 0)),(3,.v (vI 0)),(14,.v (.c (.seq .shp s))),(15,.v (vI z7)),(16,.v (vI 0))] [.cells [.seq .shp s]]∧∀q1,z11.inv q1→(let z6:=(q1.v:Int);((decide (z6<z7))=true→(∃(x1:Shp),s[q1.v]? =some x1)∧∀(x1:Shp),(s[q1.v]? =some x1)→(let z3:=(x1.fields.length:Int);let z4:=Gv s q1 x1;let z5:List Blk:=[.cells [.seq .shp s],.cells (Ak4 x1)];(s[q1.v]? =some x1)∧((0:Int)≤z6)∧((decide (x1.id≤q1.id))=true→z9= .v z8∧z10=[])∧((decide (x1.id≤q1.id))=false→((decide (99<x1.id))=true→z9= .v z8∧z10=[])∧((decide (99<x1.id))=false→((decide (8<z3))=true→z9= .v z8∧z10=[])∧((decide (8<z3))=false→z4.Has [(1,.v (vP 0)),(5,.v (vP 1)),(6,.v (vI 0)),(14,.v (.c (.seq .shp s))),(15,.v (vI z7)),(16,.v (vI z6)),(36,.v (.c (.seq .fld x1.fields))),(37,.v (vI z3)),(38,.v (vI 0))] z5∧∀q2,z4.inv q2→(let z2:=(q2.v:Int);((decide (z2<z3))=true→(∃(x2:Fld),x1.fields[q2.v]? =some x2)∧∀(x2:Fld),(x1.fields[q2.v]? =some x2)→(let z1:=decide (q2.number<(x2).number)&&Hv x2 z7;(x1.fields[q2.v]? =some x2)∧((0:Int)≤z2)∧(Fun Tryz.prog 158 [.agg (F2 x2),vI q2.number,vI z7] [] (.v (vB z1)) [])∧((!z1)=true→z9= .v z8∧z10=[])∧((!z1)=false→((.v (vI (IntKind.i64.wrap (z2+1))):S)= .v (vI (z2+1)))∧z4.Nxt q2 [(1,.v (vP 0)),(5,.v (vP 1)),(6,.v (vI x2.number)),(14,.v (.c (.seq .shp s))),(15,.v (vI z7)),(16,.v (vI z6)),(36,.v (.c (.seq .fld x1.fields))),(37,.v (vI z3)),(38,.v (vI (z2+1)))] z5)))∧((decide (z2<z3))=false→((.v (vI (IntKind.i64.wrap (z6+1))):S)= .v (vI (z6+1)))∧z11.Nxt q1 [(1,.v (vP 0)),(3,.v (vI x1.id)),(14,.v (.c (.seq .shp s))),(15,.v (vI z7)),(16,.v (vI (z6+1)))] [.cells [.seq .shp s]])))))))∧((decide (z6<z7))=false→(.v (vB true):S)= .v z8∧z10=[]))))) Q4 ?_
 refine dsp (fun h1 p1=>?_) fun h1 p1=>?_
 refine⟨(sB ?_),rfl⟩
 rotate_left
 refine⟨Bi (j:=(⟨0,0⟩:Gu)) Q10 rfl (by dsimp only[Jo];exact⟨by omega,rfl⟩),fun (q1:Gu) hq_q1=>?_⟩
 have hi_q1:q1.v≤s.length∧Ec (s.length:Int) q1.id (List.drop q1.v s)=Ec (s.length:Int) 0 s:=hq_q1
 obtain ⟨v1,v2⟩:=hi_q1
 refine dsp (fun h2 p2=>?_) fun h2 p2=>?_
 refine⟨(Bh (l:=s) (i:=q1.v) Q2),fun x1 hx1=>?_⟩
 rw[C9 hx1,Ec] at v2
 refine⟨hx1,Q2,dsp (fun h3 p3=>?_) fun h3 p3=>?_⟩
 refine⟨(sB ?_),rfl⟩
 rotate_left
 refine dsp (fun h4 p4=>?_) fun h4 p4=>?_
 refine⟨(sB ?_),rfl⟩
 rotate_left
 refine dsp (fun h5 p5=>?_) fun h5 p5=>?_
 refine⟨(sB ?_),rfl⟩
 rotate_left
 refine⟨Bi (j:=(⟨0,0⟩:Jp)) Q10 rfl (by dsimp only[Gv];exact⟨by omega,rfl⟩),fun (q2:Jp) hq_q2=>?_⟩
 have hi_q2:q2.v≤x1.fields.length∧C2 (s.length:Int) q2.number (List.drop q2.v x1.fields)=C2 (s.length:Int) 0 x1.fields:=hq_q2
 obtain ⟨w1,w2⟩:=hi_q2
 refine dsp (fun h6 p6=>?_) fun h6 p6=>?_
 refine⟨(Bh (l:=x1.fields) (i:=q2.v) Q2),fun x2 hx2=>?_⟩
 rw[C9 hx2,C2] at w2
 refine⟨hx2,Q2,(Am3 x2 _ _ Q2),fun h7=>have q7:=Ap h7;have p7:=(Ch dT Iff.rfl).1 q7;?_,fun h7=>have q7:=An h7;have p7:=(Cg dT Iff.rfl).1 q7;?_⟩
 refine⟨(sB ?_),rfl⟩
 rotate_left
 exact⟨(Ae Q2 Q2),A5 (j:=(⟨x2.number,q2.v+1⟩:Jp)) Q10 rfl (by dsimp only[Gv];exact⟨by omega,by grind[C2]⟩) (by dsimp only[Gv];omega)⟩
 rw[K0 p6] at w2
 exact⟨(Ae Q2 Q2),A5 (j:=(⟨x1.id,q1.v+1⟩:Gu)) Q10 rfl (by dsimp only[Jo];exact⟨by omega,by grind[Ec,C2]⟩) (by dsimp only[Jo];omega)⟩
 rw[K0 p2] at v2
 refine⟨(sB ?_),rfl⟩
 rotate_left
 all_goals grind[Dm,Ec,C2]
structure Fn where
 i:Nat
 pv:Int
def Gw (s:List Shp):Fam:=⟨Fn,fun q1=>[(1,.v (vP 0)),(3,.v (vI (q1.i:Int)))],fun _=>[.cells [.seq .shp s]],fun q1=>q1.i≤s.length∧(0:Int)≤q1.pv∧(q1.i=0→q1.pv=0)∧(∀y,0<q1.i→s[Int.toNat ((q1.i:Int)-1)]? =some y→q1.pv=y.id)∧Ec (s.length:Int) q1.pv (List.drop q1.i s)=Ec (s.length:Int) 0 s,fun q1=>s.length-q1.i⟩
structure Do where
 k:Nat
 pv:Int
def C3 (s:List Shp) (q1:Fn) (x1:Shp):Fam:=⟨Do,fun q2=>[(1,.v (vP 0)),(3,.v (vI (q1.i:Int))),(4,.v (vP 1)),(5,.v (vI (q2.k:Int)))],fun _=>[.cells [.seq .shp s],.cells (Ak4 x1)],fun q2=>q2.k≤x1.fields.length∧(0:Int)≤q2.pv∧(q2.k=0→q2.pv=0)∧(∀y,0<q2.k→x1.fields[Int.toNat ((q2.k:Int)-1)]? =some y→q2.pv=y.number)∧C2 (s.length:Int) q2.pv (List.drop q2.k x1.fields)=C2 (s.length:Int) 0 x1.fields,fun q2=>x1.fields.length-q2.k⟩
theorem Aer (s:List Shp):Fun Tryz.prog 97 [.agg [.seq .shp s]] [] (.v (vB (Dm s))) []:=by
 have hN:Bf=274877906944:=rfl
 refine Aq Tryz.func97 Q4 Q4 (w:=let z25:=(s.length:Int);let z26:=(.v (vB false):S);let z27:=vB (Dm s);let z28:=([]:List Blk);let z29:=Gw s;let z30:=os 28 [6];let z31:List Blk:=[.cells [.seq .shp s]];(.br (.leaf () []) (.seg [.at 0,.keep [1,3],.sel [0]] (.loop z29 fun q1=>let z23:=(q1.i:Int);.br (.intro (fun (x1:Shp)=>s[q1.i]? =some x1) fun x1=>let z17:=Am x1.id 1 99;.seg [.el .shp x1] (.case (!z17) (.seg [.ord (os 26 [2]) [],.call [] (.v (vB z17)) [],.br true] (.leaf () [])) (.case (decide (0<z23)) (.intro (fun (x2:Shp)=>s[Int.toNat (z23-1)]? =some x2) fun x2=> .case (decide (x1.id≤x2.id)) (.seg [.ord (os 26 [2]) [],.call [] (.v (vB z17)) [],.br false,.br true,.as 33 (.v (vI (z23-1))),.el .shp x2,.br true] (.leaf () [])) (.seg [.ord (os 26 [2]) [],.call [] (.v (vB z17)) [],.br false,.br true,.as 33 (.v (vI (z23-1))),.el .shp x2,.br false] (.br (.leaf () []) (.seg [.at 0,.keep [1,3,4,5],.sel [0,1]] (.loop (C3 s q1 x1) fun q2=>let z6:=(q2.k:Int);.br (.intro (fun (x3:Fld)=>x1.fields[q2.k]? =some x3) fun x3=>let z3:=Hv x3 z25;.case (!z3) (.seg [.ord z30 [],.el .fld x3,.call [] (.v (vB z3)) [],.br true] (.leaf () [])) (.case (decide (0<z6)) (.intro (fun (x4:Fld)=>x1.fields[Int.toNat (z6-1)]? =some x4) fun x4=> .seg [.ord z30 [],.el .fld x3,.call [] (.v (vB z3)) [],.br false,.br true,.as 70 (.v (vI (z6-1))),.el .fld x4,.el .fld x3] (.br (.leaf () []) (.seg [.as 54 (.v (vI (z6+1))),.at 0,.keep [1,3,4,5],.sel [0,1]] (.next)))) (.seg [.ord z30 [],.el .fld x3,.call [] (.v (vB z3)) [],.br false,.br false,.as 54 (.v (vI (z6+1))),.at 0,.keep [1,3,4,5],.sel [0,1]] (.next)))) (.seg [.as 16 (.v (vI (z23+1))),.at 0,.keep [1,3],.sel [0]] (.next))))))) (.seg [.ord (os 26 [2]) [],.call [] (.v (vB z17)) [],.br false,.br false] (.br (.leaf () []) (.seg [.at 0,.keep [1,3,4,5],.sel [0,1]] (.loop (C3 s q1 x1) fun q2=>let z15:=(q2.k:Int);.br (.intro (fun (x2:Fld)=>x1.fields[q2.k]? =some x2) fun x2=>let z12:=Hv x2 z25;.case (!z12) (.seg [.ord z30 [],.el .fld x2,.call [] (.v (vB z12)) [],.br true] (.leaf () [])) (.case (decide (0<z15)) (.intro (fun (x3:Fld)=>x1.fields[Int.toNat (z15-1)]? =some x3) fun x3=> .seg [.ord z30 [],.el .fld x2,.call [] (.v (vB z12)) [],.br false,.br true,.as 70 (.v (vI (z15-1))),.el .fld x3,.el .fld x2] (.br (.leaf () []) (.seg [.as 54 (.v (vI (z15+1))),.at 0,.keep [1,3,4,5],.sel [0,1]] (.next)))) (.seg [.ord z30 [],.el .fld x2,.call [] (.v (vB z12)) [],.br false,.br false,.as 54 (.v (vI (z15+1))),.at 0,.keep [1,3,4,5],.sel [0,1]] (.next)))) (.seg [.as 16 (.v (vI (z23+1))),.at 0,.keep [1,3],.sel [0]] (.next))))))))) (.leaf () []))),((decide (6<z25))=true→z26= .v z27∧z28=[])∧((decide (6<z25))=false→z29.Has [(1,.v (vP 0)),(3,.v (vI 0))] z31∧∀q1,z29.inv q1→(let z24:=(q1.i:Int);((decide (z24<z25))=true→(∃(x1:Shp),s[q1.i]? =some x1)∧∀(x1:Shp),(s[q1.i]? =some x1)→(let z18:=(x1.fields.length:Int);let z19:List Blk:=[.cells [.seq .shp s],.cells (Ak4 x1)];let z20:=Am x1.id 1 99;let z21:=C3 s q1 x1;let z22:List V:=[vI x1.id,vI 1,vI 99];(s[q1.i]? =some x1)∧((0:Int)≤z24)∧((!z20)=true→(Fun Tryz.prog 59 z22 [] (.v (vB z20)) [])∧((!z20)=true)∧z26= .v z27∧z28=[])∧((!z20)=false→((decide (0<z24))=true→(∃(x2:Shp),s[Int.toNat (z24-1)]? =some x2)∧∀(x2:Shp),(s[Int.toNat (z24-1)]? =some x2)→(let z8:=s[Int.toNat (z24-1)]? =some x2;let z9:=decide (x1.id≤x2.id);(z9=true→(Fun Tryz.prog 59 z22 [] (.v (vB z20)) [])∧((!z20)=false)∧((decide (0<z24))=true)∧((.v (vI (IntKind.i64.wrap (z24-1))):S)= .v (vI (z24-1)))∧((.v (vI (IntKind.i64.wrap (z24-1))):S)= .v (vI (z24-1)))∧z8∧((0:Int)≤z24-1)∧z8∧((0:Int)≤z24-1)∧(z9=true)∧z26= .v z27∧z28=[])∧(z9=false→(Fun Tryz.prog 59 z22 [] (.v (vB z20)) [])∧((!z20)=false)∧((decide (0<z24))=true)∧((.v (vI (IntKind.i64.wrap (z24-1))):S)= .v (vI (z24-1)))∧((.v (vI (IntKind.i64.wrap (z24-1))):S)= .v (vI (z24-1)))∧z8∧((0:Int)≤z24-1)∧z8∧((0:Int)≤z24-1)∧(z9=false)∧((decide (8<z18))=true→z26= .v z27∧z28=[])∧((decide (8<z18))=false→z21.Has [(1,.v (vP 0)),(3,.v (vI z24)),(4,.v (vP 1)),(5,.v (vI 0))] z19∧∀q2,z21.inv q2→(let z7:=(q2.k:Int);((decide (z7<z18))=true→(∃(x3:Fld),x1.fields[q2.k]? =some x3)∧∀(x3:Fld),(x1.fields[q2.k]? =some x3)→(let z4:=Hv x3 z25;let z5:=x1.fields[q2.k]? =some x3;((!z4)=true→z5∧((0:Int)≤z7)∧z5∧((0:Int)≤z7)∧(Fun Tryz.prog 155 [.agg [.seq .shp s],.agg (F2 x3)] [] (.v (vB z4)) [])∧((!z4)=true)∧z26= .v z27∧z28=[])∧((!z4)=false→((decide (0<z7))=true→(∃(x4:Fld),x1.fields[Int.toNat (z7-1)]? =some x4)∧∀(x4:Fld),(x1.fields[Int.toNat (z7-1)]? =some x4)→(let z1:=x1.fields[Int.toNat (z7-1)]? =some x4;let z2:=decide (x3.number≤x4.number);z5∧((0:Int)≤z7)∧z5∧((0:Int)≤z7)∧(Fun Tryz.prog 155 [.agg [.seq .shp s],.agg (F2 x3)] [] (.v (vB z4)) [])∧((!z4)=false)∧((decide (0<z7))=true)∧((.v (vI (IntKind.i64.wrap (z7-1))):S)= .v (vI (z7-1)))∧((.v (vI (IntKind.i64.wrap (z7-1))):S)= .v (vI (z7-1)))∧z1∧((0:Int)≤z7-1)∧z1∧((0:Int)≤z7-1)∧z5∧((0:Int)≤z7)∧z5∧((0:Int)≤z7)∧(z2=true→z26= .v z27∧z28=[])∧(z2=false→((.v (vI (IntKind.i64.wrap (z7+1))):S)= .v (vI (z7+1)))∧z21.Nxt q2 [(1,.v (vP 0)),(3,.v (vI z24)),(4,.v (vP 1)),(5,.v (vI (z7+1)))] z19)))∧((decide (0<z7))=false→z5∧((0:Int)≤z7)∧z5∧((0:Int)≤z7)∧(Fun Tryz.prog 155 [.agg [.seq .shp s],.agg (F2 x3)] [] (.v (vB z4)) [])∧((!z4)=false)∧((decide (0<z7))=false)∧((.v (vI (IntKind.i64.wrap (z7+1))):S)= .v (vI (z7+1)))∧z21.Nxt q2 [(1,.v (vP 0)),(3,.v (vI z24)),(4,.v (vP 1)),(5,.v (vI (z7+1)))] z19))))∧((decide (z7<z18))=false→((.v (vI (IntKind.i64.wrap (z24+1))):S)= .v (vI (z24+1)))∧z29.Nxt q1 [(1,.v (vP 0)),(3,.v (vI (z24+1)))] z31))))))∧((decide (0<z24))=false→(Fun Tryz.prog 59 z22 [] (.v (vB z20)) [])∧((!z20)=false)∧((decide (0<z24))=false)∧((decide (8<z18))=true→z26= .v z27∧z28=[])∧((decide (8<z18))=false→z21.Has [(1,.v (vP 0)),(3,.v (vI z24)),(4,.v (vP 1)),(5,.v (vI 0))] z19∧∀q2,z21.inv q2→(let z16:=(q2.k:Int);((decide (z16<z18))=true→(∃(x2:Fld),x1.fields[q2.k]? =some x2)∧∀(x2:Fld),(x1.fields[q2.k]? =some x2)→(let z13:=Hv x2 z25;let z14:=x1.fields[q2.k]? =some x2;((!z13)=true→z14∧((0:Int)≤z16)∧z14∧((0:Int)≤z16)∧(Fun Tryz.prog 155 [.agg [.seq .shp s],.agg (F2 x2)] [] (.v (vB z13)) [])∧((!z13)=true)∧z26= .v z27∧z28=[])∧((!z13)=false→((decide (0<z16))=true→(∃(x3:Fld),x1.fields[Int.toNat (z16-1)]? =some x3)∧∀(x3:Fld),(x1.fields[Int.toNat (z16-1)]? =some x3)→(let z10:=x1.fields[Int.toNat (z16-1)]? =some x3;let z11:=decide (x2.number≤x3.number);z14∧((0:Int)≤z16)∧z14∧((0:Int)≤z16)∧(Fun Tryz.prog 155 [.agg [.seq .shp s],.agg (F2 x2)] [] (.v (vB z13)) [])∧((!z13)=false)∧((decide (0<z16))=true)∧((.v (vI (IntKind.i64.wrap (z16-1))):S)= .v (vI (z16-1)))∧((.v (vI (IntKind.i64.wrap (z16-1))):S)= .v (vI (z16-1)))∧z10∧((0:Int)≤z16-1)∧z10∧((0:Int)≤z16-1)∧z14∧((0:Int)≤z16)∧z14∧((0:Int)≤z16)∧(z11=true→z26= .v z27∧z28=[])∧(z11=false→((.v (vI (IntKind.i64.wrap (z16+1))):S)= .v (vI (z16+1)))∧z21.Nxt q2 [(1,.v (vP 0)),(3,.v (vI z24)),(4,.v (vP 1)),(5,.v (vI (z16+1)))] z19)))∧((decide (0<z16))=false→z14∧((0:Int)≤z16)∧z14∧((0:Int)≤z16)∧(Fun Tryz.prog 155 [.agg [.seq .shp s],.agg (F2 x2)] [] (.v (vB z13)) [])∧((!z13)=false)∧((decide (0<z16))=false)∧((.v (vI (IntKind.i64.wrap (z16+1))):S)= .v (vI (z16+1)))∧z21.Nxt q2 [(1,.v (vP 0)),(3,.v (vI z24)),(4,.v (vP 1)),(5,.v (vI (z16+1)))] z19))))∧((decide (z16<z18))=false→((.v (vI (IntKind.i64.wrap (z24+1))):S)= .v (vI (z24+1)))∧z29.Nxt q1 [(1,.v (vP 0)),(3,.v (vI (z24+1)))] z31)))))))∧((decide (z24<z25))=false→(.v (vB true):S)= .v z27∧z28=[]))))) Q4 ?_
 refine dsp (fun h1 p1=>?_) fun h1 p1=>?_
 exact⟨(congrArg S.v (congrArg V.c (congrArg C.bool Q67))),rfl⟩
 refine⟨Bi (j:=(⟨0,0⟩:Fn)) Q10 rfl (by dsimp only[Gw];exact⟨by omega,by omega,by omega,by omega,rfl⟩),fun (q1:Fn) hq_q1=>?_⟩
 have hi_q1:q1.i≤s.length∧(0:Int)≤q1.pv∧(q1.i=0→q1.pv=0)∧(∀y,0<q1.i→s[Int.toNat ((q1.i:Int)-1)]? =some y→q1.pv=y.id)∧Ec (s.length:Int) q1.pv (List.drop q1.i s)=Ec (s.length:Int) 0 s:=hq_q1
 obtain ⟨v1,v2,v3,v4,v5⟩:=hi_q1
 refine dsp (fun h2 p2=>?_) fun h2 p2=>?_
 refine⟨(Bh (l:=s) (i:=q1.i) Q2),fun x1 hx1=>?_⟩
 rw[C9 hx1,Ec] at v5
 refine⟨hx1,Q2,fun h3=>have q3:=Ap h3;have p3:=A0 q3;?_,fun h3=>have q3:=An h3;have p3:=As q3;?_⟩
 exact⟨(Be _ _ _),h3,(congrArg S.v (congrArg V.c (congrArg C.bool Q67))),rfl⟩
 refine dsp (fun h4 p4=>?_) fun h4 p4=>?_
 refine⟨(Bh (l:=s) (i:=Int.toNat ((q1.i:Int)-1)) Q2),fun x2 hx2=>?_⟩
 have hy:=v4 _ (by omega) hx2
 refine dsp (fun h5 p5=>?_) fun h5 p5=>?_
 exact⟨(Be _ _ _),h3,h4,(Ae Q2 Q2),(Ae Q2 Q2),hx2,Q2,hx2,Q2,h5,(congrArg S.v (congrArg V.c (congrArg C.bool Q67))),rfl⟩
 refine⟨(Be _ _ _),h3,h4,(Ae Q2 Q2),(Ae Q2 Q2),hx2,Q2,hx2,Q2,h5,dsp (fun h6 p6=>?_) fun h6 p6=>?_⟩
 exact⟨(congrArg S.v (congrArg V.c (congrArg C.bool Q67))),rfl⟩
 refine⟨Bi (j:=(⟨0,0⟩:Do)) Q10 rfl (by dsimp only[C3];exact⟨by omega,by omega,by omega,by omega,rfl⟩),fun (q2:Do) hq_q2=>?_⟩
 have hi_q2:q2.k≤x1.fields.length∧(0:Int)≤q2.pv∧(q2.k=0→q2.pv=0)∧(∀y,0<q2.k→x1.fields[Int.toNat ((q2.k:Int)-1)]? =some y→q2.pv=y.number)∧C2 (s.length:Int) q2.pv (List.drop q2.k x1.fields)=C2 (s.length:Int) 0 x1.fields:=hq_q2
 obtain ⟨w1,w2,w3,w4,w5⟩:=hi_q2
 refine dsp (fun h7 p7=>?_) fun h7 p7=>?_
 refine⟨(Bh (l:=x1.fields) (i:=q2.k) Q2),fun x3 hx3=>?_⟩
 rw[C9 hx3,C2] at w5
 refine⟨fun h8=>have q8:=Ap h8;?_,fun h8=>have q8:=An h8;have p8:=V9 q8;?_⟩
 exact⟨hx3,Q2,hx3,Q2,(Tp s x3 Q2),h8,(congrArg S.v (congrArg V.c (congrArg C.bool Q67))),rfl⟩
 refine dsp (fun h9 p9=>?_) fun h9 p9=>?_
 refine⟨(Bh (l:=x1.fields) (i:=Int.toNat ((q2.k:Int)-1)) Q2),fun x4 hx4=>?_⟩
 have hz:=w4 _ (by omega) hx4
 refine⟨hx3,Q2,hx3,Q2,(Tp s x3 Q2),h8,h9,(Ae Q2 Q2),(Ae Q2 Q2),hx4,Q2,hx4,Q2,hx3,Q2,hx3,Q2,dsp (fun h10 p10=>?_) fun h10 p10=>?_⟩
 exact⟨(congrArg S.v (congrArg V.c (congrArg C.bool Q67))),rfl⟩
 exact⟨(Ae Q2 Q2),A5 (j:=(⟨q2.k+1,x3.number⟩:Do)) Q10 rfl Q56 (by dsimp only[C3];omega)⟩
 exact⟨hx3,Q2,hx3,Q2,(Tp s x3 Q2),h8,h9,(Ae Q2 Q2),A5 (j:=(⟨q2.k+1,x3.number⟩:Do)) Q10 rfl Q56 (by dsimp only[C3];omega)⟩
 rw[K0 p7,C2] at w5
 exact⟨(Ae Q2 Q2),A5 (j:=(⟨q1.i+1,x1.id⟩:Fn)) Q10 rfl Q47 (by dsimp only[Gw];omega)⟩
 refine⟨(Be _ _ _),h3,h4,dsp (fun h5 p5=>?_) fun h5 p5=>?_⟩
 exact⟨(congrArg S.v (congrArg V.c (congrArg C.bool Q67))),rfl⟩
 refine⟨Bi (j:=(⟨0,0⟩:Do)) Q10 rfl (by dsimp only[C3];exact⟨by omega,by omega,by omega,by omega,rfl⟩),fun (q2:Do) hq_q2=>?_⟩
 have hi_q2:q2.k≤x1.fields.length∧(0:Int)≤q2.pv∧(q2.k=0→q2.pv=0)∧(∀y,0<q2.k→x1.fields[Int.toNat ((q2.k:Int)-1)]? =some y→q2.pv=y.number)∧C2 (s.length:Int) q2.pv (List.drop q2.k x1.fields)=C2 (s.length:Int) 0 x1.fields:=hq_q2
 obtain ⟨w1,w2,w3,w4,w5⟩:=hi_q2
 refine dsp (fun h6 p6=>?_) fun h6 p6=>?_
 refine⟨(Bh (l:=x1.fields) (i:=q2.k) Q2),fun x2 hx2=>?_⟩
 rw[C9 hx2,C2] at w5
 refine⟨fun h7=>have q7:=Ap h7;?_,fun h7=>have q7:=An h7;have p7:=V9 q7;?_⟩
 exact⟨hx2,Q2,hx2,Q2,(Tp s x2 Q2),h7,(congrArg S.v (congrArg V.c (congrArg C.bool Q67))),rfl⟩
 refine dsp (fun h8 p8=>?_) fun h8 p8=>?_
 refine⟨(Bh (l:=x1.fields) (i:=Int.toNat ((q2.k:Int)-1)) Q2),fun x3 hx3=>?_⟩
 have hz:=w4 _ (by omega) hx3
 refine⟨hx2,Q2,hx2,Q2,(Tp s x2 Q2),h7,h8,(Ae Q2 Q2),(Ae Q2 Q2),hx3,Q2,hx3,Q2,hx2,Q2,hx2,Q2,dsp (fun h9 p9=>?_) fun h9 p9=>?_⟩
 exact⟨(congrArg S.v (congrArg V.c (congrArg C.bool Q67))),rfl⟩
 exact⟨(Ae Q2 Q2),A5 (j:=(⟨q2.k+1,x2.number⟩:Do)) Q10 rfl Q57 (by dsimp only[C3];omega)⟩
 exact⟨hx2,Q2,hx2,Q2,(Tp s x2 Q2),h7,h8,(Ae Q2 Q2),A5 (j:=(⟨q2.k+1,x2.number⟩:Do)) Q10 rfl Q57 (by dsimp only[C3];omega)⟩
 rw[K0 p6,C2] at w5
 exact⟨(Ae Q2 Q2),A5 (j:=(⟨q1.i+1,x1.id⟩:Fn)) Q10 rfl Q47 (by dsimp only[Gw];omega)⟩
 rw[K0 p2,Ec] at v5
 exact⟨(congrArg S.v (congrArg V.c (congrArg C.bool Q67))),rfl⟩
structure K6 where
 v:Nat
def Hw (n:Int) (x1:Shp):Fam:=⟨K6,fun q1=>[(2,.v (vI n)),(6,.v (vP 0)),(23,.v (.c (.seq .fld x1.fields))),(24,.v (vI (x1.fields.length:Int))),(25,.v (vI (q1.v:Int)))],fun _=>[.cells [.int .i64 0,.int .i64 0,.bool false,.bool false,.int .i64 0]],fun q1=>q1.v≤x1.fields.length∧F7 (List.drop q1.v x1.fields) n=F7 x1.fields n,fun q1=>x1.fields.length-q1.v⟩
theorem Wi (s:List Shp) (sh:Int) (n:Int) (hp1:s.length≤1000) (hp2: ∀x∈s,x.fields.length≤1000):Fun Tryz.prog 140 [.agg [.seq .shp s],vI sh,vI n] [] (.tup [.agg (F2 ((fieldAt s sh n).getD fld0)),vB (fieldAt s sh n).isSome]) []:=by
 have hN:Bf=274877906944:=rfl
 refine Aq Tryz.func140 Q4 Q4 (w:=let z4:List C:=[.int .i64 0,.int .i64 0,.bool false,.bool false,.int .i64 0];let z5:=(s.length:Int)-1;let z6:=fieldAt s sh n;let z7:=Am sh 0 z5;let z8:=F2 (z6.getD fld0);(.seg [.as 14 (.v (vI z5)),.call [] (.v (vB z7)) []] (.br (.leaf () []) (.intro (fun (x1:Shp)=>s[sh.toNat]? =some x1) fun x1=> .seg [.el .shp x1,.at 0,.keep [2,6,23,24,25],.sel [1]] (.loop (Hw n x1) fun q1=> .br (.intro (fun (x2:Fld)=>x1.fields[q1.v]? =some x2) fun x2=> .seg [.el .fld x2] (.br (.leaf () []) (.seg [.as 34 (.v (vI ((q1.v:Int)+1))),.at 0,.keep [2,6,23,24,25],.sel [0]] (.next)))) (.leaf () [])))),((.v (vI (IntKind.i64.wrap z5)):S)= .v (vI z5))∧(Fun Tryz.prog 79 [vI sh,vI 0,vI z5] [] (.v (vB z7)) [])∧((!z7)=true→(.tup [.agg z4,vB false]:S)= .tup [.agg z8,vB z6.isSome]∧([]:List Blk)=[])∧((!z7)=false→(∃(x1:Shp),s[sh.toNat]? =some x1)∧∀(x1:Shp),(s[sh.toNat]? =some x1)→(let z2:=(x1.fields.length:Int);let z3:=Hw n x1;(s[sh.toNat]? =some x1)∧((0:Int)≤sh)∧z3.Has [(2,.v (vI n)),(6,.v (vP 0)),(23,.v (.c (.seq .fld x1.fields))),(24,.v (vI z2)),(25,.v (vI 0))] [.cells z4]∧∀q1,z3.inv q1→(let z1:=(q1.v:Int);((decide (z1<z2))=true→(∃(x2:Fld),x1.fields[q1.v]? =some x2)∧∀(x2:Fld),(x1.fields[q1.v]? =some x2)→((x1.fields[q1.v]? =some x2)∧((0:Int)≤z1)∧((decide (x2.number=n))=true→(.tup [.agg (F2 x2),vB true]:S)= .tup [.agg z8,vB z6.isSome]∧([]:List Blk)=[])∧((decide (x2.number=n))=false→((.v (vI (IntKind.i64.wrap (z1+1))):S)= .v (vI (z1+1)))∧z3.Nxt q1 [(2,.v (vI n)),(6,.v (vP 0)),(23,.v (.c (.seq .fld x1.fields))),(24,.v (vI z2)),(25,.v (vI (z1+1)))] [.cells z4])))∧((decide (z1<z2))=false→(.tup [.agg z4,vB false]:S)= .tup [.agg z8,vB z6.isSome]∧([]:List Blk)=[])))))) Q4 ?_
 refine⟨(Ae Q2 Q2),(Cc _ _ _),fun h1=>have q1:=Ap h1;have p1:=A0 q1;?_,fun h1=>have q1:=An h1;have p1:=As q1;?_⟩
 refine have hm1:(fieldAt s sh n).getD fld0=(⟨0,0,false,false,0⟩:Fld):=?_;?_
 rotate_left
 refine⟨(congrArg S.tup (Ah (congrArg V.agg (Ah (congrArg (C.int .i64) ?_) (Ah (congrArg (C.int .i64) ?_) (Ah (congrArg C.bool ?_) (Ah (congrArg C.bool ?_) (Ah (congrArg (C.int .i64) ?_) rfl)))))) (Ah (congrArg V.c (congrArg C.bool ?_)) rfl))),rfl⟩
 rotate_left 6
 have q1_:=q1
 refine⟨(Bh (l:=s) (i:=sh.toNat) Q2),fun x1 hx1=>?_⟩
 have hfa:=X5 (n:=n) q1_ hx1
 have hfl:=hp2 x1 (List.mem_of_getElem? hx1)
 refine⟨hx1,Q2,Bi (j:=(⟨0⟩:K6)) Q10 rfl (by dsimp only[Hw];exact⟨by omega,by simp⟩),fun (q1:K6) hq_q1=>?_⟩
 have hi_q1:q1.v≤x1.fields.length∧F7 (List.drop q1.v x1.fields) n=F7 x1.fields n:=hq_q1
 obtain ⟨v1,v2⟩:=hi_q1
 refine dsp (fun h2 p2=>?_) fun h2 p2=>?_
 refine⟨(Bh (l:=x1.fields) (i:=q1.v) Q2),fun x2 hx2=>?_⟩
 rw[C9 hx2,Um] at v2
 refine⟨hx2,Q2,dsp (fun h3 p3=>?_) fun h3 p3=>?_⟩
 refine have hm1:(fieldAt s sh n).getD fld0=x2:=?_;?_
 rotate_left
 refine⟨(congrArg S.tup (Ah (congrArg V.agg (Ah (congrArg (C.int .i64) ?_) (Ah (congrArg (C.int .i64) ?_) (Ah (congrArg C.bool ?_) (Ah (congrArg C.bool ?_) (Ah (congrArg (C.int .i64) ?_) rfl)))))) (Ah (congrArg V.c (congrArg C.bool ?_)) rfl))),rfl⟩
 rotate_left 6
 exact⟨(Ae Q2 Q2),A5 (j:=(⟨q1.v+1⟩:K6)) Q10 rfl (by dsimp only[Hw];exact⟨by omega,by grind⟩) (by dsimp only[Hw];omega)⟩
 rw[K0 p2] at v2
 refine have hm1:(fieldAt s sh n).getD fld0=(⟨0,0,false,false,0⟩:Fld):=?_;?_
 rotate_left
 refine⟨(congrArg S.tup (Ah (congrArg V.agg (Ah (congrArg (C.int .i64) ?_) (Ah (congrArg (C.int .i64) ?_) (Ah (congrArg C.bool ?_) (Ah (congrArg C.bool ?_) (Ah (congrArg (C.int .i64) ?_) rfl)))))) (Ah (congrArg V.c (congrArg C.bool ?_)) rfl))),rfl⟩
 rotate_left 6
 all_goals grind[fieldAt,fld0,F7]
structure K7 where
 i:Nat
def Hx (n:Int) (x1:Shp):Fam:=⟨K7,fun q1=>[(2,.v (vI n)),(6,.v (vP 0)),(8,.v (.c (.seq .fld x1.fields))),(9,.v (vI (q1.i:Int)))],fun _=>[.cells [.int .i64 0,.int .i64 0,.bool false,.bool false,.int .i64 0]],fun q1=>q1.i≤x1.fields.length∧F7 (List.drop q1.i x1.fields) n=F7 x1.fields n,fun q1=>x1.fields.length-q1.i⟩
theorem Wj (s:List Shp) (sh:Int) (n:Int) (hp1:s.length≤1000) (hp2: ∀x∈s,x.fields.length≤1000):Fun Tryz.prog 133 [.agg [.seq .shp s],vI sh,vI n] [] (.tup [.agg (F2 ((fieldAt s sh n).getD fld0)),vB (fieldAt s sh n).isSome]) []:=by
 have hN:Bf=274877906944:=rfl
 refine Aq Tryz.func133 Q4 Q4 (w:=let z4:List C:=[.int .i64 0,.int .i64 0,.bool false,.bool false,.int .i64 0];let z5:=(s.length:Int)-1;let z6:=fieldAt s sh n;let z7:=Am sh 0 z5;let z8:=F2 (z6.getD fld0);(.seg [.as 14 (.v (vI z5)),.call [] (.v (vB z7)) []] (.br (.leaf () []) (.intro (fun (x1:Shp)=>s[sh.toNat]? =some x1) fun x1=> .seg [.el .shp x1,.at 0,.keep [2,6,8,9],.sel [1]] (.loop (Hx n x1) fun q1=> .br (.intro (fun (x2:Fld)=>x1.fields[q1.i]? =some x2) fun x2=> .seg [.el .fld x2] (.br (.seg [.el .fld x2] (.leaf () [])) (.seg [.as 29 (.v (vI ((q1.i:Int)+1))),.at 0,.keep [2,6,8,9],.sel [0]] (.next)))) (.leaf () [])))),((.v (vI (IntKind.i64.wrap z5)):S)= .v (vI z5))∧(Fun Tryz.prog 59 [vI sh,vI 0,vI z5] [] (.v (vB z7)) [])∧((!z7)=true→(.tup [.agg z4,vB false]:S)= .tup [.agg z8,vB z6.isSome]∧([]:List Blk)=[])∧((!z7)=false→(∃(x1:Shp),s[sh.toNat]? =some x1)∧∀(x1:Shp),(s[sh.toNat]? =some x1)→(let z2:=(x1.fields.length:Int);let z3:=Hx n x1;(s[sh.toNat]? =some x1)∧((0:Int)≤sh)∧z3.Has [(2,.v (vI n)),(6,.v (vP 0)),(8,.v (.c (.seq .fld x1.fields))),(9,.v (vI 0))] [.cells z4]∧∀q1,z3.inv q1→(let z1:=(q1.i:Int);((decide (z1<z2))=true→(∃(x2:Fld),x1.fields[q1.i]? =some x2)∧∀(x2:Fld),(x1.fields[q1.i]? =some x2)→((x1.fields[q1.i]? =some x2)∧((0:Int)≤z1)∧((decide (x2.number=n))=true→(x1.fields[q1.i]? =some x2)∧((0:Int)≤z1)∧(.tup [.agg (F2 x2),vB true]:S)= .tup [.agg z8,vB z6.isSome]∧([]:List Blk)=[])∧((decide (x2.number=n))=false→((.v (vI (IntKind.i64.wrap (z1+1))):S)= .v (vI (z1+1)))∧z3.Nxt q1 [(2,.v (vI n)),(6,.v (vP 0)),(8,.v (.c (.seq .fld x1.fields))),(9,.v (vI (z1+1)))] [.cells z4])))∧((decide (z1<z2))=false→(.tup [.agg z4,vB false]:S)= .tup [.agg z8,vB z6.isSome]∧([]:List Blk)=[])))))) Q4 ?_
 refine⟨(Ae Q2 Q2),(Be _ _ _),fun h1=>have q1:=Ap h1;have p1:=A0 q1;?_,fun h1=>have q1:=An h1;have p1:=As q1;?_⟩
 refine have hm1:(fieldAt s sh n).getD fld0=(⟨0,0,false,false,0⟩:Fld):=?_;?_
 rotate_left
 refine⟨(congrArg S.tup (Ah (congrArg V.agg (Ah (congrArg (C.int .i64) ?_) (Ah (congrArg (C.int .i64) ?_) (Ah (congrArg C.bool ?_) (Ah (congrArg C.bool ?_) (Ah (congrArg (C.int .i64) ?_) rfl)))))) (Ah (congrArg V.c (congrArg C.bool ?_)) rfl))),rfl⟩
 rotate_left 6
 have q1_:=q1
 refine⟨(Bh (l:=s) (i:=sh.toNat) Q2),fun x1 hx1=>?_⟩
 have hfa:=X5 (n:=n) q1_ hx1
 have hfl:=hp2 x1 (List.mem_of_getElem? hx1)
 refine⟨hx1,Q2,Bi (j:=(⟨0⟩:K7)) Q10 rfl (by dsimp only[Hx];exact⟨by omega,by simp⟩),fun (q1:K7) hq_q1=>?_⟩
 have hi_q1:q1.i≤x1.fields.length∧F7 (List.drop q1.i x1.fields) n=F7 x1.fields n:=hq_q1
 obtain ⟨v1,v2⟩:=hi_q1
 refine dsp (fun h2 p2=>?_) fun h2 p2=>?_
 refine⟨(Bh (l:=x1.fields) (i:=q1.i) Q2),fun x2 hx2=>?_⟩
 rw[C9 hx2,Um] at v2
 refine⟨hx2,Q2,dsp (fun h3 p3=>?_) fun h3 p3=>?_⟩
 refine⟨hx2,Q2,?_⟩
 refine have hm1:(fieldAt s sh n).getD fld0=x2:=?_;?_
 rotate_left
 refine⟨(congrArg S.tup (Ah (congrArg V.agg (Ah (congrArg (C.int .i64) ?_) (Ah (congrArg (C.int .i64) ?_) (Ah (congrArg C.bool ?_) (Ah (congrArg C.bool ?_) (Ah (congrArg (C.int .i64) ?_) rfl)))))) (Ah (congrArg V.c (congrArg C.bool ?_)) rfl))),rfl⟩
 rotate_left 6
 exact⟨(Ae Q2 Q2),A5 (j:=(⟨q1.i+1⟩:K7)) Q10 rfl (by dsimp only[Hx];exact⟨by omega,by grind⟩) (by dsimp only[Hx];omega)⟩
 rw[K0 p2] at v2
 refine have hm1:(fieldAt s sh n).getD fld0=(⟨0,0,false,false,0⟩:Fld):=?_;?_
 rotate_left
 refine⟨(congrArg S.tup (Ah (congrArg V.agg (Ah (congrArg (C.int .i64) ?_) (Ah (congrArg (C.int .i64) ?_) (Ah (congrArg C.bool ?_) (Ah (congrArg C.bool ?_) (Ah (congrArg (C.int .i64) ?_) rfl)))))) (Ah (congrArg V.c (congrArg C.bool ?_)) rfl))),rfl⟩
 rotate_left 6
 all_goals grind[fieldAt,fld0,F7]
theorem Ajk (p:Pln):Fun Tryz.prog 48 [.agg (N6 p)] [] (.v (vB (Ez p))) []:=by
 have hN:Bf=274877906944:=rfl
 refine Aq Tryz.func48 Q4 Q4 (w:=let z1:=(p.shapes.length:Int)-1;let z2:=Am p.root 0 z1;let z3:=Dm p.shapes;let z4:=Am p.deep 1 8;let z5:=vB (Am p.most 0 2000);let z6:=vB (Ez p);let z7:=([]:List Blk);let z8:=(.v (vB false):S);(.seg [.call [] (.v (vB z3)) []] (.br (.seg [.as 13 (.v (vI z1)),.call [] (.v (vB z2)) []] (.br (.seg [.call [] (.v (vB z4)) []] (.br (.seg [.call [] (.v z5) []] (.leaf () [])) (.leaf () []))) (.leaf () []))) (.leaf () [])),(Fun Tryz.prog 105 [.agg [.seq .shp p.shapes]] [] (.v (vB z3)) [])∧(z3=true→((.v (vI (IntKind.i64.wrap z1)):S)= .v (vI z1))∧(Fun Tryz.prog 79 [vI p.root,vI 0,vI z1] [] (.v (vB z2)) [])∧(z2=true→(Fun Tryz.prog 79 [vI p.deep,vI 1,vI 8] [] (.v (vB z4)) [])∧(z4=true→(Fun Tryz.prog 79 [vI p.most,vI 0,vI 2000] [] (.v z5) [])∧(.v z5:S)= .v z6∧z7=[])∧(z4=false→z8= .v z6∧z7=[]))∧(z2=false→z8= .v z6∧z7=[]))∧(z3=false→z8= .v z6∧z7=[]))) Q4 ?_
 refine⟨(Aeq p.shapes),fun h1=>have p1:=Tn h1;?_,fun h1=>?_⟩
 refine⟨(Ae Q2 Q2),(Cc _ _ _),fun h2=>have p2:=As h2;?_,fun h2=>have p2:=A0 h2;?_⟩
 refine⟨(Cc _ _ _),fun h3=>have p3:=As h3;?_,fun h3=>have p3:=A0 h3;?_⟩
 exact⟨(Cc _ _ _),(congrArg S.v (congrArg V.c (congrArg C.bool Q86))),rfl⟩
 exact⟨(congrArg S.v (congrArg V.c (congrArg C.bool Q86))),rfl⟩
 exact⟨(congrArg S.v (congrArg V.c (congrArg C.bool Q86))),rfl⟩
 exact⟨(congrArg S.v (congrArg V.c (congrArg C.bool Q86))),rfl⟩
theorem Vc (p:Pln):Fun Tryz.prog 34 [.agg (N6 p)] [] (.v (vB (Ez p))) []:=by
 have hN:Bf=274877906944:=rfl
 refine Aq Tryz.func34 Q4 Q4 (w:=let z1:=(p.shapes.length:Int)-1;let z2:=Am p.root 0 z1;let z3:=Dm p.shapes;let z4:=Am p.deep 1 8;let z5:=vB (Am p.most 0 2000);let z6:=vB (Ez p);let z7:=([]:List Blk);let z8:=(.v (vB false):S);(.seg [.call [] (.v (vB z3)) []] (.br (.seg [.as 13 (.v (vI z1)),.call [] (.v (vB z2)) []] (.br (.seg [.call [] (.v (vB z4)) []] (.br (.seg [.call [] (.v z5) []] (.leaf () [])) (.leaf () []))) (.leaf () []))) (.leaf () [])),(Fun Tryz.prog 97 [.agg [.seq .shp p.shapes]] [] (.v (vB z3)) [])∧(z3=true→((.v (vI (IntKind.i64.wrap z1)):S)= .v (vI z1))∧(Fun Tryz.prog 59 [vI p.root,vI 0,vI z1] [] (.v (vB z2)) [])∧(z2=true→(Fun Tryz.prog 59 [vI p.deep,vI 1,vI 8] [] (.v (vB z4)) [])∧(z4=true→(Fun Tryz.prog 59 [vI p.most,vI 0,vI 2000] [] (.v z5) [])∧(.v z5:S)= .v z6∧z7=[])∧(z4=false→z8= .v z6∧z7=[]))∧(z2=false→z8= .v z6∧z7=[]))∧(z3=false→z8= .v z6∧z7=[]))) Q4 ?_
 refine⟨(Aer p.shapes),fun h1=>have p1:=Tn h1;?_,fun h1=>?_⟩
 refine⟨(Ae Q2 Q2),(Be _ _ _),fun h2=>have p2:=As h2;?_,fun h2=>have p2:=A0 h2;?_⟩
 refine⟨(Be _ _ _),fun h3=>have p3:=As h3;?_,fun h3=>have p3:=A0 h3;?_⟩
 exact⟨(Be _ _ _),(congrArg S.v (congrArg V.c (congrArg C.bool Q86))),rfl⟩
 exact⟨(congrArg S.v (congrArg V.c (congrArg C.bool Q86))),rfl⟩
 exact⟨(congrArg S.v (congrArg V.c (congrArg C.bool Q86))),rfl⟩
 exact⟨(congrArg S.v (congrArg V.c (congrArg C.bool Q86))),rfl⟩
theorem Aes (k:Int):Fun Tryz.prog 143 [vI k] [] (.v (vB (De k))) []:=by
 have hN:Bf=274877906944:=rfl
 refine Aq Tryz.func143 Q4 Q4 (w:=(.br (.leaf () []) (.br (.leaf () []) (.leaf () [])),((decide (k=2))=true→(.v (vB true):S)= .v (vB (De k))∧([]:List Blk)=[])∧((decide (k=2))=false→((decide (k=3))=true→(.v (vB true):S)= .v (vB (De k))∧([]:List Blk)=[])∧((decide (k=3))=false→(.v (vB (decide (k=6))):S)= .v (vB (De k))∧([]:List Blk)=[])))) Q4 ?_
 refine dsp (fun h1 p1=>?_) fun h1 p1=>?_
 exact⟨(congrArg S.v (congrArg V.c (congrArg C.bool (by grind[De])))),rfl⟩
 refine dsp (fun h2 p2=>?_) fun h2 p2=>?_
 exact⟨(congrArg S.v (congrArg V.c (congrArg C.bool (by grind[De])))),rfl⟩
 exact⟨(congrArg S.v (congrArg V.c (congrArg C.bool (by grind[De])))),rfl⟩
theorem D1 (d:Dcd) (hp1:List.length (d).stack≤Bf):Fun Tryz.prog 85 [.agg (Bt d)] [] (.v (vI (Di d))) []:=by
 have hN:Bf=274877906944:=rfl
 refine Aq Tryz.func85 Q4 Q4 (w:=let z1:=((List.length d.stack:Nat):Int);(.br (.leaf () []) (.seg [.as 12 (.v (vI (z1-1)))] (.intro (fun (x1:Lev)=>d.stack[Int.toNat (z1-1)]? =some x1) fun x1=> .seg [.el .lev x1] (.leaf () []))),((decide (z1=0))=true→(.v (vI 0):S)= .v (vI (Di d))∧([]:List Blk)=[])∧((decide (z1=0))=false→((.v (vI (IntKind.i64.wrap (z1-1))):S)= .v (vI (z1-1)))∧(∃(x1:Lev),d.stack[Int.toNat (z1-1)]? =some x1)∧∀(x1:Lev),(d.stack[Int.toNat (z1-1)]? =some x1)→((d.stack[Int.toNat (z1-1)]? =some x1)∧((0:Int)≤z1-1)∧(.v (vI x1.left):S)= .v (vI (Di d))∧([]:List Blk)=[])))) Q4 ?_
 refine dsp (fun h1 p1=>?_) fun h1 p1=>?_
 refine⟨(sI ?_),rfl⟩
 rotate_left
 refine⟨(Ae Q2 Q2),(Bh (l:=d.stack) (i:=Int.toNat (((List.length d.stack:Nat):Int)-1)) Q2),fun x1 hx1=>?_⟩
 have htop:Di d=x1.left:=by unfold Di;rw[V7 (by rw[←hx1];congr 1;omega)]
 refine⟨hx1,Q2,(sI ?_),rfl⟩
 rotate_left
 all_goals first|(exact htop.symm)|((unfold Di;rw[List.eq_nil_of_length_eq_zero (by omega:List.length d.stack=0)];rfl))|(grind)
theorem N2 (d:Dcd) (hp1:List.length (d).stack≤Bf):Fun Tryz.prog 73 [.agg (Bt d)] [] (.v (vI (Di d))) []:=by
 have hN:Bf=274877906944:=rfl
 refine Aq Tryz.func73 Q4 Q4 (w:=let z1:=((List.length d.stack:Nat):Int);(.br (.leaf () []) (.seg [.as 12 (.v (vI (z1-1)))] (.intro (fun (x1:Lev)=>d.stack[Int.toNat (z1-1)]? =some x1) fun x1=> .seg [.el .lev x1] (.leaf () []))),((decide (z1=0))=true→(.v (vI 0):S)= .v (vI (Di d))∧([]:List Blk)=[])∧((decide (z1=0))=false→((.v (vI (IntKind.i64.wrap (z1-1))):S)= .v (vI (z1-1)))∧(∃(x1:Lev),d.stack[Int.toNat (z1-1)]? =some x1)∧∀(x1:Lev),(d.stack[Int.toNat (z1-1)]? =some x1)→((d.stack[Int.toNat (z1-1)]? =some x1)∧((0:Int)≤z1-1)∧(.v (vI x1.left):S)= .v (vI (Di d))∧([]:List Blk)=[])))) Q4 ?_
 refine dsp (fun h1 p1=>?_) fun h1 p1=>?_
 refine⟨(sI ?_),rfl⟩
 rotate_left
 refine⟨(Ae Q2 Q2),(Bh (l:=d.stack) (i:=Int.toNat (((List.length d.stack:Nat):Int)-1)) Q2),fun x1 hx1=>?_⟩
 have htop:Di d=x1.left:=by unfold Di;rw[V7 (by rw[←hx1];congr 1;omega)]
 refine⟨hx1,Q2,(sI ?_),rfl⟩
 rotate_left
 all_goals first|(exact htop.symm)|((unfold Di;rw[List.eq_nil_of_length_eq_zero (by omega:List.length d.stack=0)];rfl))|(grind)
theorem Ahb (p:Pln) (k:Int) (hp1:List.length (p).shapes≤Bf):Fun Tryz.prog 184 [.agg (N6 p),vI k] [] (.v (vB (Am k 0 (((List.length (p).shapes:Nat):Int)-1)))) []:=by
 have hN:Bf=274877906944:=rfl
 refine Aq Tryz.func184 Q4 Q4 (w:=let z1:=((List.length p.shapes:Nat):Int)-1;let z2:=vB (Am k 0 z1);(.seg [.as 10 (.v (vI z1)),.call [] (.v z2) []] (.leaf () []),((.v (vI (IntKind.i64.wrap z1)):S)= .v (vI z1))∧(Fun Tryz.prog 79 [vI k,vI 0,vI z1] [] (.v z2) [])∧(.v z2:S)= .v (vB (Am k 0 (((List.length (p).shapes:Nat):Int)-1)))∧([]:List Blk)=[])) Q4 ?_
 exact⟨(Ae Q2 Q2),(Cc _ _ _),(congrArg S.v (congrArg V.c (congrArg C.bool (by rfl)))),rfl⟩
theorem Ahc (p:Pln) (l:Lev) (hp1:List.length (p).shapes≤Bf):Fun Tryz.prog 139 [.agg (N6 p),.agg (Apf l)] [] (.v (vB (E1 ((List.length (p).shapes:Nat):Int) l))) []:=by
 have hN:Bf=274877906944:=rfl
 refine Aq Tryz.func139 Q4 Q4 (w:=let z1:=((List.length (p).shapes:Nat):Int);let z2:=Am l.msg 0 (z1-1);let z3:=vB (Am l.left 0 2000);(.seg [.call [] (.v (vB z2)) []] (.br (.seg [.call [] (.v z3) []] (.leaf () [])) (.leaf () [])),(Fun Tryz.prog 184 [.agg (N6 p),vI l.msg] [] (.v (vB z2)) [])∧(z2=true→(Fun Tryz.prog 79 [vI l.left,vI 0,vI 2000] [] (.v z3) [])∧(.v z3:S)= .v (vB (E1 z1 l))∧([]:List Blk)=[])∧(z2=false→(.v (vB false):S)= .v (vB (E1 z1 l))∧([]:List Blk)=[]))) Q4 ?_
 refine⟨(Ahb p _ Q2),fun h1=>have p1:=As h1;?_,fun h1=>have p1:=A0 h1;?_⟩
 refine⟨(Cc _ _ _),(sB ?_),rfl⟩
 rotate_left
 refine⟨(sB ?_),rfl⟩
 rotate_left
 all_goals first|(simp[E1, *];done)|(simp_all[E1];done)|(grind[E1])
theorem Ajm (l:Lev) (d:Dcd) (hp1:List.length (d).plan.shapes≤Bf):Fun Tryz.prog 138 [.agg (Apf l),vP 0] [.cells (Bt d)] (.v (vB (!E1 ((List.length (d).plan.shapes:Nat):Int) l))) [.cells (Bt d)]:=by
 have hN:Bf=274877906944:=rfl
 refine Aq Tryz.func138 Q4 Q4 (w:=let z1:=E1 ((List.length (d.plan).shapes:Nat):Int) l;(.seg [.call [] (.v (vB z1)) []] (.leaf () [0]),(Fun Tryz.prog 139 [.agg (N6 d.plan),.agg (Apf l)] [] (.v (vB z1)) [])∧(.v (vB (!z1)):S)= .v (vB (!E1 ((List.length (d).plan.shapes:Nat):Int) l))∧([.cells (Bt d)]:List Blk)=[.cells (Bt d)])) Q4 ?_
 exact⟨(Ahc d.plan l Q2),(congrArg S.v (congrArg V.c (congrArg C.bool (by rfl)))),rfl⟩
structure S0 where
 v:Nat
def S3 (s:List Lev) (d:Dcd):Fam:=⟨S0,fun q1=>[(0,.v (.c (.seq .lev s))),(1,.v (.c (.fn 138 [0]))),(7,.v (vI ((List.length s:Nat):Int))),(8,.v (vI ((q1.v:Nat):Int)))],fun _=>[.cells (Bt d)],fun q1=>q1.v≤List.length s∧Xj (List.length d.plan.shapes:Int) (List.drop q1.v s)+q1.v=Xj (List.length d.plan.shapes:Int) s,fun q1=>List.length s-q1.v⟩
theorem Aoi (s:List Lev) (d:Dcd) (hp1:List.length (d).plan.shapes≤Bf) (hp2:List.length s≤Bf):Fun Tryz.prog 183 [.c (.seq .lev s),.c (.fn 138 [0])] [.cells (Bt d)] (.v (vI (Ki ((List.length (d).plan.shapes:Nat):Int) s))) [.cells (Bt d)]:=by
 have hN:Bf=274877906944:=rfl
 refine Aq Tryz.func183 Q4 Q4 (w:=let z3:=((List.length (d).plan.shapes:Nat):Int);let z4:List Blk:=[.cells (Bt d)];let z5:=((List.length s:Nat):Int);let z6:=S3 s d;(.seg [.at 0,.keep [0,1,7,8],.sel [0]] (.loop z6 fun q1=> .br (.intro (fun (x1:Lev)=>s[q1.v]? =some x1) fun x1=> .seg [.el .lev x1,.call [0] (.v (vB (!E1 z3 x1))) z4] (.br (.leaf () [0]) (.seg [.as 18 (.v (vI (((q1.v:Nat):Int)+1))),.at 0,.keep [0,1,7,8],.sel [0]] (.next)))) (.leaf () [0])),z6.Has [(0,.v (.c (.seq .lev s))),(1,.v (.c (.fn 138 [0]))),(7,.v (vI z5)),(8,.v (vI 0))] z4∧∀q1,z6.inv q1→(let z2:=((q1.v:Nat):Int);((decide (z2<z5))=true→(∃(x1:Lev),s[q1.v]? =some x1)∧∀(x1:Lev),(s[q1.v]? =some x1)→(let z1:= !E1 z3 x1;(s[q1.v]? =some x1)∧((0:Int)≤z2)∧(Fun Tryz.prog 138 [.agg (Apf x1),vP 0] z4 (.v (vB z1)) z4)∧(z1=true→(.v (vI z2):S)= .v (vI (Ki z3 s))∧(z4:List Blk)=z4)∧(z1=false→((.v (vI (IntKind.i64.wrap (z2+1))):S)= .v (vI (z2+1)))∧z6.Nxt q1 [(0,.v (.c (.seq .lev s))),(1,.v (.c (.fn 138 [0]))),(7,.v (vI z5)),(8,.v (vI (z2+1)))] z4)))∧((decide (z2<z5))=false→(.v (vI (-1)):S)= .v (vI (Ki z3 s))∧(z4:List Blk)=z4)))) Q4 ?_
 refine⟨Bi (j:=(⟨0⟩:S0)) Q10 rfl (by dsimp only[S3];exact⟨by omega,rfl⟩),fun (q1:S0) hq_q1=>?_⟩
 have hi_q1:q1.v≤List.length s∧Xj (List.length d.plan.shapes:Int) (List.drop q1.v s)+q1.v=Xj (List.length d.plan.shapes:Int) s:=hq_q1
 obtain ⟨v1,v3⟩:=hi_q1
 refine dsp (fun h1 p1=>?_) fun h1 p1=>?_
 refine⟨(Bh (l:=s) (i:=q1.v) Q2),fun x1 hx1=>?_⟩
 rw[C9 hx1,Sq] at v3
 have hll:=congrArg List.length (C9 hx1)
 rw[List.length_drop,List.length_cons,List.length_drop] at hll
 refine⟨hx1,Q2,(Ajm x1 d Q2),fun h2=>have q2:=Ap h2;?_,fun h2=>have q2:=An h2;?_⟩
 rw[if_neg (by simp[q2])] at v3
 have hbl:Ki (List.length d.plan.shapes:Int) s=q1.v:=by unfold Ki;rw[if_neg (by omega)];omega
 refine⟨(sI ?_),rfl⟩
 rotate_left
 rw[if_pos q2] at v3
 exact⟨(Ae Q2 Q2),A5 (j:=(⟨q1.v+1⟩:S0)) Q10 rfl (by dsimp only[S3];exact⟨by omega,by omega⟩) (by dsimp only[S3];omega)⟩
 rw[List.drop_eq_nil_of_le (by omega)] at v3
 simp only[Xj] at v3
 have hbl:Ki (List.length d.plan.shapes:Int) s= -1:=by unfold Ki;rw[if_pos (by omega)]
 refine⟨(sI ?_),rfl⟩
 rotate_left
 all_goals first|(exact hbl.symm)|(grind)
theorem Aoj (s:List Lev) (d:Dcd) (hp1:List.length (d).plan.shapes≤Bf) (hp2:List.length s≤Bf):Fun Tryz.prog 137 [.c (.seq .lev s),.c (.fn 138 [0])] [.cells (Bt d)] (.v (vB (decide (0≤Ki ((List.length (d).plan.shapes:Nat):Int) s)))) [.cells (Bt d)]:=by
 have hN:Bf=274877906944:=rfl
 refine Aq Tryz.func137 Q4 Q4 (w:=let z1:=((List.length (d).plan.shapes:Nat):Int);let z2:List Blk:=[.cells (Bt d)];(.seg [.call [0] (.v (vI (Ki z1 s))) z2] (.leaf () [0]),(Fun Tryz.prog 183 [.c (.seq .lev s),.c (.fn 138 [0])] z2 (.v (vI (Ki z1 s))) z2)∧(.v (vB (decide (0≤Ki z1 s))):S)= .v (vB (decide (0≤Ki z1 s)))∧(z2:List Blk)=z2)) Q4 ?_
 exact⟨(Aoi _ d Q2 Q2),rfl,rfl⟩
theorem X9 (d:Dcd) (hp1:List.length (d).stack≤Bf) (hp2:List.length (d).plan.shapes≤Bf):Fun Tryz.prog 78 [.agg (Bt d)] [] (.v (vB (Ba d))) []:=by
 have hN:Bf=274877906944:=rfl
 refine Aq Tryz.func78 Q4 Q4 (w:=let z1:=decide (0≤Ki ((List.length (d).plan.shapes:Nat):Int) d.stack);let z2:=decide (((List.length d.stack:Nat):Int)≤d.plan.deep);let z3:=Ez d.plan;(.seg [.call [] (.v (vB z3)) []] (.br (.br (.seg [.call [0] (.v (vB z1)) [.cells (Bt d)]] (.leaf () [])) (.leaf () [])) (.leaf () [])),(Fun Tryz.prog 48 [.agg (N6 d.plan)] [] (.v (vB z3)) [])∧(z3=true→(z2=true→(Fun Tryz.prog 137 [.c (.seq .lev d.stack),.c (.fn 138 [0])] [.cells (Bt d)] (.v (vB z1)) [.cells (Bt d)])∧(.v (vB (!z1)):S)= .v (vB (Ba d))∧([]:List Blk)=[])∧(z2=false→(.v (vB false):S)= .v (vB (Ba d))∧([]:List Blk)=[]))∧(z3=false→(.v (vB false):S)= .v (vB (Ba d))∧([]:List Blk)=[]))) Q4 ?_
 refine⟨(Ajk d.plan),fun h1=>have p1:=B8 h1;?_,fun h1=>?_⟩
 refine dsp (fun h2 p2=>?_) fun h2 p2=>?_
 refine⟨(Aoj _ d Q2 Q2),(sB ?_),rfl⟩
 rotate_left
 refine⟨(sB ?_),rfl⟩
 rotate_left
 refine⟨(sB ?_),rfl⟩
 rotate_left
 all_goals first|(simp_all[Ba];done)|((unfold Ba;rw[My];grind[Ki]))|(grind[Ba,Ki,My])
theorem S4 (k:Int):Fun Tryz.prog 141 [vI k] [] (.v (vB (F9 k))) []:=by
 have hN:Bf=274877906944:=rfl
 refine Aq Tryz.func141 Q4 Q4 (w:=let z1:=vB (Am k 1 10);(.seg [.call [] (.v z1) []] (.leaf () []),(Fun Tryz.prog 79 [vI k,vI 1,vI 10] [] (.v z1) [])∧(.v z1:S)= .v (vB (F9 k))∧([]:List Blk)=[])) Q4 ?_
 exact⟨(Cc _ _ _),(congrArg S.v (congrArg V.c (congrArg C.bool (by rfl)))),rfl⟩
theorem Zd (e:Ev):Fun Tryz.prog 142 [.agg (cEv e)] [] (.v (.agg (cEv (Df e)))) []:=by
 have hN:Bf=274877906944:=rfl
 refine Aq Tryz.func142 Q4 Q4 (w:=let zi:Int→C:= .int .i64;let z1:List C:=[.int .u64 0,zi e.len,.str [],zi 0,zi 0];let z2:=cEv (Df e);let z3:=([]:List Blk);let z4:=(.v (.agg (zi e.kind::zi e.field::z1)):S);let z5:=decide (e.kind=3);let z6:=os 8 [5,7];(.br (.leaf () []) (.br (.seg [.ord z6 [2]] (.leaf () [])) (.br (.seg [.br true,.ord z6 [2]] (.leaf () [])) (.br (.seg [.ord z6 [2]] (.leaf () [])) (.br (.leaf () []) (.br (.leaf () []) (.br (.seg [.ord z6 [2]] (.leaf () [])) (.leaf () []))))))),((decide (e.kind=1))=true→(.v (.agg (zi e.kind::zi 0::z1)):S)= .v (.agg z2)∧z3=[])∧((decide (e.kind=1))=false→((decide (e.kind=2))=true→(.v (.agg [zi e.kind,zi e.field,.int .u64 e.bits,zi 0,.str [],zi 0,zi 0]):S)= .v (.agg z2)∧z3=[])∧((decide (e.kind=2))=false→(z5=true→(z5=true)∧z4= .v (.agg z2)∧z3=[])∧(z5=false→((decide (e.kind=6))=true→z4= .v (.agg z2)∧z3=[])∧((decide (e.kind=6))=false→((decide (e.kind=4))=true→(.v (.agg [zi e.kind,zi 0,.int .u64 0,zi 0,.str e.text,zi 0,zi 0]):S)= .v (.agg z2)∧z3=[])∧((decide (e.kind=4))=false→((decide (e.kind=9))=true→(.v (.agg [zi e.kind,zi 0,.int .u64 0,zi 0,.str [],zi 0,zi e.at_]):S)= .v (.agg z2)∧z3=[])∧((decide (e.kind=9))=false→((decide (e.kind=10))=true→(.v (.agg [zi e.kind,zi 0,.int .u64 0,zi 0,.str [],zi e.code,zi e.at_]):S)= .v (.agg z2)∧z3=[])∧((decide (e.kind=10))=false→(.v (.agg [zi e.kind,zi 0,.int .u64 0,zi 0,.str [],zi 0,zi 0]):S)= .v (.agg z2)∧z3=[]))))))))) Q4 ?_
 refine dsp (fun h1 p1=>?_) fun h1 p1=>?_
 refine have hm1:Df e=(⟨e.kind,0,0,e.len,[],0,0⟩:Ev):=?_;?_
 rotate_left
 exact⟨Q7,rfl⟩
 refine dsp (fun h2 p2=>?_) fun h2 p2=>?_
 refine have hm1:Df e=(⟨e.kind,e.field,e.bits,0,[],0,0⟩:Ev):=?_;?_
 rotate_left
 exact⟨Q7,rfl⟩
 refine dsp (fun h3 p3=>?_) fun h3 p3=>?_
 refine⟨h3,?_⟩
 refine have hm1:Df e=(⟨e.kind,e.field,0,e.len,[],0,0⟩:Ev):=?_;?_
 rotate_left
 exact⟨Q7,rfl⟩
 refine dsp (fun h4 p4=>?_) fun h4 p4=>?_
 refine have hm1:Df e=(⟨e.kind,e.field,0,e.len,[],0,0⟩:Ev):=?_;?_
 rotate_left
 exact⟨Q7,rfl⟩
 refine dsp (fun h5 p5=>?_) fun h5 p5=>?_
 refine have hm1:Df e=(⟨e.kind,0,0,0,e.text,0,0⟩:Ev):=?_;?_
 rotate_left
 exact⟨Q7,rfl⟩
 refine dsp (fun h6 p6=>?_) fun h6 p6=>?_
 refine have hm1:Df e=(⟨e.kind,0,0,0,[],0,e.at_⟩:Ev):=?_;?_
 rotate_left
 exact⟨Q7,rfl⟩
 refine dsp (fun h7 p7=>?_) fun h7 p7=>?_
 refine have hm1:Df e=(⟨e.kind,0,0,0,[],e.code,e.at_⟩:Ev):=?_;?_
 rotate_left
 exact⟨Q7,rfl⟩
 refine have hm1:Df e=(⟨e.kind,0,0,0,[],0,0⟩:Ev):=?_;?_
 rotate_left
 exact⟨Q7,rfl⟩
 all_goals first|(simp_all[Df];done)|(grind[Df])
theorem Ya (e:Ev):Fun Tryz.prog 84 [.agg (cEv e)] [] (.v (vB (E9 e))) []:=by
 have hN:Bf=274877906944:=rfl
 refine Aq Tryz.func84 Q4 Q4 (w:=(.br (.leaf () []) (.leaf () []),((decide (e.kind=9))=true→(.v (vB true):S)= .v (vB (E9 e))∧([]:List Blk)=[])∧((decide (e.kind=9))=false→(.v (vB (decide (e.kind=10))):S)= .v (vB (E9 e))∧([]:List Blk)=[]))) Q4 ?_
 refine dsp (fun h1 p1=>?_) fun h1 p1=>?_
 refine⟨(sB ?_),rfl⟩
 rotate_left
 refine⟨(sB ?_),rfl⟩
 rotate_left
 all_goals first|(simp_all[E9];done)|(grind[E9])
theorem Aet (e:Ev):Fun Tryz.prog 72 [.agg (cEv e)] [] (.v (vB (E9 e))) []:=by
 have hN:Bf=274877906944:=rfl
 refine Aq Tryz.func72 Q4 Q4 (w:=(.br (.leaf () []) (.leaf () []),((decide (e.kind=9))=true→(.v (vB true):S)= .v (vB (E9 e))∧([]:List Blk)=[])∧((decide (e.kind=9))=false→(.v (vB (decide (e.kind=10))):S)= .v (vB (E9 e))∧([]:List Blk)=[]))) Q4 ?_
 refine dsp (fun h1 p1=>?_) fun h1 p1=>?_
 refine⟨(sB ?_),rfl⟩
 rotate_left
 refine⟨(sB ?_),rfl⟩
 rotate_left
 all_goals first|(simp_all[E9];done)|(grind[E9])
theorem Aas (e:Ev):Fun Tryz.prog 83 [.agg (cEv e)] [] (.v (vB (Dc e))) []:=by
 have hN:Bf=274877906944:=rfl
 refine Aq Tryz.func83 Q4 Q4 (w:=let z2:=F9 e.kind;let z3:=vB (Dc e);let z4:=Df e;let z1:= !(decide (e.kind=z4.kind)&&(decide (e.field=z4.field)&&(decide (e.bits=z4.bits)&&(decide (e.len=z4.len)&&(decide (e.text=z4.text)&&(decide (e.code=z4.code)&&decide (e.at_=z4.at_)))))));let z5:=([]:List Blk);let z6:=decide (e.len<0);let z7:=vB (Am e.field 1 536870911);let z8:=(.v (vB false):S);let z9:=De e.kind;let z10:=os 21 [2,7];(.case (!z2) (.seg [.ord z10 [],.call [] (.v (vB z2)) [],.br true] (.leaf () [])) (.case z1 (.seg [.ord z10 [],.call [] (.v (vB z2)) [],.br false,.call [] (.v (.agg (cEv z4))) [],.br true] (.leaf () [])) (.case z6 (.seg [.ord z10 [],.call [] (.v (vB z2)) [],.br false,.call [] (.v (.agg (cEv z4))) [],.br false,.br true] (.leaf () [])) (.seg [.ord z10 [],.call [] (.v (vB z2)) [],.br false,.call [] (.v (.agg (cEv z4))) [],.br false,.br false] (.br (.leaf () []) (.seg [.call [] (.v (vB z9)) []] (.br (.seg [.call [] (.v z7) []] (.leaf () [])) (.br (.leaf () []) (.br (.leaf () []) (.leaf () []))))))))),((!z2)=true→(Fun Tryz.prog 141 [vI e.kind] [] (.v (vB z2)) [])∧((!z2)=true)∧z8= .v z3∧z5=[])∧((!z2)=false→(z1=true→(Fun Tryz.prog 141 [vI e.kind] [] (.v (vB z2)) [])∧((!z2)=false)∧(Fun Tryz.prog 142 [.agg (cEv e)] [] (.v (.agg (cEv z4))) [])∧(z1=true)∧z8= .v z3∧z5=[])∧(z1=false→(z6=true→(Fun Tryz.prog 141 [vI e.kind] [] (.v (vB z2)) [])∧((!z2)=false)∧(Fun Tryz.prog 142 [.agg (cEv e)] [] (.v (.agg (cEv z4))) [])∧(z1=false)∧(z6=true)∧z8= .v z3∧z5=[])∧(z6=false→(Fun Tryz.prog 141 [vI e.kind] [] (.v (vB z2)) [])∧((!z2)=false)∧(Fun Tryz.prog 142 [.agg (cEv e)] [] (.v (.agg (cEv z4))) [])∧(z1=false)∧(z6=false)∧((decide (e.at_<0))=true→z8= .v z3∧z5=[])∧((decide (e.at_<0))=false→(Fun Tryz.prog 143 [vI e.kind] [] (.v (vB z9)) [])∧(z9=true→(Fun Tryz.prog 79 [vI e.field,vI 1,vI 536870911] [] (.v z7) [])∧(.v z7:S)= .v z3∧z5=[])∧(z9=false→((decide (e.kind=4))=true→(.v (vB (!decide (e.text=[]))):S)= .v z3∧z5=[])∧((decide (e.kind=4))=false→((decide (e.kind=10))=true→(.v (vB (decide (1≤e.code))):S)= .v z3∧z5=[])∧((decide (e.kind=10))=false→(.v (vB true):S)= .v z3∧z5=[]))))))))) Q4 ?_
 refine⟨fun h1=>have q1:=Ap h1;?_,fun h1=>have q1:=An h1;?_⟩
 refine⟨(S4 _),h1,(sB ?_),rfl⟩
 rotate_left
 refine⟨fun h2=>have q2:=Ap h2;have p2:=(Ch dT (Ch dT (Ch dT (Ch dT (Ch dT (Ch dT dF)))))).1 q2;?_,fun h2=>have q2:=An h2;have p2:=(Cg dT (Cg dT (Cg dT (Cg dT (Cg dT (Cg dT dT)))))).1 q2;?_⟩
 have hib:K3 e=false:=by rw[Ss rfl];exact q2
 refine⟨(S4 _),h1,(Zd e),h2,(sB ?_),rfl⟩
 rotate_left
 have hib:K3 e=true:=by rw[Ss rfl];exact q2
 refine dsp (fun h3 p3=>?_) fun h3 p3=>?_
 refine⟨(S4 _),h1,(Zd e),h2,h3,(sB ?_),rfl⟩
 rotate_left
 refine⟨(S4 _),h1,(Zd e),h2,h3,dsp (fun h4 p4=>?_) fun h4 p4=>?_⟩
 refine⟨(sB ?_),rfl⟩
 rotate_left
 refine⟨(Aes _),fun h5=>?_,fun h5=>?_⟩
 refine⟨(Cc _ _ _),(sB ?_),rfl⟩
 rotate_left
 refine dsp (fun h6 p6=>?_) fun h6 p6=>?_
 refine⟨(sB ?_),rfl⟩
 rotate_left
 refine dsp (fun h7 p7=>?_) fun h7 p7=>?_
 refine⟨(sB ?_),rfl⟩
 rotate_left
 refine⟨(sB ?_),rfl⟩
 rotate_left
 all_goals first|((simp only[Dc,hib];simp[F9,De, *];done))|(grind[Dc,De,F9])
structure Cy where
 want:Ev
def Rh (e:Ev):Fam:=⟨Cy,fun j0=>[(1,.v (vP 0)),(3,.v (vP 1))],fun j0=>[.cells (cEv e),.cells (cEv j0.want)],fun j0=>j0.want=Df e,fun _=>0⟩
theorem Aat (e:Ev):Fun Tryz.prog 22 [.agg (cEv e)] [] (.v (vB (Dc e))) []:=by
 have hN:Bf=274877906944:=rfl
 refine Aq Tryz.func22 Q4 Q4 (w:=let zi:Int→C:= .int .i64;let z2:List C:=[.int .u64 0,zi e.len,.str [],zi 0,zi 0];let z3:=vB (Am e.field 1 536870911);let z4:=Rh e;let z5:=vB (Dc e);let z6:=([]:List Blk);let z7:=decide (e.kind=3);let z8:=decide (e.kind=2);let z9:List Blk:=[.cells (cEv e),.cells (zi e.kind::zi e.field::z2)];let z10:=decide (e.kind=10);let z11:=decide (e.kind=6);let z12:=decide (e.kind=4);let z13:List V:=[vI e.field,vI 1,vI 536870911];let z14:=Am e.kind 1 10;let z15:=(.v (vB false):S);(.join 0 z4 (.br (.seg [.at 0,.keep [1,3],.sel [0,1]] (.next)) (.br (.seg [.at 0,.keep [1,3],.sel [0,1]] (.next)) (.br (.seg [.br true,.at 0,.keep [1,3],.sel [0,1]] (.next)) (.br (.seg [.at 0,.keep [1,3],.sel [0,1]] (.next)) (.br (.seg [.at 0,.keep [1,3],.sel [0,1]] (.next)) (.br (.seg [.at 0,.keep [1,3],.sel [0,1]] (.next)) (.br (.seg [.at 0,.keep [1,3],.sel [0,1]] (.next)) (.seg [.at 0,.keep [1,3],.sel [0,1]] (.next))))))))) fun j0=> .br (.leaf () []) (.seg [.call [] (.v (vB z14)) []] (.br (.leaf () []) (.br (.leaf () []) (.br (.leaf () []) (.br (.seg [.br true,.call [] (.v z3) []] (.leaf () [])) (.br (.seg [.br true,.call [] (.v z3) []] (.leaf () [])) (.br (.seg [.call [] (.v z3) []] (.leaf () [])) (.br (.leaf () []) (.br (.leaf () []) (.leaf () [])))))))))),(((decide (e.kind=1))=true→z4.Has [(1,.v (vP 0)),(3,.v (vP 1))] [.cells (cEv e),.cells (zi e.kind::zi 0::z2)])∧((decide (e.kind=1))=false→(z8=true→z4.Has [(1,.v (vP 0)),(3,.v (vP 1))] [.cells (cEv e),.cells [zi e.kind,zi e.field,.int .u64 e.bits,zi 0,.str [],zi 0,zi 0]])∧(z8=false→(z7=true→(z7=true)∧z4.Has [(1,.v (vP 0)),(3,.v (vP 1))] z9)∧(z7=false→(z11=true→z4.Has [(1,.v (vP 0)),(3,.v (vP 1))] z9)∧(z11=false→(z12=true→z4.Has [(1,.v (vP 0)),(3,.v (vP 1))] [.cells (cEv e),.cells [zi e.kind,zi 0,.int .u64 0,zi 0,.str e.text,zi 0,zi 0]])∧(z12=false→((decide (e.kind=9))=true→z4.Has [(1,.v (vP 0)),(3,.v (vP 1))] [.cells (cEv e),.cells [zi e.kind,zi 0,.int .u64 0,zi 0,.str [],zi 0,zi e.at_]])∧((decide (e.kind=9))=false→(z10=true→z4.Has [(1,.v (vP 0)),(3,.v (vP 1))] [.cells (cEv e),.cells [zi e.kind,zi 0,.int .u64 0,zi 0,.str [],zi e.code,zi e.at_]])∧(z10=false→z4.Has [(1,.v (vP 0)),(3,.v (vP 1))] [.cells (cEv e),.cells [zi e.kind,zi 0,.int .u64 0,zi 0,.str [],zi 0,zi 0]]))))))))∧∀j0,z4.inv j0→(let z1:= !(decide (e.kind=j0.want.kind)&&(decide (e.field=j0.want.field)&&(decide (e.bits=j0.want.bits)&&(decide (e.len=j0.want.len)&&(decide (e.text=j0.want.text)&&(decide (e.code=j0.want.code)&&decide (e.at_=j0.want.at_)))))));(z1=true→z15= .v z5∧z6=[])∧(z1=false→(Fun Tryz.prog 59 [vI e.kind,vI 1,vI 10] [] (.v (vB z14)) [])∧((!z14)=true→z15= .v z5∧z6=[])∧((!z14)=false→((decide (e.len<0))=true→z15= .v z5∧z6=[])∧((decide (e.len<0))=false→((decide (e.at_<0))=true→z15= .v z5∧z6=[])∧((decide (e.at_<0))=false→(z8=true→(z8=true)∧(Fun Tryz.prog 59 z13 [] (.v z3) [])∧(.v z3:S)= .v z5∧z6=[])∧(z8=false→(z7=true→(z7=true)∧(Fun Tryz.prog 59 z13 [] (.v z3) [])∧(.v z3:S)= .v z5∧z6=[])∧(z7=false→(z11=true→(Fun Tryz.prog 59 z13 [] (.v z3) [])∧(.v z3:S)= .v z5∧z6=[])∧(z11=false→(z12=true→(.v (vB (!decide (e.text=[]))):S)= .v z5∧z6=[])∧(z12=false→(z10=true→(.v (vB (decide (1≤e.code))):S)= .v z5∧z6=[])∧(z10=false→(.v (vB true):S)= .v z5∧z6=[])))))))))))) Q4 ?_
 refine⟨?_,fun (j0:Cy) hq_j0=>?_⟩
 refine dsp (fun h2 p2=>?_) fun h2 p2=>?_
 exact Bi (j:=(⟨(⟨e.kind,0,0,e.len,[],0,0⟩:Ev)⟩:Cy)) rfl Q10 Q38
 refine dsp (fun h3 p3=>?_) fun h3 p3=>?_
 exact Bi (j:=(⟨(⟨e.kind,e.field,e.bits,0,[],0,0⟩:Ev)⟩:Cy)) rfl Q10 Q38
 refine dsp (fun h4 p4=>?_) fun h4 p4=>?_
 exact⟨h4,Bi (j:=(⟨(⟨e.kind,e.field,0,e.len,[],0,0⟩:Ev)⟩:Cy)) rfl Q10 Q38⟩
 refine dsp (fun h5 p5=>?_) fun h5 p5=>?_
 exact Bi (j:=(⟨(⟨e.kind,e.field,0,e.len,[],0,0⟩:Ev)⟩:Cy)) rfl Q10 Q38
 refine dsp (fun h6 p6=>?_) fun h6 p6=>?_
 exact Bi (j:=(⟨(⟨e.kind,0,0,0,e.text,0,0⟩:Ev)⟩:Cy)) rfl Q10 Q38
 refine dsp (fun h7 p7=>?_) fun h7 p7=>?_
 exact Bi (j:=(⟨(⟨e.kind,0,0,0,[],0,e.at_⟩:Ev)⟩:Cy)) rfl Q10 Q38
 refine dsp (fun h8 p8=>?_) fun h8 p8=>?_
 exact Bi (j:=(⟨(⟨e.kind,0,0,0,[],e.code,e.at_⟩:Ev)⟩:Cy)) rfl Q10 Q38
 exact Bi (j:=(⟨(⟨e.kind,0,0,0,[],0,0⟩:Ev)⟩:Cy)) rfl Q10 Q38
 have hi_j0:j0.want=Df e:=hq_j0
 refine⟨fun h2=>have q2:=Ap h2;have p2:=(Ch dT (Ch dT (Ch dT (Ch dT (Ch dT (Ch dT dF)))))).1 q2;?_,fun h2=>have q2:=An h2;have p2:=(Cg dT (Cg dT (Cg dT (Cg dT (Cg dT (Cg dT dT)))))).1 q2;?_⟩
 have hib:K3 e=false:=by rw[Ss hi_j0.symm];exact q2
 refine⟨(sB ?_),rfl⟩
 rotate_left
 have hib:K3 e=true:=by rw[Ss hi_j0.symm];exact q2
 refine⟨(Be _ _ _),fun h3=>have q3:=Ap h3;have p3:=A0 q3;?_,fun h3=>have q3:=An h3;have p3:=As q3;?_⟩
 refine⟨(sB ?_),rfl⟩
 rotate_left
 refine dsp (fun h4 p4=>?_) fun h4 p4=>?_
 refine⟨(sB ?_),rfl⟩
 rotate_left
 refine dsp (fun h5 p5=>?_) fun h5 p5=>?_
 refine⟨(sB ?_),rfl⟩
 rotate_left
 refine dsp (fun h6 p6=>?_) fun h6 p6=>?_
 refine⟨h6,(Be _ _ _),(sB ?_),rfl⟩
 rotate_left
 refine dsp (fun h7 p7=>?_) fun h7 p7=>?_
 refine⟨h7,(Be _ _ _),(sB ?_),rfl⟩
 rotate_left
 refine dsp (fun h8 p8=>?_) fun h8 p8=>?_
 refine⟨(Be _ _ _),(sB ?_),rfl⟩
 rotate_left
 refine dsp (fun h9 p9=>?_) fun h9 p9=>?_
 refine⟨(sB ?_),rfl⟩
 rotate_left
 refine dsp (fun h10 p10=>?_) fun h10 p10=>?_
 refine⟨(sB ?_),rfl⟩
 rotate_left
 refine⟨(sB ?_),rfl⟩
 rotate_left
 all_goals first|((simp only[Dc,hib];simp[F9,De, *];done))|(grind[Dc,De,F9])
theorem Adj (s:Scn):Fun Tryz.prog 147 [.agg (Kx s)] [] (.v (vB (Db s))) []:=by
 have hN:Bf=274877906944:=rfl
 refine Aq Tryz.func147 Q4 Q4 (w:=let z1:=7*s.have_;let z2:=Am s.have_ 0 9;(.seg [.call [] (.v (vB z2)) []] (.br (.seg [.as 11 (.v (vI z1)),.as 12 (.v (.c (.int .u64 z1)))] (.leaf () [])) (.leaf () [])),(Fun Tryz.prog 79 [vI s.have_,vI 0,vI 9] [] (.v (vB z2)) [])∧(z2=true→((.v (vI (IntKind.i64.wrap z1)):S)= .v (vI z1))∧((.v (.c (.int .u64 (IntKind.u64.wrap z1))):S)= .v (.c (.int .u64 z1)))∧((0:Int)≤7*s.have_)∧(.v (vB (decide (Int.fdiv s.bits (2 ^ min (Int.toNat z1) 64)=0))):S)= .v (vB (Db s))∧([]:List Blk)=[])∧(z2=false→(.v (vB false):S)= .v (vB (Db s))∧([]:List Blk)=[]))) Q4 ?_
 refine⟨(Cc _ _ _),fun h1=>have p1:=As h1;?_,fun h1=>have p1:=A0 h1;?_⟩
 refine⟨(Ae Q2 Q2),(B0 Q2 Q2),Q2,(sB ?_),rfl⟩
 rotate_left
 refine⟨(sB ?_),rfl⟩
 rotate_left
 all_goals first|(simp_all[Db];done)|(grind[Db])
theorem Vd (s:Scn):Fun Tryz.prog 136 [.agg (Kx s)] [] (.v (vB (Db s))) []:=by
 have hN:Bf=274877906944:=rfl
 refine Aq Tryz.func136 Q4 Q4 (w:=let z1:=7*s.have_;let z2:=Am s.have_ 0 9;(.seg [.call [] (.v (vB z2)) []] (.br (.seg [.as 11 (.v (vI z1)),.as 12 (.v (.c (.int .u64 z1)))] (.leaf () [])) (.leaf () [])),(Fun Tryz.prog 59 [vI s.have_,vI 0,vI 9] [] (.v (vB z2)) [])∧(z2=true→((.v (vI (IntKind.i64.wrap z1)):S)= .v (vI z1))∧((.v (.c (.int .u64 (IntKind.u64.wrap z1))):S)= .v (.c (.int .u64 z1)))∧((0:Int)≤7*s.have_)∧(.v (vB (decide (Int.fdiv s.bits (2 ^ min (Int.toNat z1) 64)=0))):S)= .v (vB (Db s))∧([]:List Blk)=[])∧(z2=false→(.v (vB false):S)= .v (vB (Db s))∧([]:List Blk)=[]))) Q4 ?_
 refine⟨(Be _ _ _),fun h1=>have p1:=As h1;?_,fun h1=>have p1:=A0 h1;?_⟩
 refine⟨(Ae Q2 Q2),(B0 Q2 Q2),Q2,(sB ?_),rfl⟩
 rotate_left
 refine⟨(sB ?_),rfl⟩
 rotate_left
 all_goals first|(simp_all[Db];done)|(grind[Db])
theorem Qk (d:Dcd):Fun Tryz.prog 121 [.agg (Bt d)] [] (.v (vI (Bq d))) []:=by
 have hN:Bf=274877906944:=rfl
 refine Aq Tryz.func121 Q4 Q4 (w:=let z1:=Bw d.field.kind;let z2:=vI (Ay d.wire);(.br (.seg [.call [] (.v z2) []] (.leaf () [])) (.br (.seg [.call [] (.v (vI z1)) [],.call [] (.v (vI (Ay z1))) []] (.leaf () [])) (.leaf () [])),((decide (d.mode=5))=true→(Fun Tryz.prog 146 [vI d.wire] [] (.v z2) [])∧(.v z2:S)= .v (vI (Bq d))∧([]:List Blk)=[])∧((decide (d.mode=5))=false→((decide (d.mode=8))=true→(Fun Tryz.prog 174 [vI d.field.kind] [] (.v (vI z1)) [])∧(Fun Tryz.prog 146 [vI z1] [] (.v (vI (Ay z1))) [])∧(.v (vI (Ay z1)):S)= .v (vI (Bq d))∧([]:List Blk)=[])∧((decide (d.mode=8))=false→(.v (vI 0):S)= .v (vI (Bq d))∧([]:List Blk)=[])))) Q4 ?_
 refine dsp (fun h1 p1=>?_) fun h1 p1=>?_
 refine⟨(Fe _),(sI ?_),rfl⟩
 rotate_left
 refine dsp (fun h2 p2=>?_) fun h2 p2=>?_
 refine⟨(Zc _),(Fe _),(sI ?_),rfl⟩
 rotate_left
 refine⟨(sI ?_),rfl⟩
 rotate_left
 all_goals first|(simp_all[Bq];done)|(grind[Bq])
theorem Jq (d:Dcd):Fun Tryz.prog 60 [.agg (Bt d)] [] (.v (vI (Bq d))) []:=by
 have hN:Bf=274877906944:=rfl
 refine Aq Tryz.func60 Q4 Q4 (w:=let z1:=Bw d.field.kind;let z2:=vI (Ay d.wire);(.br (.seg [.call [] (.v z2) []] (.leaf () [])) (.br (.seg [.call [] (.v (vI z1)) [],.call [] (.v (vI (Ay z1))) []] (.leaf () [])) (.leaf () [])),((decide (d.mode=5))=true→(Fun Tryz.prog 74 [vI d.wire] [] (.v z2) [])∧(.v z2:S)= .v (vI (Bq d))∧([]:List Blk)=[])∧((decide (d.mode=5))=false→((decide (d.mode=8))=true→(Fun Tryz.prog 124 [vI d.field.kind] [] (.v (vI z1)) [])∧(Fun Tryz.prog 74 [vI z1] [] (.v (vI (Ay z1))) [])∧(.v (vI (Ay z1)):S)= .v (vI (Bq d))∧([]:List Blk)=[])∧((decide (d.mode=8))=false→(.v (vI 0):S)= .v (vI (Bq d))∧([]:List Blk)=[])))) Q4 ?_
 refine dsp (fun h1 p1=>?_) fun h1 p1=>?_
 refine⟨(Dv _),(sI ?_),rfl⟩
 rotate_left
 refine dsp (fun h2 p2=>?_) fun h2 p2=>?_
 refine⟨(Qj _),(Dv _),(sI ?_),rfl⟩
 rotate_left
 refine⟨(sI ?_),rfl⟩
 rotate_left
 all_goals first|(simp_all[Bq];done)|(grind[Bq])
structure Ly where
 v:Nat
def J4 (p:Pln) (f:Fld):Fam:=⟨Ly,fun q1=>[(2,.v (vP 0)),(3,.v (vP 1)),(11,.v (vI ((List.length p.shapes:Nat):Int))),(12,.v (vI ((q1.v:Nat):Int)))],fun _=>[.cells (N6 p),.cells (F2 f)],fun q1=>q1.v≤List.length p.shapes∧E8 p.shapes f q1.v=false,fun q1=>List.length p.shapes-q1.v⟩
theorem Am4 (p:Pln) (f:Fld) (hp1:List.length (p).shapes≤1000) (hp2: ∀x∈(p).shapes,List.length x.fields≤1000):Fun Tryz.prog 82 [.agg (N6 p),.agg (F2 f)] [] (.v (vB (known (p).shapes f))) []:=by
 have hN:Bf=274877906944:=rfl
 refine Aq Tryz.func82 Q4 Q4 (w:=let z4:=((List.length p.shapes:Nat):Int);let z5:List Blk:=[.cells (N6 p),.cells (F2 f)];let z6:=J4 p f;(.seg [.at 0,.keep [2,3,11,12],.sel [0,1]] (.loop z6 fun q1=>let z1:=((q1.v:Nat):Int);.br (.seg [.call [] (.tup [.agg (F2 ((fieldAt p.shapes z1 f.number).getD fld0)),vB (fieldAt p.shapes z1 f.number).isSome]) []] (.br (.br (.leaf () []) (.seg [.as 30 (.v (vI (z1+1))),.at 0,.keep [2,3,11,12],.sel [0,1]] (.next))) (.seg [.as 30 (.v (vI (z1+1))),.at 0,.keep [2,3,11,12],.sel [0,1]] (.next)))) (.leaf () [])),z6.Has [(2,.v (vP 0)),(3,.v (vP 1)),(11,.v (vI z4)),(12,.v (vI 0))] z5∧∀q1,z6.inv q1→(let z3:=((q1.v:Nat):Int);let z2:=fieldAt p.shapes z3 f.number;((decide (z3<z4))=true→(Fun Tryz.prog 140 [.agg [.seq .shp p.shapes],vI z3,vI f.number] [] (.tup [.agg (F2 (z2.getD fld0)),vB z2.isSome]) [])∧(z2.isSome=true→((decide ((z2.getD fld0).number=f.number)&&(decide ((z2.getD fld0).kind=f.kind)&&(decide ((z2.getD fld0).rep=f.rep)&&(decide ((z2.getD fld0).packed=f.packed)&&decide ((z2.getD fld0).msg=f.msg)))))=true→(.v (vB true):S)= .v (vB (known (p).shapes f))∧([]:List Blk)=[])∧((decide ((z2.getD fld0).number=f.number)&&(decide ((z2.getD fld0).kind=f.kind)&&(decide ((z2.getD fld0).rep=f.rep)&&(decide ((z2.getD fld0).packed=f.packed)&&decide ((z2.getD fld0).msg=f.msg)))))=false→((.v (vI (IntKind.i64.wrap (z3+1))):S)= .v (vI (z3+1)))∧z6.Nxt q1 [(2,.v (vP 0)),(3,.v (vP 1)),(11,.v (vI z4)),(12,.v (vI (z3+1)))] z5))∧(z2.isSome=false→((.v (vI (IntKind.i64.wrap (z3+1))):S)= .v (vI (z3+1)))∧z6.Nxt q1 [(2,.v (vP 0)),(3,.v (vP 1)),(11,.v (vI z4)),(12,.v (vI (z3+1)))] z5))∧((decide (z3<z4))=false→(.v (vB false):S)= .v (vB (known (p).shapes f))∧([]:List Blk)=[])))) Q4 ?_
 refine⟨Bi (j:=(⟨0⟩:Ly)) Q10 rfl (by dsimp only[J4];exact⟨by omega,rfl⟩),fun (q1:Ly) hq_q1=>?_⟩
 have hi_q1:q1.v≤List.length p.shapes∧E8 p.shapes f q1.v=false:=hq_q1
 obtain ⟨v1,v2⟩:=hi_q1
 refine dsp (fun h1 p1=>?_) fun h1 p1=>?_
 refine⟨(Wi p.shapes _ _ Q2 Q2),fun h2=>?_,fun h2=>?_⟩
 obtain ⟨o,ho⟩:=Option.isSome_iff_exists.1 h2
 have hg:(fieldAt p.shapes (q1.v:Int) f.number).getD fld0=o:=by rw[ho];rfl
 refine⟨fun h3=>have p3:=(Cg dT (Cg dT (Cg dT (Cg dT dT)))).1 h3;?_,fun h3=>have p3:=(Ch dT (Ch dT (Ch dT (Ch dT dF)))).1 h3;?_⟩
 rw[hg] at p3
 have hkk:=Y6 (by omega) (show (fieldAt p.shapes (q1.v:Int) f.number)=some f by rw[ho,Agx p3])
 refine⟨(sB ?_),rfl⟩
 rotate_left
 rw[hg] at p3
 have hkn:E8 p.shapes f (q1.v+1)=false:=Mz v2 (by rw[ho];intro e;exact Agy p3 (Option.some.inj e))
 exact⟨(Ae Q2 Q2),A5 (j:=(⟨q1.v+1⟩:Ly)) Q10 rfl (by dsimp only[J4];exact⟨by omega,hkn⟩) (by dsimp only[J4];omega)⟩
 have hkn:E8 p.shapes f (q1.v+1)=false:=Mz v2 (by intro e;rw[e] at h2;simp at h2)
 exact⟨(Ae Q2 Q2),A5 (j:=(⟨q1.v+1⟩:Ly)) Q10 rfl (by dsimp only[J4];exact⟨by omega,hkn⟩) (by dsimp only[J4];omega)⟩
 have hkk:=Add v2 (by omega)
 refine⟨(sB ?_),rfl⟩
 rotate_left
 all_goals first|(exact hkk.symm)|(grind)
structure Gx where
 i:Nat
def Fo (d:Dcd):Fam:=⟨Gx,fun q1=>[(1,.v (vP 0)),(3,.v (vI ((q1.i:Nat):Int)))],fun _=>[.cells (Bt d)],fun q1=>q1.i≤List.length d.plan.shapes∧E8 d.plan.shapes d.field q1.i=false,fun q1=>List.length d.plan.shapes-q1.i⟩
theorem Aeu (d:Dcd) (hp1:List.length (d).plan.shapes≤1000) (hp2: ∀x∈(d).plan.shapes,List.length x.fields≤1000):Fun Tryz.prog 70 [.agg (Bt d)] [] (.v (vB (decide ((d).field=fld0)||known (d).plan.shapes (d).field))) []:=by
 have hN:Bf=274877906944:=rfl
 refine Aq Tryz.func70 Q4 Q4 (w:=let z5:=decide (d.field.number=0)&&(decide (d.field.kind=0)&&(decide (d.field.rep=false)&&(decide (d.field.packed=false)&&decide (d.field.msg=0))));let z6:=vB (decide ((d).field=fld0)||known (d).plan.shapes (d).field);let z7:=Fo d;let z8:=((List.length d.plan.shapes:Nat):Int);(.br (.leaf () []) (.seg [.at 0,.keep [1,3],.sel [0]] (.loop z7 fun q1=>let z2:=((q1.i:Nat):Int);let z1:=fieldAt d.plan.shapes z2 d.field.number;.br (.seg [.call [] (.tup [.agg (F2 (z1.getD fld0)),vB z1.isSome]) []] (.br (.br (.leaf () []) (.seg [.as 18 (.v (vI (z2+1))),.at 0,.keep [1,3],.sel [0]] (.next))) (.seg [.as 18 (.v (vI (z2+1))),.at 0,.keep [1,3],.sel [0]] (.next)))) (.leaf () []))),(z5=true→(.v (vB true):S)= .v z6∧([]:List Blk)=[])∧(z5=false→z7.Has [(1,.v (vP 0)),(3,.v (vI 0))] [.cells (Bt d)]∧∀q1,z7.inv q1→(let z4:=((q1.i:Nat):Int);let z3:=fieldAt d.plan.shapes z4 d.field.number;((decide (z4<z8))=true→(Fun Tryz.prog 133 [.agg [.seq .shp d.plan.shapes],vI z4,vI d.field.number] [] (.tup [.agg (F2 (z3.getD fld0)),vB z3.isSome]) [])∧(z3.isSome=true→((decide ((z3.getD fld0).number=d.field.number)&&(decide ((z3.getD fld0).kind=d.field.kind)&&(decide ((z3.getD fld0).rep=d.field.rep)&&(decide ((z3.getD fld0).packed=d.field.packed)&&decide ((z3.getD fld0).msg=d.field.msg)))))=true→(.v (vB true):S)= .v z6∧([]:List Blk)=[])∧((decide ((z3.getD fld0).number=d.field.number)&&(decide ((z3.getD fld0).kind=d.field.kind)&&(decide ((z3.getD fld0).rep=d.field.rep)&&(decide ((z3.getD fld0).packed=d.field.packed)&&decide ((z3.getD fld0).msg=d.field.msg)))))=false→((.v (vI (IntKind.i64.wrap (z4+1))):S)= .v (vI (z4+1)))∧z7.Nxt q1 [(1,.v (vP 0)),(3,.v (vI (z4+1)))] [.cells (Bt d)]))∧(z3.isSome=false→((.v (vI (IntKind.i64.wrap (z4+1))):S)= .v (vI (z4+1)))∧z7.Nxt q1 [(1,.v (vP 0)),(3,.v (vI (z4+1)))] [.cells (Bt d)]))∧((decide (z4<z8))=false→(.v (vB false):S)= .v z6∧([]:List Blk)=[]))))) Q4 ?_
 refine⟨fun h1=>have p1:=(Cg dT (Cg dT (Cg dT (Cg dT dT)))).1 h1;?_,fun h1=>have p1:=(Ch dT (Ch dT (Ch dT (Ch dT dF)))).1 h1;?_⟩
 refine⟨(sB ?_),rfl⟩
 rotate_left
 refine⟨Bi (j:=(⟨0⟩:Gx)) Q10 rfl (by dsimp only[Fo];exact⟨by omega,rfl⟩),fun (q1:Gx) hq_q1=>?_⟩
 have hi_q1:q1.i≤List.length d.plan.shapes∧E8 d.plan.shapes d.field q1.i=false:=hq_q1
 obtain ⟨v1,v2⟩:=hi_q1
 refine dsp (fun h2 p2=>?_) fun h2 p2=>?_
 refine⟨(Wj d.plan.shapes _ _ Q2 Q2),fun h3=>?_,fun h3=>?_⟩
 obtain ⟨o,ho⟩:=Option.isSome_iff_exists.1 h3
 have hg:(fieldAt d.plan.shapes (q1.i:Int) d.field.number).getD fld0=o:=by rw[ho];rfl
 refine⟨fun h4=>have p4:=(Cg dT (Cg dT (Cg dT (Cg dT dT)))).1 h4;?_,fun h4=>have p4:=(Ch dT (Ch dT (Ch dT (Ch dT dF)))).1 h4;?_⟩
 rw[hg] at p4
 have hkk:=Y6 (by omega) (show (fieldAt d.plan.shapes (q1.i:Int) d.field.number)=some d.field by rw[ho,Agx p4])
 refine⟨(sB ?_),rfl⟩
 rotate_left
 rw[hg] at p4
 have hkn:E8 d.plan.shapes d.field (q1.i+1)=false:=Mz v2 (by rw[ho];intro e;exact Agy p4 (Option.some.inj e))
 exact⟨(Ae Q2 Q2),A5 (j:=(⟨q1.i+1⟩:Gx)) Q10 rfl (by dsimp only[Fo];exact⟨by omega,hkn⟩) (by dsimp only[Fo];omega)⟩
 have hkn:E8 d.plan.shapes d.field (q1.i+1)=false:=Mz v2 (by intro e;rw[e] at h3;simp at h3)
 exact⟨(Ae Q2 Q2),A5 (j:=(⟨q1.i+1⟩:Gx)) Q10 rfl (by dsimp only[Fo];exact⟨by omega,hkn⟩) (by dsimp only[Fo];omega)⟩
 have hkk:=Add v2 (by omega)
 refine⟨(sB ?_),rfl⟩
 rotate_left
 all_goals first|(simp[hkk];done)|((rw[hkk];simp_all[fld0];done))|((have hz:=Y7 p1;simp[hz];done))|(grind[fld0])
theorem Ve {s:Scn} :s=scn0↔s.bits=0∧s.have_=0:=⟨fun h=>by subst h;exact⟨rfl,rfl⟩,fun h=>by cases s;simp_all[scn0]⟩
theorem Cw {f:Fld} :f=fld0↔f.number=0∧f.kind=0∧f.rep=false∧f.packed=false∧f.msg=0:=⟨fun h=>by subst h;exact⟨rfl,rfl,rfl,rfl,rfl⟩,Y7⟩
theorem Tq {e:Ev} :e=ev0↔e.kind=0∧e.field=0∧e.bits=0∧e.len=0∧e.text=[]∧e.code=0∧e.at_=0:=⟨fun h=>by subst h;exact⟨rfl,rfl,rfl,rfl,rfl,rfl,rfl⟩,fun h=>Aoh h⟩
theorem Ho (d:Dcd):0≤Bq d∧Bq d≤8:=by
 unfold Bq
 have h1:=Eb d.wire
 have h2:=Eb (Bw d.field.kind)
 split
 ·exact h1
 ·split
  ·exact h2
  ·omega
structure M3 where
 i:Nat
def M4 (d:Dcd):Fam:=⟨M3,fun q1=>[(1,.v (vP 0)),(3,.v (vI ((List.length d.stack:Nat):Int))),(4,.v (vI ((q1.i:Nat):Int)))],fun _=>[.cells (Bt d)],fun q1=>q1.i≤List.length d.stack∧Xj (List.length d.plan.shapes:Int) (List.drop q1.i d.stack)+q1.i=Xj (List.length d.plan.shapes:Int) d.stack,fun q1=>List.length d.stack-q1.i⟩
theorem Ajn (d:Dcd) (hp1:List.length (d).stack≤Bf) (hp2:List.length (d).plan.shapes≤1000):Fun Tryz.prog 71 [.agg (Bt d)] [] (.v (vB (Pp d))) []:=by
 have hN:Bf=274877906944:=rfl
 refine Aq Tryz.func71 Q4 Q4 (w:=let z7:=((List.length d.plan.shapes:Nat):Int)-1;let z8:=((List.length d.stack:Nat):Int);let z9:=(.v (vI (IntKind.i64.wrap z7)):S)= .v (vI z7);let z10:=Am z8 1 d.plan.deep;let z11:=vB (Pp d);let z12:=([]:List Blk);let z13:=M4 d;let z14:=(.v (vB false):S);(.seg [.at 0,.keep [1,3,4],.sel [0]] (.loop z13 fun q1=> .br (.intro (fun (x1:Lev)=>d.stack[q1.i]? =some x1) fun x1=>let z1:=Am x1.msg 0 z7;.case (!z1) (.seg [.ord (os 24 [12,21]) [],.el .lev x1,.as 24 (.v (vI z7)),.call [] (.v (vB z1)) [],.br true] (.leaf () [])) (.seg [.ord (os 24 [12,21]) [],.el .lev x1,.as 24 (.v (vI z7)),.call [] (.v (vB z1)) [],.br false,.el .lev x1,.call [] (.v (vB (Am x1.left 0 2000))) []] (.br (.leaf () []) (.seg [.as 12 (.v (vI (((q1.i:Nat):Int)+1))),.at 0,.keep [1,3,4],.sel [0]] (.next))))) (.br (.leaf () []) (.br (.leaf () []) (.seg [.call [] (.v (vB z10)) []] (.br (.seg [.call [] (.v (vI (Di d))) []] (.leaf () [])) (.leaf () [])))))),z13.Has [(1,.v (vP 0)),(3,.v (vI z8)),(4,.v (vI 0))] [.cells (Bt d)]∧∀q1,z13.inv q1→(let z6:=((q1.i:Nat):Int);((decide (z6<z8))=true→(∃(x1:Lev),d.stack[q1.i]? =some x1)∧∀(x1:Lev),(d.stack[q1.i]? =some x1)→(let z2:=Am x1.msg 0 z7;let z3:=d.stack[q1.i]? =some x1;let z4:List V:=[vI x1.msg,vI 0,vI z7];let z5:=Am x1.left 0 2000;((!z2)=true→z3∧((0:Int)≤z6)∧z3∧((0:Int)≤z6)∧z9∧z9∧(Fun Tryz.prog 59 z4 [] (.v (vB z2)) [])∧((!z2)=true)∧z14= .v z11∧z12=[])∧((!z2)=false→z3∧((0:Int)≤z6)∧z3∧((0:Int)≤z6)∧z9∧z9∧(Fun Tryz.prog 59 z4 [] (.v (vB z2)) [])∧((!z2)=false)∧z3∧((0:Int)≤z6)∧z3∧((0:Int)≤z6)∧(Fun Tryz.prog 59 [vI x1.left,vI 0,vI 2000] [] (.v (vB z5)) [])∧((!z5)=true→z14= .v z11∧z12=[])∧((!z5)=false→((.v (vI (IntKind.i64.wrap (z6+1))):S)= .v (vI (z6+1)))∧z13.Nxt q1 [(1,.v (vP 0)),(3,.v (vI z8)),(4,.v (vI (z6+1)))] [.cells (Bt d)]))))∧((decide (z6<z8))=false→((decide (d.mode=1))=true→(.v (vB (decide (z8=0))):S)= .v z11∧z12=[])∧((decide (d.mode=1))=false→((decide (d.mode=9))=true→(.v (vB (decide (z8≤d.plan.deep))):S)= .v z11∧z12=[])∧((decide (d.mode=9))=false→(Fun Tryz.prog 59 [vI z8,vI 1,vI d.plan.deep] [] (.v (vB z10)) [])∧(z10=true→(Fun Tryz.prog 73 [.agg (Bt d)] [] (.v (vI (Di d))) [])∧(.v (vB (decide (1≤Di d))):S)= .v z11∧z12=[])∧(z10=false→z14= .v z11∧z12=[]))))))) Q4 ?_
 refine⟨Bi (j:=(⟨0⟩:M3)) Q10 rfl (by dsimp only[M4];exact⟨by omega,rfl⟩),fun (q1:M3) hq_q1=>?_⟩
 have hi_q1:q1.i≤List.length d.stack∧Xj (List.length d.plan.shapes:Int) (List.drop q1.i d.stack)+q1.i=Xj (List.length d.plan.shapes:Int) d.stack:=hq_q1
 obtain ⟨v1,v2⟩:=hi_q1
 refine dsp (fun h1 p1=>?_) fun h1 p1=>?_
 refine⟨(Bh (l:=d.stack) (i:=q1.i) Q2),fun x1 hx1=>?_⟩
 rw[C9 hx1,Sq] at v2
 refine⟨fun h2=>have q2:=Ap h2;have p2:=A0 q2;?_,fun h2=>have q2:=An h2;have p2:=As q2;?_⟩
 refine⟨hx1,Q2,hx1,Q2,(Ae Q2 Q2),(Ae Q2 Q2),(Be _ _ _),h2,(sB ?_),rfl⟩
 rotate_left
 refine⟨hx1,Q2,hx1,Q2,(Ae Q2 Q2),(Ae Q2 Q2),(Be _ _ _),h2,hx1,Q2,hx1,Q2,(Be _ _ _),fun h3=>have q3:=Ap h3;have p3:=A0 q3;?_,fun h3=>have q3:=An h3;have p3:=As q3;?_⟩
 refine⟨(sB ?_),rfl⟩
 rotate_left
 exact⟨(Ae Q2 Q2),A5 (j:=(⟨q1.i+1⟩:M3)) Q10 rfl (by dsimp only[M4];exact⟨by omega,by simp_all[E1];omega⟩) (by dsimp only[M4];omega)⟩
 have hal:List.all d.stack (E1 (List.length d.plan.shapes:Int))=true:=by rw[My];rw[List.drop_eq_nil_of_le (by omega)] at v2;simp only[Xj] at v2;exact decide_eq_true (by omega)
 refine dsp (fun h2 p2=>?_) fun h2 p2=>?_
 refine⟨(sB ?_),rfl⟩
 rotate_left
 refine dsp (fun h3 p3=>?_) fun h3 p3=>?_
 refine⟨(sB ?_),rfl⟩
 rotate_left
 refine⟨(Be _ _ _),fun h4=>have p4:=As h4;?_,fun h4=>have p4:=A0 h4;?_⟩
 refine⟨(N2 d Q2),(sB ?_),rfl⟩
 rotate_left
 refine⟨(sB ?_),rfl⟩
 rotate_left
 all_goals first|(simp_all[Pp];done)|((have hal:List.all d.stack (E1 (List.length d.plan.shapes:Int))=false:=(by rw[My];rw[if_neg (by simp_all[E1])] at v2;exact decide_eq_false (by have:=congrArg List.length (C9 hx1);simp only[List.length_drop,List.length_cons] at this;omega));simp[Pp,hal];done))|(grind[Pp])
theorem Pq (d:Dcd) (hp1:List.length (d).stack≤Bf):Fun Tryz.prog 77 [.agg (Bt d)] [] (.v (vB (Ab6 d))) []:=by
 have hN:Bf=274877906944:=rfl
 have hwd:=Ho d
 refine Aq Tryz.func77 Q4 Q4 (w:=let z3:=8*d.scan.have_;let z4:=decide (Int.fdiv d.scan.bits (2 ^ min (Int.toNat z3) 64)=0);let z8:=vB (Db d.scan);let z9:=(.v (vB (decide (d.scan.bits=0)&&decide (d.scan.have_=0))):S);let z10:=decide (d.mode=8);let z11:=([]:List Blk);let z12:=vB (Ab6 d);let z13:=Bq d-1;let z2:=Am d.scan.have_ 0 z13;let z5:=z2=false→(.v (vB false):S)= .v z12∧z11=[];let z14:=(.v (.c (.int .u64 (IntKind.u64.wrap z3))):S)= .v (.c (.int .u64 z3));let z15:=decide (Bq d=0);let z16:=z4=false→(.v (vB false):S)= .v z12∧z11=[];let z17:=vI (Di d);let z18:List V:=[vI d.scan.have_,vI 0,vI z13];let z19:=(.v (vI (IntKind.i64.wrap z3)):S)= .v (vI z3);let z21:=decide (d.mode=6);let z22:=decide (d.mode=7);let z23:=decide (d.mode=5);let z24:=Bq d;let z6:=(.v (vI (IntKind.i64.wrap (z24-1))):S)= .v (vI z13);let z7:=z24-d.scan.have_;let z20:=(.v (vI (IntKind.i64.wrap z7)):S)= .v (vI z7);let z1:=z2=true→z19∧z14∧((0:Int)≤8*d.scan.have_)∧(z4=true→z20∧(.v (vB (decide (z24-d.scan.have_≤d.want))):S)= .v z12∧z11=[])∧z16;(.seg [.call [] (.v (vI z24)) []] (.br (.seg [.br true] (.leaf () [])) (.br (.seg [.br true] (.leaf () [])) (.br (.leaf () []) (.br (.seg [.br true] (.br (.br (.seg [.call [] (.v z8) []] (.leaf () [])) (.seg [.call [] (.v z17) [],.br true,.as 41 (.v (vI z13)),.call [] (.v (vB z2)) []] (.br (.seg [.as 50 (.v (vI z3)),.as 51 (.v (.c (.int .u64 z3)))] (.br (.seg [.as 60 (.v (vI z7))] (.leaf () [])) (.leaf () []))) (.leaf () [])))) (.seg [.call [] (.v z17) [],.br false,.as 41 (.v (vI z13)),.call [] (.v (vB z2)) []] (.br (.seg [.as 50 (.v (vI z3)),.as 51 (.v (.c (.int .u64 z3)))] (.br (.seg [.as 60 (.v (vI z7))] (.leaf () [])) (.leaf () []))) (.leaf () []))))) (.br (.seg [.br true] (.br (.seg [.call [] (.v z8) []] (.leaf () [])) (.seg [.call [] (.v z17) [],.br true,.as 41 (.v (vI z13)),.call [] (.v (vB z2)) []] (.br (.seg [.as 50 (.v (vI z3)),.as 51 (.v (.c (.int .u64 z3)))] (.br (.seg [.as 60 (.v (vI z7))] (.leaf () [])) (.leaf () []))) (.leaf () []))))) (.seg [.call [] (.v z8) []] (.leaf () []))))))),(Fun Tryz.prog 60 [.agg (Bt d)] [] (.v (vI z24)) [])∧(z21=true→(z21=true)∧z9= .v z12∧z11=[])∧(z21=false→(z22=true→(z22=true)∧z9= .v z12∧z11=[])∧(z22=false→((decide (d.mode=9))=true→z9= .v z12∧z11=[])∧((decide (d.mode=9))=false→(z23=true→(z23=true)∧(z10=true→(z15=true→(Fun Tryz.prog 136 [.agg (Kx d.scan)] [] (.v z8) [])∧(.v z8:S)= .v z12∧z11=[])∧(z15=false→(Fun Tryz.prog 73 [.agg (Bt d)] [] (.v z17) [])∧(z10=true)∧z6∧(Fun Tryz.prog 59 z18 [] (.v (vB z2)) [])∧z1∧z5))∧(z10=false→(Fun Tryz.prog 73 [.agg (Bt d)] [] (.v z17) [])∧(z10=false)∧z6∧(Fun Tryz.prog 59 z18 [] (.v (vB z2)) [])∧(z2=true→z19∧z14∧((0:Int)≤8*d.scan.have_)∧(z4=true→z20∧(.v (vB (decide (z24-d.scan.have_≤Di d))):S)= .v z12∧z11=[])∧z16)∧z5))∧(z23=false→(z10=true→(z10=true)∧(z15=true→(Fun Tryz.prog 136 [.agg (Kx d.scan)] [] (.v z8) [])∧(.v z8:S)= .v z12∧z11=[])∧(z15=false→(Fun Tryz.prog 73 [.agg (Bt d)] [] (.v z17) [])∧(z10=true)∧z6∧(Fun Tryz.prog 59 z18 [] (.v (vB z2)) [])∧z1∧z5))∧(z10=false→(Fun Tryz.prog 136 [.agg (Kx d.scan)] [] (.v z8) [])∧(.v z8:S)= .v z12∧z11=[]))))))) Q4 ?_
 refine⟨(Jq d),dsp (fun h1 p1=>?_) fun h1 p1=>?_⟩
 refine⟨h1,(sB ?_),rfl⟩
 rotate_left
 refine dsp (fun h2 p2=>?_) fun h2 p2=>?_
 refine⟨h2,(sB ?_),rfl⟩
 rotate_left
 refine dsp (fun h3 p3=>?_) fun h3 p3=>?_
 refine⟨(sB ?_),rfl⟩
 rotate_left
 refine dsp (fun h4 p4=>?_) fun h4 p4=>?_
 refine⟨h4,dsp (fun h5 p5=>?_) fun h5 p5=>?_⟩
 refine dsp (fun h6 p6=>?_) fun h6 p6=>?_
 refine⟨(Vd d.scan),(sB ?_),rfl⟩
 rotate_left
 refine⟨(N2 d Q2),h5,(Ae Q2 Q2),(Be _ _ _),fun h7=>have p7:=As h7;?_,fun h7=>have p7:=A0 h7;?_⟩
 refine⟨(Ae Q2 Q2),(B0 Q2 Q2),Q2,dsp (fun h8 p8=>?_) fun h8 p8=>?_⟩
 refine⟨(Ae Q2 Q2),(sB ?_),rfl⟩
 rotate_left
 refine⟨(sB ?_),rfl⟩
 rotate_left
 refine⟨(sB ?_),rfl⟩
 rotate_left
 refine⟨(N2 d Q2),h5,(Ae Q2 Q2),(Be _ _ _),fun h6=>have p6:=As h6;?_,fun h6=>have p6:=A0 h6;?_⟩
 refine⟨(Ae Q2 Q2),(B0 Q2 Q2),Q2,dsp (fun h7 p7=>?_) fun h7 p7=>?_⟩
 refine⟨(Ae Q2 Q2),(sB ?_),rfl⟩
 rotate_left
 refine⟨(sB ?_),rfl⟩
 rotate_left
 refine⟨(sB ?_),rfl⟩
 rotate_left
 refine dsp (fun h5 p5=>?_) fun h5 p5=>?_
 refine⟨h5,dsp (fun h6 p6=>?_) fun h6 p6=>?_⟩
 refine⟨(Vd d.scan),(sB ?_),rfl⟩
 rotate_left
 refine⟨(N2 d Q2),h5,(Ae Q2 Q2),(Be _ _ _),fun h7=>have p7:=As h7;?_,fun h7=>have p7:=A0 h7;?_⟩
 refine⟨(Ae Q2 Q2),(B0 Q2 Q2),Q2,dsp (fun h8 p8=>?_) fun h8 p8=>?_⟩
 refine⟨(Ae Q2 Q2),(sB ?_),rfl⟩
 rotate_left
 refine⟨(sB ?_),rfl⟩
 rotate_left
 refine⟨(sB ?_),rfl⟩
 rotate_left
 refine⟨(Vd d.scan),(sB ?_),rfl⟩
 rotate_left
 all_goals first|(simp_all[Ab6,Aog,Po,Ve];done)|(grind[Ab6,Aog,Po,Ve])
theorem Cp (d:Dcd) (hp1:List.length (d).stack≤Bf):Fun Tryz.prog 87 [.agg (Bt d)] [] (.v (vB (Kj d))) []:=by
 have hN:Bf=274877906944:=rfl
 have hwd:=Ho d
 refine Aq Tryz.func87 Q4 Q4 (w:=let z3:=8*d.scan.have_;let z2:=decide (Int.fdiv d.scan.bits (2 ^ min (Int.toNat z3) 64)=0);let z4:=(.v (vB (decide (d.scan.bits=0)&&decide (d.scan.have_=0))):S);let z6:=([]:List Blk);let z7:=vB (Kj d);let z9:=(.v (.c (.int .u64 (IntKind.u64.wrap z3))):S)= .v (.c (.int .u64 z3));let z10:=Bq d-1;let z1:=Am d.scan.have_ 0 z10;let z11:=z2=false→(.v (vB false):S)= .v z7∧z6=[];let z12:=z1=false→(.v (vB false):S)= .v z7∧z6=[];let z13:=(.v (vI (IntKind.i64.wrap z3)):S)= .v (vI z3);let z15:=Bq d;let z5:=z15-d.scan.have_;let z8:=(.v (vI (IntKind.i64.wrap (z15-1))):S)= .v (vI z10);let z14:=(.v (vI (IntKind.i64.wrap z5)):S)= .v (vI z5);let z16:=vB (Db d.scan);(.seg [.call [] (.v (vI z15)) []] (.br (.seg [.call [] (.v (vI (Di d))) []] (.br (.seg [.as 21 (.v (vI z10)),.call [] (.v (vB z1)) []] (.br (.seg [.as 30 (.v (vI z3)),.as 31 (.v (.c (.int .u64 z3)))] (.br (.seg [.as 40 (.v (vI z5))] (.leaf () [])) (.leaf () []))) (.leaf () []))) (.seg [.as 21 (.v (vI z10)),.call [] (.v (vB z1)) []] (.br (.seg [.as 30 (.v (vI z3)),.as 31 (.v (.c (.int .u64 z3)))] (.br (.seg [.as 40 (.v (vI z5))] (.leaf () [])) (.leaf () []))) (.leaf () []))))) (.br (.leaf () []) (.br (.leaf () []) (.br (.leaf () []) (.seg [.call [] (.v z16) []] (.leaf () [])))))),(Fun Tryz.prog 121 [.agg (Bt d)] [] (.v (vI z15)) [])∧((decide (0<Bq d))=true→(Fun Tryz.prog 85 [.agg (Bt d)] [] (.v (vI (Di d))) [])∧((decide (d.mode=8))=true→z8∧(Fun Tryz.prog 79 [vI d.scan.have_,vI 0,vI z10] [] (.v (vB z1)) [])∧(z1=true→z13∧z9∧((0:Int)≤8*d.scan.have_)∧(z2=true→z14∧(.v (vB (decide (z15-d.scan.have_≤d.want))):S)= .v z7∧z6=[])∧z11)∧z12)∧((decide (d.mode=8))=false→z8∧(Fun Tryz.prog 79 [vI d.scan.have_,vI 0,vI z10] [] (.v (vB z1)) [])∧(z1=true→z13∧z9∧((0:Int)≤8*d.scan.have_)∧(z2=true→z14∧(.v (vB (decide (z15-d.scan.have_≤Di d))):S)= .v z7∧z6=[])∧z11)∧z12))∧((decide (0<Bq d))=false→((decide (d.mode=6))=true→z4= .v z7∧z6=[])∧((decide (d.mode=6))=false→((decide (d.mode=7))=true→z4= .v z7∧z6=[])∧((decide (d.mode=7))=false→((decide (d.mode=9))=true→z4= .v z7∧z6=[])∧((decide (d.mode=9))=false→(Fun Tryz.prog 147 [.agg (Kx d.scan)] [] (.v z16) [])∧(.v z16:S)= .v z7∧z6=[])))))) Q4 ?_
 refine⟨(Qk d),dsp (fun h1 p1=>?_) fun h1 p1=>?_⟩
 refine⟨(D1 d Q2),dsp (fun h2 p2=>?_) fun h2 p2=>?_⟩
 refine⟨(Ae Q2 Q2),(Cc _ _ _),fun h3=>have p3:=As h3;?_,fun h3=>have p3:=A0 h3;?_⟩
 refine⟨(Ae Q2 Q2),(B0 Q2 Q2),Q2,dsp (fun h4 p4=>?_) fun h4 p4=>?_⟩
 refine⟨(Ae Q2 Q2),(sB ?_),rfl⟩
 rotate_left
 refine⟨(sB ?_),rfl⟩
 rotate_left
 refine⟨(sB ?_),rfl⟩
 rotate_left
 refine⟨(Ae Q2 Q2),(Cc _ _ _),fun h3=>have p3:=As h3;?_,fun h3=>have p3:=A0 h3;?_⟩
 refine⟨(Ae Q2 Q2),(B0 Q2 Q2),Q2,dsp (fun h4 p4=>?_) fun h4 p4=>?_⟩
 refine⟨(Ae Q2 Q2),(sB ?_),rfl⟩
 rotate_left
 refine⟨(sB ?_),rfl⟩
 rotate_left
 refine⟨(sB ?_),rfl⟩
 rotate_left
 refine dsp (fun h2 p2=>?_) fun h2 p2=>?_
 refine⟨(sB ?_),rfl⟩
 rotate_left
 refine dsp (fun h3 p3=>?_) fun h3 p3=>?_
 refine⟨(sB ?_),rfl⟩
 rotate_left
 refine dsp (fun h4 p4=>?_) fun h4 p4=>?_
 refine⟨(sB ?_),rfl⟩
 rotate_left
 refine⟨(Adj d.scan),(sB ?_),rfl⟩
 rotate_left
 all_goals first|(simp_all[Kj,Po,Ve];done)|(grind[Kj,Po,Ve])
theorem Cq (d:Dcd) (hp1:List.length (d).stack≤Bf):Fun Tryz.prog 86 [.agg (Bt d)] [] (.v (vB (Jc d&&Jd d))) []:=by
 have hN:Bf=274877906944:=rfl
 have hww:Ay d.wire=0∨0≤d.wire:=by unfold Ay;split<;>(try split)<;>omega
 refine Aq Tryz.func86 Q4 Q4 (w:=let z1:= !(!(decide (d.field.number=0)&&(decide (d.field.kind=0)&&(decide (d.field.rep=false)&&(decide (d.field.packed=false)&&decide (d.field.msg=0))))));let z2:=vB (Jc d&&Jd d);let z3:=vB (C1 d.field d.wire);let z4:=([]:List Blk);let z5:=Am d.want 1 (Di d);let z7:=(.v (vB false):S);let z8:=decide (d.mode=6);let z9:=decide (d.mode=8);let z10:=vB (Se d.field);let z11:=decide (0<Ay d.wire);let z12:=F2 d.field;let z13:=(!z5)=true→z7= .v z2∧z4=[];let z15:=vI (Ay d.wire);let z16:=decide (d.mode=3);let z17:=decide (d.wire=0);let z18:=decide (d.mode=4);let z19:=decide (d.wire=2);let z20:=vI (Di d);let z21:List V:=[vI d.want,vI 1,vI (Di d)];let z22:=(.v z3:S);let z23:=decide (d.mode=7);let z24:=decide (d.mode=5);let z25:=z17=false→z7= .v z2∧z4=[];let z26:=z19=false→z7= .v z2∧z4=[];let z27:=z11=false→z7= .v z2∧z4=[];let z28:=(.v (vB true):S);let z6:=z1=true→z28= .v z2∧z4=[];let z14:=z24=false→z28= .v z2∧z4=[];(.br (.seg [.br true,.ord (os 6 [3,4]) [],.call [] (.v z20) [],.call [] (.v (vB z5)) []] (.br (.leaf () []) (.seg [.br true] (.br (.leaf () []) (.leaf () []))))) (.br (.seg [.br true,.ord (os 6 [3,4]) [],.call [] (.v z20) [],.call [] (.v (vB z5)) []] (.br (.leaf () []) (.seg [.br false] (.br (.seg [.call [] (.v z10) []] (.leaf () [])) (.br (.br (.br (.leaf () []) (.seg [.call [] (.v z3) []] (.leaf () []))) (.leaf () [])) (.br (.br (.br (.leaf () []) (.seg [.call [] (.v z3) []] (.leaf () []))) (.leaf () [])) (.br (.seg [.call [] (.v z15) []] (.br (.br (.leaf () []) (.seg [.call [] (.v z3) []] (.leaf () []))) (.leaf () []))) (.leaf () [])))))))) (.br (.seg [.ord (os 6 [3,4]) [],.call [] (.v z20) [],.call [] (.v (vB z5)) []] (.br (.leaf () []) (.seg [.br false,.br true,.call [] (.v z10) []] (.leaf () [])))) (.br (.leaf () []) (.seg [.br false,.br false] (.br (.br (.br (.leaf () []) (.seg [.call [] (.v z3) []] (.leaf () []))) (.leaf () [])) (.br (.br (.br (.leaf () []) (.seg [.call [] (.v z3) []] (.leaf () []))) (.leaf () [])) (.br (.seg [.call [] (.v z15) []] (.br (.br (.leaf () []) (.seg [.call [] (.v z3) []] (.leaf () []))) (.leaf () []))) (.leaf () [])))))))),(z8=true→(z8=true)∧(Fun Tryz.prog 85 [.agg (Bt d)] [] (.v z20) [])∧(Fun Tryz.prog 79 z21 [] (.v (vB z5)) [])∧z13∧((!z5)=false→(z8=true)∧((decide (d.field.kind=6))=true→z28= .v z2∧z4=[])∧((decide (d.field.kind=6))=false→(.v (vB (decide (d.field.kind=7))):S)= .v z2∧z4=[])))∧(z8=false→(z23=true→(z23=true)∧(Fun Tryz.prog 85 [.agg (Bt d)] [] (.v z20) [])∧(Fun Tryz.prog 79 z21 [] (.v (vB z5)) [])∧z13∧((!z5)=false→(z8=false)∧(z9=true→(Fun Tryz.prog 144 [.agg z12] [] (.v z10) [])∧(.v z10:S)= .v z2∧z4=[])∧(z9=false→(z16=true→(z17=true→z6∧(z1=false→(Fun Tryz.prog 145 [.agg z12,vI d.wire] [] (.v z3) [])∧z22= .v z2∧z4=[]))∧z25)∧(z16=false→(z18=true→(z19=true→z6∧(z1=false→(Fun Tryz.prog 145 [.agg z12,vI d.wire] [] (.v z3) [])∧z22= .v z2∧z4=[]))∧z26)∧(z18=false→(z24=true→(Fun Tryz.prog 146 [vI d.wire] [] (.v z15) [])∧(z11=true→z6∧(z1=false→(Fun Tryz.prog 145 [.agg z12,vI d.wire] [] (.v z3) [])∧z22= .v z2∧z4=[]))∧z27)∧z14)))))∧(z23=false→(z9=true→(Fun Tryz.prog 85 [.agg (Bt d)] [] (.v z20) [])∧(Fun Tryz.prog 79 z21 [] (.v (vB z5)) [])∧z13∧((!z5)=false→(z8=false)∧(z9=true)∧(Fun Tryz.prog 144 [.agg z12] [] (.v z10) [])∧(.v z10:S)= .v z2∧z4=[]))∧(z9=false→((!decide (d.want=0))=true→z7= .v z2∧z4=[])∧((!decide (d.want=0))=false→(z8=false)∧(z9=false)∧(z16=true→(z17=true→z6∧(z1=false→(Fun Tryz.prog 145 [.agg z12,vI d.wire] [] (.v z3) [])∧z22= .v z2∧z4=[]))∧z25)∧(z16=false→(z18=true→(z19=true→z6∧(z1=false→(Fun Tryz.prog 145 [.agg z12,vI d.wire] [] (.v z3) [])∧z22= .v z2∧z4=[]))∧z26)∧(z18=false→(z24=true→(Fun Tryz.prog 146 [vI d.wire] [] (.v z15) [])∧(z11=true→z6∧(z1=false→(Fun Tryz.prog 145 [.agg z12,vI d.wire] [] (.v z3) [])∧z22= .v z2∧z4=[]))∧z27)∧z14)))))))) Q4 ?_
 refine dsp (fun h1 p1=>?_) fun h1 p1=>?_
 refine⟨h1,(D1 d Q2),(Cc _ _ _),fun h2=>have q2:=Ap h2;have p2:=A0 q2;?_,fun h2=>have q2:=An h2;have p2:=As q2;?_⟩
 refine⟨(sB ?_),rfl⟩
 rotate_left
 refine⟨h1,dsp (fun h3 p3=>?_) fun h3 p3=>?_⟩
 refine⟨(sB ?_),rfl⟩
 rotate_left
 refine⟨(sB ?_),rfl⟩
 rotate_left
 refine dsp (fun h2 p2=>?_) fun h2 p2=>?_
 refine⟨h2,(D1 d Q2),(Cc _ _ _),fun h3=>have q3:=Ap h3;have p3:=A0 q3;?_,fun h3=>have q3:=An h3;have p3:=As q3;?_⟩
 refine⟨(sB ?_),rfl⟩
 rotate_left
 refine⟨h1,dsp (fun h4 p4=>?_) fun h4 p4=>?_⟩
 refine⟨(Ag4 d.field),(sB ?_),rfl⟩
 rotate_left
 refine dsp (fun h5 p5=>?_) fun h5 p5=>?_
 refine dsp (fun h6 p6=>?_) fun h6 p6=>?_
 refine⟨fun h7=>have q7:=Ap h7;have q7':=An q7;have p7:=(Cg dT (Cg dT (Cg dT (Cg dT dT)))).1 q7';?_,fun h7=>have q7:=An h7;have q7':=Ap q7;have p7:=(Ch dT (Ch dT (Ch dT (Ch dT dF)))).1 q7';?_⟩
 refine⟨(sB ?_),rfl⟩
 rotate_left
 refine⟨(Kn d.field _ Q2),(sB ?_),rfl⟩
 rotate_left
 refine⟨(sB ?_),rfl⟩
 rotate_left
 refine dsp (fun h6 p6=>?_) fun h6 p6=>?_
 refine dsp (fun h7 p7=>?_) fun h7 p7=>?_
 refine⟨fun h8=>have q8:=Ap h8;have q8':=An q8;have p8:=(Cg dT (Cg dT (Cg dT (Cg dT dT)))).1 q8';?_,fun h8=>have q8:=An h8;have q8':=Ap q8;have p8:=(Ch dT (Ch dT (Ch dT (Ch dT dF)))).1 q8';?_⟩
 refine⟨(sB ?_),rfl⟩
 rotate_left
 refine⟨(Kn d.field _ Q2),(sB ?_),rfl⟩
 rotate_left
 refine⟨(sB ?_),rfl⟩
 rotate_left
 refine dsp (fun h7 p7=>?_) fun h7 p7=>?_
 refine⟨(Fe _),dsp (fun h8 p8=>?_) fun h8 p8=>?_⟩
 refine⟨fun h9=>have q9:=Ap h9;have q9':=An q9;have p9:=(Cg dT (Cg dT (Cg dT (Cg dT dT)))).1 q9';?_,fun h9=>have q9:=An h9;have q9':=Ap q9;have p9:=(Ch dT (Ch dT (Ch dT (Ch dT dF)))).1 q9';?_⟩
 refine⟨(sB ?_),rfl⟩
 rotate_left
 refine⟨(Kn d.field _ Q2),(sB ?_),rfl⟩
 rotate_left
 refine⟨(sB ?_),rfl⟩
 rotate_left
 refine⟨(sB ?_),rfl⟩
 rotate_left
 refine dsp (fun h3 p3=>?_) fun h3 p3=>?_
 refine⟨(D1 d Q2),(Cc _ _ _),fun h4=>have q4:=Ap h4;have p4:=A0 q4;?_,fun h4=>have q4:=An h4;have p4:=As q4;?_⟩
 refine⟨(sB ?_),rfl⟩
 rotate_left
 refine⟨h1,h3,(Ag4 d.field),(sB ?_),rfl⟩
 rotate_left
 refine⟨fun h4=>have q4:=Ap h4;have p4:=of_decide_eq_false q4;?_,fun h4=>have q4:=An h4;have p4:=of_decide_eq_true q4;?_⟩
 refine⟨(sB ?_),rfl⟩
 rotate_left
 refine⟨h1,h3,dsp (fun h5 p5=>?_) fun h5 p5=>?_⟩
 refine dsp (fun h6 p6=>?_) fun h6 p6=>?_
 refine⟨fun h7=>have q7:=Ap h7;have q7':=An q7;have p7:=(Cg dT (Cg dT (Cg dT (Cg dT dT)))).1 q7';?_,fun h7=>have q7:=An h7;have q7':=Ap q7;have p7:=(Ch dT (Ch dT (Ch dT (Ch dT dF)))).1 q7';?_⟩
 refine⟨(sB ?_),rfl⟩
 rotate_left
 refine⟨(Kn d.field _ Q2),(sB ?_),rfl⟩
 rotate_left
 refine⟨(sB ?_),rfl⟩
 rotate_left
 refine dsp (fun h6 p6=>?_) fun h6 p6=>?_
 refine dsp (fun h7 p7=>?_) fun h7 p7=>?_
 refine⟨fun h8=>have q8:=Ap h8;have q8':=An q8;have p8:=(Cg dT (Cg dT (Cg dT (Cg dT dT)))).1 q8';?_,fun h8=>have q8:=An h8;have q8':=Ap q8;have p8:=(Ch dT (Ch dT (Ch dT (Ch dT dF)))).1 q8';?_⟩
 refine⟨(sB ?_),rfl⟩
 rotate_left
 refine⟨(Kn d.field _ Q2),(sB ?_),rfl⟩
 rotate_left
 refine⟨(sB ?_),rfl⟩
 rotate_left
 refine dsp (fun h7 p7=>?_) fun h7 p7=>?_
 refine⟨(Fe _),dsp (fun h8 p8=>?_) fun h8 p8=>?_⟩
 refine⟨fun h9=>have q9:=Ap h9;have q9':=An q9;have p9:=(Cg dT (Cg dT (Cg dT (Cg dT dT)))).1 q9';?_,fun h9=>have q9:=An h9;have q9':=Ap q9;have p9:=(Ch dT (Ch dT (Ch dT (Ch dT dF)))).1 q9';?_⟩
 refine⟨(sB ?_),rfl⟩
 rotate_left
 refine⟨(Kn d.field _ Q2),(sB ?_),rfl⟩
 rotate_left
 refine⟨(sB ?_),rfl⟩
 rotate_left
 refine⟨(sB ?_),rfl⟩
 rotate_left
 all_goals first|(simp_all[Jc,Jd,Ak5,Cw,F8];done)|(grind[Jc,Jd,Ak5,Cw,F8])
end Go.Proofs.YtcmnedgnppnhoaaGreat.Ax
