/- Schemas. Events. Decoders: what is valid. Decoders: what is valid, more. Decoders: what is valid, whole. Decoders: what is valid, at last. -/
import Derived.Test.YtpchkcpcdbdhdaaGreatKS1
set_option linter.unusedSimpArgs false
set_option linter.unusedVariables false
namespace Go.Proofs.YtpchkcpcdbdhdaaGreat.Ax
open Go.RowKit
theorem Ahq (f:Fld) (before:Int) (n:Int) (hp1:(0:Int)≤n∧n≤1000):Fun Tryz.prog 222 [.agg (Fd f),vI before,vI n] [] (.v (vB (decide (before<(f).number)&&Gj f n))) []:=by
 have hN:bigN=274877906944:=rfl
 refine Af Tryz.func222 (by kernel_rfl) (by kernel_rfl) (w:=let z1:=vB (decide (before<(f).number)&&Gj f n);let z2:=vB (Ak f.msg 0 (n-1));let z4:=([]:List Blk);let z5:=(.v (vB false):S);let z6:=(.v (vI (IntKind.i64.wrap (n-1))):S)= .v (vI (n-1));let z7:=Ez f.number;let z8:=Gb f.kind;let z9:=Ga f.kind;let z10:=decide (f.kind=8);let z3:=z10=false→(.v (vB (decide (f.msg=(-1)))):S)= .v z1∧z4=[];(.seg [.call [] (.v (vB z7)) []] (.br (.leaf () []) (.br (.leaf () []) (.seg [.call [] (.v (vB z9)) []] (.br (.leaf () []) (.br (.br (.leaf () []) (.seg [.call [] (.v (vB z8)) []] (.br (.leaf () []) (.br (.seg [.as 45 (.v (vI (n-1))),.call [] (.v z2) []] (.leaf () [])) (.leaf () []))))) (.br (.seg [.as 45 (.v (vI (n-1))),.call [] (.v z2) []] (.leaf () [])) (.leaf () []))))))),(Fun Tryz.prog 236 [vI f.number] [] (.v (vB z7)) [])∧((!z7)=true→z5= .v z1∧z4=[])∧((!z7)=false→((decide (f.number≤before))=true→z5= .v z1∧z4=[])∧((decide (f.number≤before))=false→(Fun Tryz.prog 237 [vI f.kind] [] (.v (vB z9)) [])∧((!z9)=true→z5= .v z1∧z4=[])∧((!z9)=false→(f.packed=true→((!f.rep)=true→z5= .v z1∧z4=[])∧((!f.rep)=false→(Fun Tryz.prog 234 [vI f.kind] [] (.v (vB z8)) [])∧((!z8)=true→z5= .v z1∧z4=[])∧((!z8)=false→(z10=true→z6∧(Fun Tryz.prog 173 [vI f.msg,vI 0,vI (n-1)] [] (.v z2) [])∧(.v z2:S)= .v z1∧z4=[])∧z3)))∧(f.packed=false→(z10=true→z6∧(Fun Tryz.prog 173 [vI f.msg,vI 0,vI (n-1)] [] (.v z2) [])∧(.v z2:S)= .v z1∧z4=[])∧z3)))))) (by kernel_rfl) ?_
 refine⟨(Aa9 _),fun h1=>have q1:=Am h1;?_,fun h1=>have q1:=Aj h1;?_⟩
 refine⟨(sB ?_),rfl⟩
 rotate_left
 refine dsp (fun h2 p2=>?_) fun h2 p2=>?_
 refine⟨(sB ?_),rfl⟩
 rotate_left
 refine⟨(Aab _),fun h3=>have q3:=Am h3;have p3:=Ay q3;?_,fun h3=>have q3:=Aj h3;have p3:=Ap q3;?_⟩
 refine⟨(sB ?_),rfl⟩
 rotate_left
 refine⟨fun h4=>?_,fun h4=>?_⟩
 refine⟨fun h5=>have q5:=Am h5;?_,fun h5=>have q5:=Aj h5;?_⟩
 refine⟨(sB ?_),rfl⟩
 rotate_left
 refine⟨(Xc _),fun h6=>have q6:=Am h6;have p6:=Ay q6;?_,fun h6=>have q6:=Aj h6;have p6:=Ap q6;?_⟩
 refine⟨(sB ?_),rfl⟩
 rotate_left
 refine dsp (fun h7 p7=>?_) fun h7 p7=>?_
 refine⟨(Ah (by omega) (by omega)),(B1 _ _ _),(sB ?_),rfl⟩
 rotate_left
 refine⟨(sB ?_),rfl⟩
 rotate_left
 refine dsp (fun h5 p5=>?_) fun h5 p5=>?_
 refine⟨(Ah (by omega) (by omega)),(B1 _ _ _),(sB ?_),rfl⟩
 rotate_left
 refine⟨(sB ?_),rfl⟩
 rotate_left
 all_goals first|(simp[Gj, *];done)|(simp_all[Gj];done)|(simp_all[Gj];omega)|(rw[Bool.eq_iff_iff];simp_all[Gj];omega)
theorem Qe (s:List Shp) (f:Fld) (hp1:s.length≤1000):Fun Tryz.prog 189 [.agg [.seq .shp s],.agg (Fd f)] [] (.v (vB (Gj f (s.length:Int)))) []:=by
 have hN:bigN=274877906944:=rfl
 refine Af Tryz.func189 (by kernel_rfl) (by kernel_rfl) (w:=let z1:=(s.length:Int);let z2:=vB (Ak f.msg 0 (z1-1));let z4:=vB (Gj f z1);let z5:=([]:List Blk);let z6:=(.v (vI (IntKind.i64.wrap (z1-1))):S)= .v (vI (z1-1));let z7:=Ez f.number;let z8:=(.v (vB false):S);let z9:=Gb f.kind;let z10:=Ga f.kind;let z11:=decide (f.kind=8);let z3:=z11=false→(.v (vB (decide (f.msg=(-1)))):S)= .v z4∧z5=[];(.seg [.call [] (.v (vB z7)) []] (.br (.leaf () []) (.seg [.call [] (.v (vB z10)) []] (.br (.leaf () []) (.br (.br (.leaf () []) (.seg [.call [] (.v (vB z9)) []] (.br (.leaf () []) (.br (.seg [.as 38 (.v (vI (z1-1))),.call [] (.v z2) []] (.leaf () [])) (.leaf () []))))) (.br (.seg [.as 38 (.v (vI (z1-1))),.call [] (.v z2) []] (.leaf () [])) (.leaf () [])))))),(Fun Tryz.prog 221 [vI f.number] [] (.v (vB z7)) [])∧((!z7)=true→z8= .v z4∧z5=[])∧((!z7)=false→(Fun Tryz.prog 191 [vI f.kind] [] (.v (vB z10)) [])∧((!z10)=true→z8= .v z4∧z5=[])∧((!z10)=false→(f.packed=true→((!f.rep)=true→z8= .v z4∧z5=[])∧((!f.rep)=false→(Fun Tryz.prog 192 [vI f.kind] [] (.v (vB z9)) [])∧((!z9)=true→z8= .v z4∧z5=[])∧((!z9)=false→(z11=true→z6∧(Fun Tryz.prog 105 [vI f.msg,vI 0,vI (z1-1)] [] (.v z2) [])∧(.v z2:S)= .v z4∧z5=[])∧z3)))∧(f.packed=false→(z11=true→z6∧(Fun Tryz.prog 105 [vI f.msg,vI 0,vI (z1-1)] [] (.v z2) [])∧(.v z2:S)= .v z4∧z5=[])∧z3))))) (by kernel_rfl) ?_
 refine⟨(Aba _),fun h1=>have q1:=Am h1;?_,fun h1=>have q1:=Aj h1;?_⟩
 refine⟨(sB ?_),rfl⟩
 rotate_left
 refine⟨(Vs _),fun h2=>have q2:=Am h2;have p2:=Ay q2;?_,fun h2=>have q2:=Aj h2;have p2:=Ap q2;?_⟩
 refine⟨(sB ?_),rfl⟩
 rotate_left
 refine⟨fun h3=>?_,fun h3=>?_⟩
 refine⟨fun h4=>have q4:=Am h4;?_,fun h4=>have q4:=Aj h4;?_⟩
 refine⟨(sB ?_),rfl⟩
 rotate_left
 refine⟨(Sv _),fun h5=>have q5:=Am h5;have p5:=Ay q5;?_,fun h5=>have q5:=Aj h5;have p5:=Ap q5;?_⟩
 refine⟨(sB ?_),rfl⟩
 rotate_left
 refine dsp (fun h6 p6=>?_) fun h6 p6=>?_
 refine⟨(Ah (by omega) (by omega)),(A8 _ _ _),(sB ?_),rfl⟩
 rotate_left
 refine⟨(sB ?_),rfl⟩
 rotate_left
 refine dsp (fun h4 p4=>?_) fun h4 p4=>?_
 refine⟨(Ah (by omega) (by omega)),(A8 _ _ _),(sB ?_),rfl⟩
 rotate_left
 refine⟨(sB ?_),rfl⟩
 rotate_left
 all_goals first|(simp[Gj, *];done)|(simp_all[Gj];done)|(simp_all[Gj];omega)|(rw[Bool.eq_iff_iff];simp_all[Gj];omega)
structure Ge where
 id:Int
 v:Nat
def Jc (s:List Shp):Fam:=⟨Ge,fun q1=>[(1,.v (vP 0)),(3,.v (vI q1.id)),(14,.v (.c (.seq .shp s))),(15,.v (vI (s.length:Int))),(16,.v (vI (q1.v:Int)))],fun _=>[.cells [.seq .shp s]],fun q1=>q1.v≤s.length∧D1 (s.length:Int) q1.id (List.drop q1.v s)=D1 (s.length:Int) 0 s,fun q1=>s.length-q1.v⟩
structure Jd where
 number:Int
 v:Nat
def Gf (s:List Shp) (q1:Ge) (x1:Shp):Fam:=⟨Jd,fun q2=>[(1,.v (vP 0)),(5,.v (vP 1)),(6,.v (vI q2.number)),(14,.v (.c (.seq .shp s))),(15,.v (vI (s.length:Int))),(16,.v (vI (q1.v:Int))),(36,.v (.c (.seq .fld x1.fields))),(37,.v (vI (x1.fields.length:Int))),(38,.v (vI (q2.v:Int)))],fun _=>[.cells [.seq .shp s],.cells (Acb x1)],fun q2=>q2.v≤x1.fields.length∧Cu (s.length:Int) q2.number (List.drop q2.v x1.fields)=Cu (s.length:Int) 0 x1.fields,fun q2=>x1.fields.length-q2.v⟩
theorem Abd (s:List Shp):Fun Tryz.prog 197 [.agg [.seq .shp s]] [] (.v (vB (Cc s))) []:=by
 have hN:bigN=274877906944:=rfl
 refine Af Tryz.func197 (by kernel_rfl) (by kernel_rfl) (w:=let z7:=(s.length:Int);let z8:=vB (Cc s);let z9:=(.v (vB false):S);let z10:=([]:List Blk);let z11:=Jc s;(.br (.leaf () []) (.seg [.at 0,.keep [1,3,14,15,16],.sel [0]] (.loop z11 fun q1=> .br (.intro (fun (x1:Shp)=>s[q1.v]? =some x1) fun x1=> .seg [.el .shp x1] (.br (.leaf () []) (.br (.leaf () []) (.br (.leaf () []) (.seg [.at 0,.keep [1,5,6,14,15,16,36,37,38],.sel [0,1]] (.loop (Gf s q1 x1) fun q2=> .br (.intro (fun (x2:Fld)=>x1.fields[q2.v]? =some x2) fun x2=> .seg [.el .fld x2,.call [] (.v (vB (decide (q2.number<(x2).number)&&Gj x2 z7))) []] (.br (.leaf () []) (.seg [.as 51 (.v (vI ((q2.v:Int)+1))),.at 0,.keep [1,5,6,14,15,16,36,37,38],.sel [0,1]] (.next)))) (.seg [.as 54 (.v (vI ((q1.v:Int)+1))),.at 0,.keep [1,3,14,15,16],.sel [0]] (.next)))))))) (.leaf () []))),((decide (6<z7))=true→z9= .v z8∧z10=[])∧((decide (6<z7))=false→z11.Has [(1,.v (vP 0)),(3,.v (vI 0)),(14,.v (.c (.seq .shp s))),(15,.v (vI z7)),(16,.v (vI 0))] [.cells [.seq .shp s]]∧∀q1,z11.inv q1→(let z6:=(q1.v:Int);((decide (z6<z7))=true→(∃(x1:Shp),s[q1.v]? =some x1)∧∀(x1:Shp),(s[q1.v]? =some x1)→(let z3:=(x1.fields.length:Int);let z4:=Gf s q1 x1;let z5:List Blk:=[.cells [.seq .shp s],.cells (Acb x1)];(s[q1.v]? =some x1)∧((0:Int)≤z6)∧((decide (x1.id≤q1.id))=true→z9= .v z8∧z10=[])∧((decide (x1.id≤q1.id))=false→((decide (99<x1.id))=true→z9= .v z8∧z10=[])∧((decide (99<x1.id))=false→((decide (8<z3))=true→z9= .v z8∧z10=[])∧((decide (8<z3))=false→z4.Has [(1,.v (vP 0)),(5,.v (vP 1)),(6,.v (vI 0)),(14,.v (.c (.seq .shp s))),(15,.v (vI z7)),(16,.v (vI z6)),(36,.v (.c (.seq .fld x1.fields))),(37,.v (vI z3)),(38,.v (vI 0))] z5∧∀q2,z4.inv q2→(let z2:=(q2.v:Int);((decide (z2<z3))=true→(∃(x2:Fld),x1.fields[q2.v]? =some x2)∧∀(x2:Fld),(x1.fields[q2.v]? =some x2)→(let z1:=decide (q2.number<(x2).number)&&Gj x2 z7;(x1.fields[q2.v]? =some x2)∧((0:Int)≤z2)∧(Fun Tryz.prog 222 [.agg (Fd x2),vI q2.number,vI z7] [] (.v (vB z1)) [])∧((!z1)=true→z9= .v z8∧z10=[])∧((!z1)=false→((.v (vI (IntKind.i64.wrap (z2+1))):S)= .v (vI (z2+1)))∧z4.Nxt q2 [(1,.v (vP 0)),(5,.v (vP 1)),(6,.v (vI x2.number)),(14,.v (.c (.seq .shp s))),(15,.v (vI z7)),(16,.v (vI z6)),(36,.v (.c (.seq .fld x1.fields))),(37,.v (vI z3)),(38,.v (vI (z2+1)))] z5)))∧((decide (z2<z3))=false→((.v (vI (IntKind.i64.wrap (z6+1))):S)= .v (vI (z6+1)))∧z11.Nxt q1 [(1,.v (vP 0)),(3,.v (vI x1.id)),(14,.v (.c (.seq .shp s))),(15,.v (vI z7)),(16,.v (vI (z6+1)))] [.cells [.seq .shp s]])))))))∧((decide (z6<z7))=false→(.v (vB true):S)= .v z8∧z10=[]))))) (by kernel_rfl) ?_
 refine dsp (fun h1 p1=>?_) fun h1 p1=>?_
 refine⟨(sB ?_),rfl⟩
 rotate_left
 refine⟨Bc (j:=(⟨0,0⟩:Ge)) (by first|rfl|simp) rfl (by dsimp only[Jc];exact⟨by omega,rfl⟩),fun (q1:Ge) hq_q1=>?_⟩
 have hi_q1:q1.v≤s.length∧D1 (s.length:Int) q1.id (List.drop q1.v s)=D1 (s.length:Int) 0 s:=hq_q1
 obtain ⟨v1,v2⟩:=hi_q1
 refine dsp (fun h2 p2=>?_) fun h2 p2=>?_
 refine⟨(Bo (l:=s) (i:=q1.v) (by omega)),fun x1 hx1=>?_⟩
 rw[C7 hx1,D1] at v2
 refine⟨hx1,(by omega),dsp (fun h3 p3=>?_) fun h3 p3=>?_⟩
 refine⟨(sB ?_),rfl⟩
 rotate_left
 refine dsp (fun h4 p4=>?_) fun h4 p4=>?_
 refine⟨(sB ?_),rfl⟩
 rotate_left
 refine dsp (fun h5 p5=>?_) fun h5 p5=>?_
 refine⟨(sB ?_),rfl⟩
 rotate_left
 refine⟨Bc (j:=(⟨0,0⟩:Jd)) (by first|rfl|simp) rfl (by dsimp only[Gf];exact⟨by omega,rfl⟩),fun (q2:Jd) hq_q2=>?_⟩
 have hi_q2:q2.v≤x1.fields.length∧Cu (s.length:Int) q2.number (List.drop q2.v x1.fields)=Cu (s.length:Int) 0 x1.fields:=hq_q2
 obtain ⟨w1,w2⟩:=hi_q2
 refine dsp (fun h6 p6=>?_) fun h6 p6=>?_
 refine⟨(Bo (l:=x1.fields) (i:=q2.v) (by omega)),fun x2 hx2=>?_⟩
 rw[C7 hx2,Cu] at w2
 refine⟨hx2,(by omega),(Ahq x2 _ _ (by omega)),fun h7=>have q7:=Am h7;have p7:=(Cp dT Iff.rfl).1 q7;?_,fun h7=>have q7:=Aj h7;have p7:=(Co dT Iff.rfl).1 q7;?_⟩
 refine⟨(sB ?_),rfl⟩
 rotate_left
 exact⟨(Ah (by omega) (by omega)),Bm (j:=(⟨x2.number,q2.v+1⟩:Jd)) (by first|rfl|simp) rfl (by dsimp only[Gf];exact⟨by omega,by grind[Cu]⟩) (by dsimp only[Gf];omega)⟩
 rw[Ja p6] at w2
 exact⟨(Ah (by omega) (by omega)),Bm (j:=(⟨x1.id,q1.v+1⟩:Ge)) (by first|rfl|simp) rfl (by dsimp only[Jc];exact⟨by omega,by grind[D1,Cu]⟩) (by dsimp only[Jc];omega)⟩
 rw[Ja p2] at v2
 refine⟨(sB ?_),rfl⟩
 rotate_left
 all_goals grind[Cc,D1,Cu]
structure Ff where
 i:Nat
 pv:Int
def Fg (s:List Shp):Fam:=⟨Ff,fun q1=>[(1,.v (vP 0)),(3,.v (vI (q1.i:Int)))],fun _=>[.cells [.seq .shp s]],fun q1=>q1.i≤s.length∧(0:Int)≤q1.pv∧(q1.i=0→q1.pv=0)∧(∀y,0<q1.i→s[Int.toNat ((q1.i:Int)-1)]? =some y→q1.pv=y.id)∧D1 (s.length:Int) q1.pv (List.drop q1.i s)=D1 (s.length:Int) 0 s,fun q1=>s.length-q1.i⟩
structure Dj where
 k:Nat
 pv:Int
def Cd (s:List Shp) (q1:Ff) (x1:Shp):Fam:=⟨Dj,fun q2=>[(1,.v (vP 0)),(3,.v (vI (q1.i:Int))),(4,.v (vP 1)),(5,.v (vI (q2.k:Int)))],fun _=>[.cells [.seq .shp s],.cells (Acb x1)],fun q2=>q2.k≤x1.fields.length∧(0:Int)≤q2.pv∧(q2.k=0→q2.pv=0)∧(∀y,0<q2.k→x1.fields[Int.toNat ((q2.k:Int)-1)]? =some y→q2.pv=y.number)∧Cu (s.length:Int) q2.pv (List.drop q2.k x1.fields)=Cu (s.length:Int) 0 x1.fields,fun q2=>x1.fields.length-q2.k⟩
theorem Abe (s:List Shp):Fun Tryz.prog 143 [.agg [.seq .shp s]] [] (.v (vB (Cc s))) []:=by
 have hN:bigN=274877906944:=rfl
 refine Af Tryz.func143 (by kernel_rfl) (by kernel_rfl) (w:=let z25:=(s.length:Int);let z26:=(.v (vB false):S);let z27:=vB (Cc s);let z28:=([]:List Blk);let z29:=Fg s;let z30:=os 28 [6];let z31:List Blk:=[.cells [.seq .shp s]];(.br (.leaf () []) (.seg [.at 0,.keep [1,3],.sel [0]] (.loop z29 fun q1=>let z23:=(q1.i:Int);.br (.intro (fun (x1:Shp)=>s[q1.i]? =some x1) fun x1=>let z17:=Ak x1.id 1 99;.seg [.el .shp x1] (.case (!z17) (.seg [.ord (os 26 [2]) [],.call [] (.v (vB z17)) [],.br true] (.leaf () [])) (.case (decide (0<z23)) (.intro (fun (x2:Shp)=>s[Int.toNat (z23-1)]? =some x2) fun x2=> .case (decide (x1.id≤x2.id)) (.seg [.ord (os 26 [2]) [],.call [] (.v (vB z17)) [],.br false,.br true,.as 33 (.v (vI (z23-1))),.el .shp x2,.br true] (.leaf () [])) (.seg [.ord (os 26 [2]) [],.call [] (.v (vB z17)) [],.br false,.br true,.as 33 (.v (vI (z23-1))),.el .shp x2,.br false] (.br (.leaf () []) (.seg [.at 0,.keep [1,3,4,5],.sel [0,1]] (.loop (Cd s q1 x1) fun q2=>let z6:=(q2.k:Int);.br (.intro (fun (x3:Fld)=>x1.fields[q2.k]? =some x3) fun x3=>let z3:=Gj x3 z25;.case (!z3) (.seg [.ord z30 [],.el .fld x3,.call [] (.v (vB z3)) [],.br true] (.leaf () [])) (.case (decide (0<z6)) (.intro (fun (x4:Fld)=>x1.fields[Int.toNat (z6-1)]? =some x4) fun x4=> .seg [.ord z30 [],.el .fld x3,.call [] (.v (vB z3)) [],.br false,.br true,.as 70 (.v (vI (z6-1))),.el .fld x4,.el .fld x3] (.br (.leaf () []) (.seg [.as 54 (.v (vI (z6+1))),.at 0,.keep [1,3,4,5],.sel [0,1]] (.next)))) (.seg [.ord z30 [],.el .fld x3,.call [] (.v (vB z3)) [],.br false,.br false,.as 54 (.v (vI (z6+1))),.at 0,.keep [1,3,4,5],.sel [0,1]] (.next)))) (.seg [.as 16 (.v (vI (z23+1))),.at 0,.keep [1,3],.sel [0]] (.next))))))) (.seg [.ord (os 26 [2]) [],.call [] (.v (vB z17)) [],.br false,.br false] (.br (.leaf () []) (.seg [.at 0,.keep [1,3,4,5],.sel [0,1]] (.loop (Cd s q1 x1) fun q2=>let z15:=(q2.k:Int);.br (.intro (fun (x2:Fld)=>x1.fields[q2.k]? =some x2) fun x2=>let z12:=Gj x2 z25;.case (!z12) (.seg [.ord z30 [],.el .fld x2,.call [] (.v (vB z12)) [],.br true] (.leaf () [])) (.case (decide (0<z15)) (.intro (fun (x3:Fld)=>x1.fields[Int.toNat (z15-1)]? =some x3) fun x3=> .seg [.ord z30 [],.el .fld x2,.call [] (.v (vB z12)) [],.br false,.br true,.as 70 (.v (vI (z15-1))),.el .fld x3,.el .fld x2] (.br (.leaf () []) (.seg [.as 54 (.v (vI (z15+1))),.at 0,.keep [1,3,4,5],.sel [0,1]] (.next)))) (.seg [.ord z30 [],.el .fld x2,.call [] (.v (vB z12)) [],.br false,.br false,.as 54 (.v (vI (z15+1))),.at 0,.keep [1,3,4,5],.sel [0,1]] (.next)))) (.seg [.as 16 (.v (vI (z23+1))),.at 0,.keep [1,3],.sel [0]] (.next))))))))) (.leaf () []))),((decide (6<z25))=true→z26= .v z27∧z28=[])∧((decide (6<z25))=false→z29.Has [(1,.v (vP 0)),(3,.v (vI 0))] z31∧∀q1,z29.inv q1→(let z24:=(q1.i:Int);((decide (z24<z25))=true→(∃(x1:Shp),s[q1.i]? =some x1)∧∀(x1:Shp),(s[q1.i]? =some x1)→(let z18:=(x1.fields.length:Int);let z19:List Blk:=[.cells [.seq .shp s],.cells (Acb x1)];let z20:=Ak x1.id 1 99;let z21:=Cd s q1 x1;let z22:List V:=[vI x1.id,vI 1,vI 99];(s[q1.i]? =some x1)∧((0:Int)≤z24)∧((!z20)=true→(Fun Tryz.prog 105 z22 [] (.v (vB z20)) [])∧((!z20)=true)∧z26= .v z27∧z28=[])∧((!z20)=false→((decide (0<z24))=true→(∃(x2:Shp),s[Int.toNat (z24-1)]? =some x2)∧∀(x2:Shp),(s[Int.toNat (z24-1)]? =some x2)→(let z8:=s[Int.toNat (z24-1)]? =some x2;let z9:=decide (x1.id≤x2.id);(z9=true→(Fun Tryz.prog 105 z22 [] (.v (vB z20)) [])∧((!z20)=false)∧((decide (0<z24))=true)∧((.v (vI (IntKind.i64.wrap (z24-1))):S)= .v (vI (z24-1)))∧((.v (vI (IntKind.i64.wrap (z24-1))):S)= .v (vI (z24-1)))∧z8∧((0:Int)≤z24-1)∧z8∧((0:Int)≤z24-1)∧(z9=true)∧z26= .v z27∧z28=[])∧(z9=false→(Fun Tryz.prog 105 z22 [] (.v (vB z20)) [])∧((!z20)=false)∧((decide (0<z24))=true)∧((.v (vI (IntKind.i64.wrap (z24-1))):S)= .v (vI (z24-1)))∧((.v (vI (IntKind.i64.wrap (z24-1))):S)= .v (vI (z24-1)))∧z8∧((0:Int)≤z24-1)∧z8∧((0:Int)≤z24-1)∧(z9=false)∧((decide (8<z18))=true→z26= .v z27∧z28=[])∧((decide (8<z18))=false→z21.Has [(1,.v (vP 0)),(3,.v (vI z24)),(4,.v (vP 1)),(5,.v (vI 0))] z19∧∀q2,z21.inv q2→(let z7:=(q2.k:Int);((decide (z7<z18))=true→(∃(x3:Fld),x1.fields[q2.k]? =some x3)∧∀(x3:Fld),(x1.fields[q2.k]? =some x3)→(let z4:=Gj x3 z25;let z5:=x1.fields[q2.k]? =some x3;((!z4)=true→z5∧((0:Int)≤z7)∧z5∧((0:Int)≤z7)∧(Fun Tryz.prog 189 [.agg [.seq .shp s],.agg (Fd x3)] [] (.v (vB z4)) [])∧((!z4)=true)∧z26= .v z27∧z28=[])∧((!z4)=false→((decide (0<z7))=true→(∃(x4:Fld),x1.fields[Int.toNat (z7-1)]? =some x4)∧∀(x4:Fld),(x1.fields[Int.toNat (z7-1)]? =some x4)→(let z1:=x1.fields[Int.toNat (z7-1)]? =some x4;let z2:=decide (x3.number≤x4.number);z5∧((0:Int)≤z7)∧z5∧((0:Int)≤z7)∧(Fun Tryz.prog 189 [.agg [.seq .shp s],.agg (Fd x3)] [] (.v (vB z4)) [])∧((!z4)=false)∧((decide (0<z7))=true)∧((.v (vI (IntKind.i64.wrap (z7-1))):S)= .v (vI (z7-1)))∧((.v (vI (IntKind.i64.wrap (z7-1))):S)= .v (vI (z7-1)))∧z1∧((0:Int)≤z7-1)∧z1∧((0:Int)≤z7-1)∧z5∧((0:Int)≤z7)∧z5∧((0:Int)≤z7)∧(z2=true→z26= .v z27∧z28=[])∧(z2=false→((.v (vI (IntKind.i64.wrap (z7+1))):S)= .v (vI (z7+1)))∧z21.Nxt q2 [(1,.v (vP 0)),(3,.v (vI z24)),(4,.v (vP 1)),(5,.v (vI (z7+1)))] z19)))∧((decide (0<z7))=false→z5∧((0:Int)≤z7)∧z5∧((0:Int)≤z7)∧(Fun Tryz.prog 189 [.agg [.seq .shp s],.agg (Fd x3)] [] (.v (vB z4)) [])∧((!z4)=false)∧((decide (0<z7))=false)∧((.v (vI (IntKind.i64.wrap (z7+1))):S)= .v (vI (z7+1)))∧z21.Nxt q2 [(1,.v (vP 0)),(3,.v (vI z24)),(4,.v (vP 1)),(5,.v (vI (z7+1)))] z19))))∧((decide (z7<z18))=false→((.v (vI (IntKind.i64.wrap (z24+1))):S)= .v (vI (z24+1)))∧z29.Nxt q1 [(1,.v (vP 0)),(3,.v (vI (z24+1)))] z31))))))∧((decide (0<z24))=false→(Fun Tryz.prog 105 z22 [] (.v (vB z20)) [])∧((!z20)=false)∧((decide (0<z24))=false)∧((decide (8<z18))=true→z26= .v z27∧z28=[])∧((decide (8<z18))=false→z21.Has [(1,.v (vP 0)),(3,.v (vI z24)),(4,.v (vP 1)),(5,.v (vI 0))] z19∧∀q2,z21.inv q2→(let z16:=(q2.k:Int);((decide (z16<z18))=true→(∃(x2:Fld),x1.fields[q2.k]? =some x2)∧∀(x2:Fld),(x1.fields[q2.k]? =some x2)→(let z13:=Gj x2 z25;let z14:=x1.fields[q2.k]? =some x2;((!z13)=true→z14∧((0:Int)≤z16)∧z14∧((0:Int)≤z16)∧(Fun Tryz.prog 189 [.agg [.seq .shp s],.agg (Fd x2)] [] (.v (vB z13)) [])∧((!z13)=true)∧z26= .v z27∧z28=[])∧((!z13)=false→((decide (0<z16))=true→(∃(x3:Fld),x1.fields[Int.toNat (z16-1)]? =some x3)∧∀(x3:Fld),(x1.fields[Int.toNat (z16-1)]? =some x3)→(let z10:=x1.fields[Int.toNat (z16-1)]? =some x3;let z11:=decide (x2.number≤x3.number);z14∧((0:Int)≤z16)∧z14∧((0:Int)≤z16)∧(Fun Tryz.prog 189 [.agg [.seq .shp s],.agg (Fd x2)] [] (.v (vB z13)) [])∧((!z13)=false)∧((decide (0<z16))=true)∧((.v (vI (IntKind.i64.wrap (z16-1))):S)= .v (vI (z16-1)))∧((.v (vI (IntKind.i64.wrap (z16-1))):S)= .v (vI (z16-1)))∧z10∧((0:Int)≤z16-1)∧z10∧((0:Int)≤z16-1)∧z14∧((0:Int)≤z16)∧z14∧((0:Int)≤z16)∧(z11=true→z26= .v z27∧z28=[])∧(z11=false→((.v (vI (IntKind.i64.wrap (z16+1))):S)= .v (vI (z16+1)))∧z21.Nxt q2 [(1,.v (vP 0)),(3,.v (vI z24)),(4,.v (vP 1)),(5,.v (vI (z16+1)))] z19)))∧((decide (0<z16))=false→z14∧((0:Int)≤z16)∧z14∧((0:Int)≤z16)∧(Fun Tryz.prog 189 [.agg [.seq .shp s],.agg (Fd x2)] [] (.v (vB z13)) [])∧((!z13)=false)∧((decide (0<z16))=false)∧((.v (vI (IntKind.i64.wrap (z16+1))):S)= .v (vI (z16+1)))∧z21.Nxt q2 [(1,.v (vP 0)),(3,.v (vI z24)),(4,.v (vP 1)),(5,.v (vI (z16+1)))] z19))))∧((decide (z16<z18))=false→((.v (vI (IntKind.i64.wrap (z24+1))):S)= .v (vI (z24+1)))∧z29.Nxt q1 [(1,.v (vP 0)),(3,.v (vI (z24+1)))] z31)))))))∧((decide (z24<z25))=false→(.v (vB true):S)= .v z27∧z28=[]))))) (by kernel_rfl) ?_
 refine dsp (fun h1 p1=>?_) fun h1 p1=>?_
 exact⟨(congrArg S.v (congrArg V.c (congrArg C.bool (by unfold Cc;grind)))),rfl⟩
 refine⟨Bc (j:=(⟨0,0⟩:Ff)) (by first|rfl|simp) rfl (by dsimp only[Fg];exact⟨by omega,by omega,by omega,by omega,rfl⟩),fun (q1:Ff) hq_q1=>?_⟩
 have hi_q1:q1.i≤s.length∧(0:Int)≤q1.pv∧(q1.i=0→q1.pv=0)∧(∀y,0<q1.i→s[Int.toNat ((q1.i:Int)-1)]? =some y→q1.pv=y.id)∧D1 (s.length:Int) q1.pv (List.drop q1.i s)=D1 (s.length:Int) 0 s:=hq_q1
 obtain ⟨v1,v2,v3,v4,v5⟩:=hi_q1
 refine dsp (fun h2 p2=>?_) fun h2 p2=>?_
 refine⟨(Bo (l:=s) (i:=q1.i) (by omega)),fun x1 hx1=>?_⟩
 rw[C7 hx1,D1] at v5
 refine⟨hx1,(by omega),fun h3=>have q3:=Am h3;have p3:=Ay q3;?_,fun h3=>have q3:=Aj h3;have p3:=Ap q3;?_⟩
 exact⟨(A8 _ _ _),h3,(congrArg S.v (congrArg V.c (congrArg C.bool (by unfold Cc;grind)))),rfl⟩
 refine dsp (fun h4 p4=>?_) fun h4 p4=>?_
 refine⟨(Bo (l:=s) (i:=Int.toNat ((q1.i:Int)-1)) (by omega)),fun x2 hx2=>?_⟩
 have hy:=v4 _ (by omega) hx2
 refine dsp (fun h5 p5=>?_) fun h5 p5=>?_
 exact⟨(A8 _ _ _),h3,h4,(Ah (by omega) (by omega)),(Ah (by omega) (by omega)),hx2,(by omega),hx2,(by omega),h5,(congrArg S.v (congrArg V.c (congrArg C.bool (by unfold Cc;grind)))),rfl⟩
 refine⟨(A8 _ _ _),h3,h4,(Ah (by omega) (by omega)),(Ah (by omega) (by omega)),hx2,(by omega),hx2,(by omega),h5,dsp (fun h6 p6=>?_) fun h6 p6=>?_⟩
 exact⟨(congrArg S.v (congrArg V.c (congrArg C.bool (by unfold Cc;grind)))),rfl⟩
 refine⟨Bc (j:=(⟨0,0⟩:Dj)) (by first|rfl|simp) rfl (by dsimp only[Cd];exact⟨by omega,by omega,by omega,by omega,rfl⟩),fun (q2:Dj) hq_q2=>?_⟩
 have hi_q2:q2.k≤x1.fields.length∧(0:Int)≤q2.pv∧(q2.k=0→q2.pv=0)∧(∀y,0<q2.k→x1.fields[Int.toNat ((q2.k:Int)-1)]? =some y→q2.pv=y.number)∧Cu (s.length:Int) q2.pv (List.drop q2.k x1.fields)=Cu (s.length:Int) 0 x1.fields:=hq_q2
 obtain ⟨w1,w2,w3,w4,w5⟩:=hi_q2
 refine dsp (fun h7 p7=>?_) fun h7 p7=>?_
 refine⟨(Bo (l:=x1.fields) (i:=q2.k) (by omega)),fun x3 hx3=>?_⟩
 rw[C7 hx3,Cu] at w5
 refine⟨fun h8=>have q8:=Am h8;?_,fun h8=>have q8:=Aj h8;have p8:=Yh q8;?_⟩
 exact⟨hx3,(by omega),hx3,(by omega),(Qe s x3 (by omega)),h8,(congrArg S.v (congrArg V.c (congrArg C.bool (by unfold Cc;grind)))),rfl⟩
 refine dsp (fun h9 p9=>?_) fun h9 p9=>?_
 refine⟨(Bo (l:=x1.fields) (i:=Int.toNat ((q2.k:Int)-1)) (by omega)),fun x4 hx4=>?_⟩
 have hz:=w4 _ (by omega) hx4
 refine⟨hx3,(by omega),hx3,(by omega),(Qe s x3 (by omega)),h8,h9,(Ah (by omega) (by omega)),(Ah (by omega) (by omega)),hx4,(by omega),hx4,(by omega),hx3,(by omega),hx3,(by omega),dsp (fun h10 p10=>?_) fun h10 p10=>?_⟩
 exact⟨(congrArg S.v (congrArg V.c (congrArg C.bool (by unfold Cc;grind)))),rfl⟩
 exact⟨(Ah (by omega) (by omega)),Bm (j:=(⟨q2.k+1,x3.number⟩:Dj)) (by first|rfl|simp) rfl (by dsimp only[Cd];exact⟨by omega,by grind,by omega,by intro y h1 h2;rw[show Int.toNat ((((q2.k+1):Nat):Int)-1)=q2.k by omega] at h2;grind,by rw[←w5,decide_eq_true (show q2.pv<x3.number by omega),Aj (by assumption:(!Gj x3 _)=false)];simp⟩) (by dsimp only[Cd];omega)⟩
 exact⟨hx3,(by omega),hx3,(by omega),(Qe s x3 (by omega)),h8,h9,(Ah (by omega) (by omega)),Bm (j:=(⟨q2.k+1,x3.number⟩:Dj)) (by first|rfl|simp) rfl (by dsimp only[Cd];exact⟨by omega,by grind,by omega,by intro y h1 h2;rw[show Int.toNat ((((q2.k+1):Nat):Int)-1)=q2.k by omega] at h2;grind,by rw[←w5,decide_eq_true (show q2.pv<x3.number by omega),Aj (by assumption:(!Gj x3 _)=false)];simp⟩) (by dsimp only[Cd];omega)⟩
 rw[Ja p7,Cu] at w5
 exact⟨(Ah (by omega) (by omega)),Bm (j:=(⟨q1.i+1,x1.id⟩:Ff)) (by first|rfl|simp) rfl (by dsimp only[Fg];exact⟨by omega,by grind,by omega,by intro y h1 h2;rw[show Int.toNat ((((q1.i+1):Nat):Int)-1)=q1.i by omega] at h2;grind,by rw[←v5,decide_eq_true (show q1.pv<x1.id by omega),decide_eq_true (show x1.id≤99 by omega),decide_eq_true (show (x1.fields.length:Int)≤8 by omega),←w5];simp⟩) (by dsimp only[Fg];omega)⟩
 refine⟨(A8 _ _ _),h3,h4,dsp (fun h5 p5=>?_) fun h5 p5=>?_⟩
 exact⟨(congrArg S.v (congrArg V.c (congrArg C.bool (by unfold Cc;grind)))),rfl⟩
 refine⟨Bc (j:=(⟨0,0⟩:Dj)) (by first|rfl|simp) rfl (by dsimp only[Cd];exact⟨by omega,by omega,by omega,by omega,rfl⟩),fun (q2:Dj) hq_q2=>?_⟩
 have hi_q2:q2.k≤x1.fields.length∧(0:Int)≤q2.pv∧(q2.k=0→q2.pv=0)∧(∀y,0<q2.k→x1.fields[Int.toNat ((q2.k:Int)-1)]? =some y→q2.pv=y.number)∧Cu (s.length:Int) q2.pv (List.drop q2.k x1.fields)=Cu (s.length:Int) 0 x1.fields:=hq_q2
 obtain ⟨w1,w2,w3,w4,w5⟩:=hi_q2
 refine dsp (fun h6 p6=>?_) fun h6 p6=>?_
 refine⟨(Bo (l:=x1.fields) (i:=q2.k) (by omega)),fun x2 hx2=>?_⟩
 rw[C7 hx2,Cu] at w5
 refine⟨fun h7=>have q7:=Am h7;?_,fun h7=>have q7:=Aj h7;have p7:=Yh q7;?_⟩
 exact⟨hx2,(by omega),hx2,(by omega),(Qe s x2 (by omega)),h7,(congrArg S.v (congrArg V.c (congrArg C.bool (by unfold Cc;grind)))),rfl⟩
 refine dsp (fun h8 p8=>?_) fun h8 p8=>?_
 refine⟨(Bo (l:=x1.fields) (i:=Int.toNat ((q2.k:Int)-1)) (by omega)),fun x3 hx3=>?_⟩
 have hz:=w4 _ (by omega) hx3
 refine⟨hx2,(by omega),hx2,(by omega),(Qe s x2 (by omega)),h7,h8,(Ah (by omega) (by omega)),(Ah (by omega) (by omega)),hx3,(by omega),hx3,(by omega),hx2,(by omega),hx2,(by omega),dsp (fun h9 p9=>?_) fun h9 p9=>?_⟩
 exact⟨(congrArg S.v (congrArg V.c (congrArg C.bool (by unfold Cc;grind)))),rfl⟩
 exact⟨(Ah (by omega) (by omega)),Bm (j:=(⟨q2.k+1,x2.number⟩:Dj)) (by first|rfl|simp) rfl (by dsimp only[Cd];exact⟨by omega,by grind,by omega,by intro y h1 h2;rw[show Int.toNat ((((q2.k+1):Nat):Int)-1)=q2.k by omega] at h2;grind,by rw[←w5,decide_eq_true (show q2.pv<x2.number by omega),Aj (by assumption:(!Gj x2 _)=false)];simp⟩) (by dsimp only[Cd];omega)⟩
 exact⟨hx2,(by omega),hx2,(by omega),(Qe s x2 (by omega)),h7,h8,(Ah (by omega) (by omega)),Bm (j:=(⟨q2.k+1,x2.number⟩:Dj)) (by first|rfl|simp) rfl (by dsimp only[Cd];exact⟨by omega,by grind,by omega,by intro y h1 h2;rw[show Int.toNat ((((q2.k+1):Nat):Int)-1)=q2.k by omega] at h2;grind,by rw[←w5,decide_eq_true (show q2.pv<x2.number by omega),Aj (by assumption:(!Gj x2 _)=false)];simp⟩) (by dsimp only[Cd];omega)⟩
 rw[Ja p6,Cu] at w5
 exact⟨(Ah (by omega) (by omega)),Bm (j:=(⟨q1.i+1,x1.id⟩:Ff)) (by first|rfl|simp) rfl (by dsimp only[Fg];exact⟨by omega,by grind,by omega,by intro y h1 h2;rw[show Int.toNat ((((q1.i+1):Nat):Int)-1)=q1.i by omega] at h2;grind,by rw[←v5,decide_eq_true (show q1.pv<x1.id by omega),decide_eq_true (show x1.id≤99 by omega),decide_eq_true (show (x1.fields.length:Int)≤8 by omega),←w5];simp⟩) (by dsimp only[Fg];omega)⟩
 rw[Ja p2,D1] at v5
 exact⟨(congrArg S.v (congrArg V.c (congrArg C.bool (by unfold Cc;grind)))),rfl⟩
structure Ke where
 v:Nat
def Hr (n:Int) (x1:Shp):Fam:=⟨Ke,fun q1=>[(2,.v (vI n)),(6,.v (vP 0)),(23,.v (.c (.seq .fld x1.fields))),(24,.v (vI (x1.fields.length:Int))),(25,.v (vI (q1.v:Int)))],fun _=>[.cells [.int .i64 0,.int .i64 0,.bool false,.bool false,.int .i64 0]],fun q1=>q1.v≤x1.fields.length∧F0 (List.drop q1.v x1.fields) n=F0 x1.fields n,fun q1=>x1.fields.length-q1.v⟩
theorem Sw (s:List Shp) (sh:Int) (n:Int) (hp1:s.length≤1000) (hp2: ∀x∈s,x.fields.length≤1000):Fun Tryz.prog 209 [.agg [.seq .shp s],vI sh,vI n] [] (.tup [.agg (Fd ((fieldAt s sh n).getD fld0)),vB (fieldAt s sh n).isSome]) []:=by
 have hN:bigN=274877906944:=rfl
 refine Af Tryz.func209 (by kernel_rfl) (by kernel_rfl) (w:=let z4:List C:=[.int .i64 0,.int .i64 0,.bool false,.bool false,.int .i64 0];let z5:=(s.length:Int)-1;let z6:=fieldAt s sh n;let z7:=Ak sh 0 z5;let z8:=Fd (z6.getD fld0);(.seg [.as 14 (.v (vI z5)),.call [] (.v (vB z7)) []] (.br (.leaf () []) (.intro (fun (x1:Shp)=>s[sh.toNat]? =some x1) fun x1=> .seg [.el .shp x1,.at 0,.keep [2,6,23,24,25],.sel [1]] (.loop (Hr n x1) fun q1=> .br (.intro (fun (x2:Fld)=>x1.fields[q1.v]? =some x2) fun x2=> .seg [.el .fld x2] (.br (.leaf () []) (.seg [.as 34 (.v (vI ((q1.v:Int)+1))),.at 0,.keep [2,6,23,24,25],.sel [0]] (.next)))) (.leaf () [])))),((.v (vI (IntKind.i64.wrap z5)):S)= .v (vI z5))∧(Fun Tryz.prog 173 [vI sh,vI 0,vI z5] [] (.v (vB z7)) [])∧((!z7)=true→(.tup [.agg z4,vB false]:S)= .tup [.agg z8,vB z6.isSome]∧([]:List Blk)=[])∧((!z7)=false→(∃(x1:Shp),s[sh.toNat]? =some x1)∧∀(x1:Shp),(s[sh.toNat]? =some x1)→(let z2:=(x1.fields.length:Int);let z3:=Hr n x1;(s[sh.toNat]? =some x1)∧((0:Int)≤sh)∧z3.Has [(2,.v (vI n)),(6,.v (vP 0)),(23,.v (.c (.seq .fld x1.fields))),(24,.v (vI z2)),(25,.v (vI 0))] [.cells z4]∧∀q1,z3.inv q1→(let z1:=(q1.v:Int);((decide (z1<z2))=true→(∃(x2:Fld),x1.fields[q1.v]? =some x2)∧∀(x2:Fld),(x1.fields[q1.v]? =some x2)→((x1.fields[q1.v]? =some x2)∧((0:Int)≤z1)∧((decide (x2.number=n))=true→(.tup [.agg (Fd x2),vB true]:S)= .tup [.agg z8,vB z6.isSome]∧([]:List Blk)=[])∧((decide (x2.number=n))=false→((.v (vI (IntKind.i64.wrap (z1+1))):S)= .v (vI (z1+1)))∧z3.Nxt q1 [(2,.v (vI n)),(6,.v (vP 0)),(23,.v (.c (.seq .fld x1.fields))),(24,.v (vI z2)),(25,.v (vI (z1+1)))] [.cells z4])))∧((decide (z1<z2))=false→(.tup [.agg z4,vB false]:S)= .tup [.agg z8,vB z6.isSome]∧([]:List Blk)=[])))))) (by kernel_rfl) ?_
 refine⟨(Ah (by omega) (by omega)),(B1 _ _ _),fun h1=>have q1:=Am h1;have p1:=Ay q1;?_,fun h1=>have q1:=Aj h1;have p1:=Ap q1;?_⟩
 refine have hm1:(fieldAt s sh n).getD fld0=(⟨0,0,false,false,0⟩:Fld):=?_;?_
 rotate_left
 refine⟨(congrArg S.tup (Aa (congrArg V.agg (Aa (congrArg (C.int .i64) ?_) (Aa (congrArg (C.int .i64) ?_) (Aa (congrArg C.bool ?_) (Aa (congrArg C.bool ?_) (Aa (congrArg (C.int .i64) ?_) rfl)))))) (Aa (congrArg V.c (congrArg C.bool ?_)) rfl))),rfl⟩
 rotate_left 6
 have q1_:=q1
 refine⟨(Bo (l:=s) (i:=sh.toNat) (by omega)),fun x1 hx1=>?_⟩
 have hfa:=Um (n:=n) q1_ hx1
 have hfl:=hp2 x1 (List.mem_of_getElem? hx1)
 refine⟨hx1,(by omega),Bc (j:=(⟨0⟩:Ke)) (by first|rfl|simp) rfl (by dsimp only[Hr];exact⟨by omega,by simp⟩),fun (q1:Ke) hq_q1=>?_⟩
 have hi_q1:q1.v≤x1.fields.length∧F0 (List.drop q1.v x1.fields) n=F0 x1.fields n:=hq_q1
 obtain ⟨v1,v2⟩:=hi_q1
 refine dsp (fun h2 p2=>?_) fun h2 p2=>?_
 refine⟨(Bo (l:=x1.fields) (i:=q1.v) (by omega)),fun x2 hx2=>?_⟩
 rw[C7 hx2,Q3] at v2
 refine⟨hx2,(by omega),dsp (fun h3 p3=>?_) fun h3 p3=>?_⟩
 refine have hm1:(fieldAt s sh n).getD fld0=x2:=?_;?_
 rotate_left
 refine⟨(congrArg S.tup (Aa (congrArg V.agg (Aa (congrArg (C.int .i64) ?_) (Aa (congrArg (C.int .i64) ?_) (Aa (congrArg C.bool ?_) (Aa (congrArg C.bool ?_) (Aa (congrArg (C.int .i64) ?_) rfl)))))) (Aa (congrArg V.c (congrArg C.bool ?_)) rfl))),rfl⟩
 rotate_left 6
 exact⟨(Ah (by omega) (by omega)),Bm (j:=(⟨q1.v+1⟩:Ke)) (by first|rfl|simp) rfl (by dsimp only[Hr];exact⟨by omega,by grind⟩) (by dsimp only[Hr];omega)⟩
 rw[Ja p2] at v2
 refine have hm1:(fieldAt s sh n).getD fld0=(⟨0,0,false,false,0⟩:Fld):=?_;?_
 rotate_left
 refine⟨(congrArg S.tup (Aa (congrArg V.agg (Aa (congrArg (C.int .i64) ?_) (Aa (congrArg (C.int .i64) ?_) (Aa (congrArg C.bool ?_) (Aa (congrArg C.bool ?_) (Aa (congrArg (C.int .i64) ?_) rfl)))))) (Aa (congrArg V.c (congrArg C.bool ?_)) rfl))),rfl⟩
 rotate_left 6
 all_goals grind[fieldAt,fld0,F0]
structure Kf where
 i:Nat
def Hs (n:Int) (x1:Shp):Fam:=⟨Kf,fun q1=>[(2,.v (vI n)),(6,.v (vP 0)),(8,.v (.c (.seq .fld x1.fields))),(9,.v (vI (q1.i:Int)))],fun _=>[.cells [.int .i64 0,.int .i64 0,.bool false,.bool false,.int .i64 0]],fun q1=>q1.i≤x1.fields.length∧F0 (List.drop q1.i x1.fields) n=F0 x1.fields n,fun q1=>x1.fields.length-q1.i⟩
theorem Sx (s:List Shp) (sh:Int) (n:Int) (hp1:s.length≤1000) (hp2: ∀x∈s,x.fields.length≤1000):Fun Tryz.prog 190 [.agg [.seq .shp s],vI sh,vI n] [] (.tup [.agg (Fd ((fieldAt s sh n).getD fld0)),vB (fieldAt s sh n).isSome]) []:=by
 have hN:bigN=274877906944:=rfl
 refine Af Tryz.func190 (by kernel_rfl) (by kernel_rfl) (w:=let z4:List C:=[.int .i64 0,.int .i64 0,.bool false,.bool false,.int .i64 0];let z5:=(s.length:Int)-1;let z6:=fieldAt s sh n;let z7:=Ak sh 0 z5;let z8:=Fd (z6.getD fld0);(.seg [.as 14 (.v (vI z5)),.call [] (.v (vB z7)) []] (.br (.leaf () []) (.intro (fun (x1:Shp)=>s[sh.toNat]? =some x1) fun x1=> .seg [.el .shp x1,.at 0,.keep [2,6,8,9],.sel [1]] (.loop (Hs n x1) fun q1=> .br (.intro (fun (x2:Fld)=>x1.fields[q1.i]? =some x2) fun x2=> .seg [.el .fld x2] (.br (.seg [.el .fld x2] (.leaf () [])) (.seg [.as 29 (.v (vI ((q1.i:Int)+1))),.at 0,.keep [2,6,8,9],.sel [0]] (.next)))) (.leaf () [])))),((.v (vI (IntKind.i64.wrap z5)):S)= .v (vI z5))∧(Fun Tryz.prog 105 [vI sh,vI 0,vI z5] [] (.v (vB z7)) [])∧((!z7)=true→(.tup [.agg z4,vB false]:S)= .tup [.agg z8,vB z6.isSome]∧([]:List Blk)=[])∧((!z7)=false→(∃(x1:Shp),s[sh.toNat]? =some x1)∧∀(x1:Shp),(s[sh.toNat]? =some x1)→(let z2:=(x1.fields.length:Int);let z3:=Hs n x1;(s[sh.toNat]? =some x1)∧((0:Int)≤sh)∧z3.Has [(2,.v (vI n)),(6,.v (vP 0)),(8,.v (.c (.seq .fld x1.fields))),(9,.v (vI 0))] [.cells z4]∧∀q1,z3.inv q1→(let z1:=(q1.i:Int);((decide (z1<z2))=true→(∃(x2:Fld),x1.fields[q1.i]? =some x2)∧∀(x2:Fld),(x1.fields[q1.i]? =some x2)→((x1.fields[q1.i]? =some x2)∧((0:Int)≤z1)∧((decide (x2.number=n))=true→(x1.fields[q1.i]? =some x2)∧((0:Int)≤z1)∧(.tup [.agg (Fd x2),vB true]:S)= .tup [.agg z8,vB z6.isSome]∧([]:List Blk)=[])∧((decide (x2.number=n))=false→((.v (vI (IntKind.i64.wrap (z1+1))):S)= .v (vI (z1+1)))∧z3.Nxt q1 [(2,.v (vI n)),(6,.v (vP 0)),(8,.v (.c (.seq .fld x1.fields))),(9,.v (vI (z1+1)))] [.cells z4])))∧((decide (z1<z2))=false→(.tup [.agg z4,vB false]:S)= .tup [.agg z8,vB z6.isSome]∧([]:List Blk)=[])))))) (by kernel_rfl) ?_
 refine⟨(Ah (by omega) (by omega)),(A8 _ _ _),fun h1=>have q1:=Am h1;have p1:=Ay q1;?_,fun h1=>have q1:=Aj h1;have p1:=Ap q1;?_⟩
 refine have hm1:(fieldAt s sh n).getD fld0=(⟨0,0,false,false,0⟩:Fld):=?_;?_
 rotate_left
 refine⟨(congrArg S.tup (Aa (congrArg V.agg (Aa (congrArg (C.int .i64) ?_) (Aa (congrArg (C.int .i64) ?_) (Aa (congrArg C.bool ?_) (Aa (congrArg C.bool ?_) (Aa (congrArg (C.int .i64) ?_) rfl)))))) (Aa (congrArg V.c (congrArg C.bool ?_)) rfl))),rfl⟩
 rotate_left 6
 have q1_:=q1
 refine⟨(Bo (l:=s) (i:=sh.toNat) (by omega)),fun x1 hx1=>?_⟩
 have hfa:=Um (n:=n) q1_ hx1
 have hfl:=hp2 x1 (List.mem_of_getElem? hx1)
 refine⟨hx1,(by omega),Bc (j:=(⟨0⟩:Kf)) (by first|rfl|simp) rfl (by dsimp only[Hs];exact⟨by omega,by simp⟩),fun (q1:Kf) hq_q1=>?_⟩
 have hi_q1:q1.i≤x1.fields.length∧F0 (List.drop q1.i x1.fields) n=F0 x1.fields n:=hq_q1
 obtain ⟨v1,v2⟩:=hi_q1
 refine dsp (fun h2 p2=>?_) fun h2 p2=>?_
 refine⟨(Bo (l:=x1.fields) (i:=q1.i) (by omega)),fun x2 hx2=>?_⟩
 rw[C7 hx2,Q3] at v2
 refine⟨hx2,(by omega),dsp (fun h3 p3=>?_) fun h3 p3=>?_⟩
 refine⟨hx2,(by omega),?_⟩
 refine have hm1:(fieldAt s sh n).getD fld0=x2:=?_;?_
 rotate_left
 refine⟨(congrArg S.tup (Aa (congrArg V.agg (Aa (congrArg (C.int .i64) ?_) (Aa (congrArg (C.int .i64) ?_) (Aa (congrArg C.bool ?_) (Aa (congrArg C.bool ?_) (Aa (congrArg (C.int .i64) ?_) rfl)))))) (Aa (congrArg V.c (congrArg C.bool ?_)) rfl))),rfl⟩
 rotate_left 6
 exact⟨(Ah (by omega) (by omega)),Bm (j:=(⟨q1.i+1⟩:Kf)) (by first|rfl|simp) rfl (by dsimp only[Hs];exact⟨by omega,by grind⟩) (by dsimp only[Hs];omega)⟩
 rw[Ja p2] at v2
 refine have hm1:(fieldAt s sh n).getD fld0=(⟨0,0,false,false,0⟩:Fld):=?_;?_
 rotate_left
 refine⟨(congrArg S.tup (Aa (congrArg V.agg (Aa (congrArg (C.int .i64) ?_) (Aa (congrArg (C.int .i64) ?_) (Aa (congrArg C.bool ?_) (Aa (congrArg C.bool ?_) (Aa (congrArg (C.int .i64) ?_) rfl)))))) (Aa (congrArg V.c (congrArg C.bool ?_)) rfl))),rfl⟩
 rotate_left 6
 all_goals grind[fieldAt,fld0,F0]
theorem Aac (p:Pln):Fun Tryz.prog 165 [.agg (F4 p)] [] (.v (vB (Cv p))) []:=by
 have hN:bigN=274877906944:=rfl
 refine Af Tryz.func165 (by kernel_rfl) (by kernel_rfl) (w:=let z1:=(p.shapes.length:Int)-1;let z2:=Ak p.root 0 z1;let z3:=Cc p.shapes;let z4:=Ak p.deep 1 8;let z5:=vB (Ak p.most 0 2000);let z6:=vB (Cv p);let z7:=([]:List Blk);let z8:=(.v (vB false):S);(.seg [.call [] (.v (vB z3)) []] (.br (.seg [.as 13 (.v (vI z1)),.call [] (.v (vB z2)) []] (.br (.seg [.call [] (.v (vB z4)) []] (.br (.seg [.call [] (.v z5) []] (.leaf () [])) (.leaf () []))) (.leaf () []))) (.leaf () [])),(Fun Tryz.prog 197 [.agg [.seq .shp p.shapes]] [] (.v (vB z3)) [])∧(z3=true→((.v (vI (IntKind.i64.wrap z1)):S)= .v (vI z1))∧(Fun Tryz.prog 173 [vI p.root,vI 0,vI z1] [] (.v (vB z2)) [])∧(z2=true→(Fun Tryz.prog 173 [vI p.deep,vI 1,vI 8] [] (.v (vB z4)) [])∧(z4=true→(Fun Tryz.prog 173 [vI p.most,vI 0,vI 2000] [] (.v z5) [])∧(.v z5:S)= .v z6∧z7=[])∧(z4=false→z8= .v z6∧z7=[]))∧(z2=false→z8= .v z6∧z7=[]))∧(z3=false→z8= .v z6∧z7=[]))) (by kernel_rfl) ?_
 refine⟨(Abd p.shapes),fun h1=>have p1:=Qb h1;?_,fun h1=>?_⟩
 refine⟨(Ah (by omega) (by omega)),(B1 _ _ _),fun h2=>have p2:=Ap h2;?_,fun h2=>have p2:=Ay h2;?_⟩
 refine⟨(B1 _ _ _),fun h3=>have p3:=Ap h3;?_,fun h3=>have p3:=Ay h3;?_⟩
 exact⟨(B1 _ _ _),(congrArg S.v (congrArg V.c (congrArg C.bool (by grind[Cv])))),rfl⟩
 exact⟨(congrArg S.v (congrArg V.c (congrArg C.bool (by grind[Cv])))),rfl⟩
 exact⟨(congrArg S.v (congrArg V.c (congrArg C.bool (by grind[Cv])))),rfl⟩
 exact⟨(congrArg S.v (congrArg V.c (congrArg C.bool (by grind[Cv])))),rfl⟩
theorem Vv (p:Pln):Fun Tryz.prog 102 [.agg (F4 p)] [] (.v (vB (Cv p))) []:=by
 have hN:bigN=274877906944:=rfl
 refine Af Tryz.func102 (by kernel_rfl) (by kernel_rfl) (w:=let z1:=(p.shapes.length:Int)-1;let z2:=Ak p.root 0 z1;let z3:=Cc p.shapes;let z4:=Ak p.deep 1 8;let z5:=vB (Ak p.most 0 2000);let z6:=vB (Cv p);let z7:=([]:List Blk);let z8:=(.v (vB false):S);(.seg [.call [] (.v (vB z3)) []] (.br (.seg [.as 13 (.v (vI z1)),.call [] (.v (vB z2)) []] (.br (.seg [.call [] (.v (vB z4)) []] (.br (.seg [.call [] (.v z5) []] (.leaf () [])) (.leaf () []))) (.leaf () []))) (.leaf () [])),(Fun Tryz.prog 143 [.agg [.seq .shp p.shapes]] [] (.v (vB z3)) [])∧(z3=true→((.v (vI (IntKind.i64.wrap z1)):S)= .v (vI z1))∧(Fun Tryz.prog 105 [vI p.root,vI 0,vI z1] [] (.v (vB z2)) [])∧(z2=true→(Fun Tryz.prog 105 [vI p.deep,vI 1,vI 8] [] (.v (vB z4)) [])∧(z4=true→(Fun Tryz.prog 105 [vI p.most,vI 0,vI 2000] [] (.v z5) [])∧(.v z5:S)= .v z6∧z7=[])∧(z4=false→z8= .v z6∧z7=[]))∧(z2=false→z8= .v z6∧z7=[]))∧(z3=false→z8= .v z6∧z7=[]))) (by kernel_rfl) ?_
 refine⟨(Abe p.shapes),fun h1=>have p1:=Qb h1;?_,fun h1=>?_⟩
 refine⟨(Ah (by omega) (by omega)),(A8 _ _ _),fun h2=>have p2:=Ap h2;?_,fun h2=>have p2:=Ay h2;?_⟩
 refine⟨(A8 _ _ _),fun h3=>have p3:=Ap h3;?_,fun h3=>have p3:=Ay h3;?_⟩
 exact⟨(A8 _ _ _),(congrArg S.v (congrArg V.c (congrArg C.bool (by grind[Cv])))),rfl⟩
 exact⟨(congrArg S.v (congrArg V.c (congrArg C.bool (by grind[Cv])))),rfl⟩
 exact⟨(congrArg S.v (congrArg V.c (congrArg C.bool (by grind[Cv])))),rfl⟩
 exact⟨(congrArg S.v (congrArg V.c (congrArg C.bool (by grind[Cv])))),rfl⟩
theorem Abf (k:Int):Fun Tryz.prog 212 [vI k] [] (.v (vB (Ef k))) []:=by
 have hN:bigN=274877906944:=rfl
 refine Af Tryz.func212 (by kernel_rfl) (by kernel_rfl) (w:=(.br (.leaf () []) (.br (.leaf () []) (.leaf () [])),((decide (k=2))=true→(.v (vB true):S)= .v (vB (Ef k))∧([]:List Blk)=[])∧((decide (k=2))=false→((decide (k=3))=true→(.v (vB true):S)= .v (vB (Ef k))∧([]:List Blk)=[])∧((decide (k=3))=false→(.v (vB (decide (k=6))):S)= .v (vB (Ef k))∧([]:List Blk)=[])))) (by kernel_rfl) ?_
 refine dsp (fun h1 p1=>?_) fun h1 p1=>?_
 exact⟨(congrArg S.v (congrArg V.c (congrArg C.bool (by grind[Ef])))),rfl⟩
 refine dsp (fun h2 p2=>?_) fun h2 p2=>?_
 exact⟨(congrArg S.v (congrArg V.c (congrArg C.bool (by grind[Ef])))),rfl⟩
 exact⟨(congrArg S.v (congrArg V.c (congrArg C.bool (by grind[Ef])))),rfl⟩
theorem Dz (d:Dcd) (hp1:List.length (d).stack≤bigN):Fun Tryz.prog 179 [.agg (Bi d)] [] (.v (vI (Dm d))) []:=by
 have hN:bigN=274877906944:=rfl
 refine Af Tryz.func179 (by kernel_rfl) (by kernel_rfl) (w:=let z1:=(d.stack.length:Int);(.br (.leaf () []) (.seg [.as 12 (.v (vI (z1-1)))] (.intro (fun (x1:Lev)=>d.stack[Int.toNat (z1-1)]? =some x1) fun x1=> .seg [.el .lev x1] (.leaf () []))),((decide (z1=0))=true→(.v (vI 0):S)= .v (vI (Dm d))∧([]:List Blk)=[])∧((decide (z1=0))=false→((.v (vI (IntKind.i64.wrap (z1-1))):S)= .v (vI (z1-1)))∧(∃(x1:Lev),d.stack[Int.toNat (z1-1)]? =some x1)∧∀(x1:Lev),(d.stack[Int.toNat (z1-1)]? =some x1)→((d.stack[Int.toNat (z1-1)]? =some x1)∧((0:Int)≤z1-1)∧(.v (vI x1.left):S)= .v (vI (Dm d))∧([]:List Blk)=[])))) (by kernel_rfl) ?_
 refine dsp (fun h1 p1=>?_) fun h1 p1=>?_
 refine⟨(sI ?_),rfl⟩
 rotate_left
 refine⟨(Ah (by omega) (by omega)),(Bo (l:=d.stack) (i:=Int.toNat ((d.stack.length:Int)-1)) (by omega)),fun x1 hx1=>?_⟩
 have htop:Dm d=x1.left:=by unfold Dm;rw[Ss (by rw[←hx1];congr 1;omega)]
 refine⟨hx1,(by omega),(sI ?_),rfl⟩
 rotate_left
 all_goals first|(exact htop.symm)|((unfold Dm;rw[List.eq_nil_of_length_eq_zero (by omega:d.stack.length=0)];rfl))|(grind)
theorem L8 (d:Dcd) (hp1:List.length (d).stack≤bigN):Fun Tryz.prog 149 [.agg (Bi d)] [] (.v (vI (Dm d))) []:=by
 have hN:bigN=274877906944:=rfl
 refine Af Tryz.func149 (by kernel_rfl) (by kernel_rfl) (w:=let z1:=(d.stack.length:Int);(.br (.leaf () []) (.seg [.as 12 (.v (vI (z1-1)))] (.intro (fun (x1:Lev)=>d.stack[Int.toNat (z1-1)]? =some x1) fun x1=> .seg [.el .lev x1] (.leaf () []))),((decide (z1=0))=true→(.v (vI 0):S)= .v (vI (Dm d))∧([]:List Blk)=[])∧((decide (z1=0))=false→((.v (vI (IntKind.i64.wrap (z1-1))):S)= .v (vI (z1-1)))∧(∃(x1:Lev),d.stack[Int.toNat (z1-1)]? =some x1)∧∀(x1:Lev),(d.stack[Int.toNat (z1-1)]? =some x1)→((d.stack[Int.toNat (z1-1)]? =some x1)∧((0:Int)≤z1-1)∧(.v (vI x1.left):S)= .v (vI (Dm d))∧([]:List Blk)=[])))) (by kernel_rfl) ?_
 refine dsp (fun h1 p1=>?_) fun h1 p1=>?_
 refine⟨(sI ?_),rfl⟩
 rotate_left
 refine⟨(Ah (by omega) (by omega)),(Bo (l:=d.stack) (i:=Int.toNat ((d.stack.length:Int)-1)) (by omega)),fun x1 hx1=>?_⟩
 have htop:Dm d=x1.left:=by unfold Dm;rw[Ss (by rw[←hx1];congr 1;omega)]
 refine⟨hx1,(by omega),(sI ?_),rfl⟩
 rotate_left
 all_goals first|(exact htop.symm)|((unfold Dm;rw[List.eq_nil_of_length_eq_zero (by omega:d.stack.length=0)];rfl))|(grind)
theorem Adp (p:Pln) (k:Int) (hp1:List.length (p).shapes≤bigN):Fun Tryz.prog 233 [.agg (F4 p),vI k] [] (.v (vB (Ak k 0 (((List.length (p).shapes:Nat):Int)-1)))) []:=by
 have hN:bigN=274877906944:=rfl
 refine Af Tryz.func233 (by kernel_rfl) (by kernel_rfl) (w:=let z1:=(p.shapes.length:Int)-1;let z2:=vB (Ak k 0 z1);(.seg [.as 10 (.v (vI z1)),.call [] (.v z2) []] (.leaf () []),((.v (vI (IntKind.i64.wrap z1)):S)= .v (vI z1))∧(Fun Tryz.prog 173 [vI k,vI 0,vI z1] [] (.v z2) [])∧(.v z2:S)= .v (vB (Ak k 0 (((List.length (p).shapes:Nat):Int)-1)))∧([]:List Blk)=[])) (by kernel_rfl) ?_
 exact⟨(Ah (by omega) (by omega)),(B1 _ _ _),(congrArg S.v (congrArg V.c (congrArg C.bool (by rfl)))),rfl⟩
theorem Adq (p:Pln) (l:Lev) (hp1:List.length (p).shapes≤bigN):Fun Tryz.prog 208 [.agg (F4 p),.agg (Yk l)] [] (.v (vB (E2 ((List.length (p).shapes:Nat):Int) l))) []:=by
 have hN:bigN=274877906944:=rfl
 refine Af Tryz.func208 (by kernel_rfl) (by kernel_rfl) (w:=let z1:=((List.length (p).shapes:Nat):Int);let z2:=Ak l.msg 0 (z1-1);let z3:=vB (Ak l.left 0 2000);(.seg [.call [] (.v (vB z2)) []] (.br (.seg [.call [] (.v z3) []] (.leaf () [])) (.leaf () [])),(Fun Tryz.prog 233 [.agg (F4 p),vI l.msg] [] (.v (vB z2)) [])∧(z2=true→(Fun Tryz.prog 173 [vI l.left,vI 0,vI 2000] [] (.v z3) [])∧(.v z3:S)= .v (vB (E2 z1 l))∧([]:List Blk)=[])∧(z2=false→(.v (vB false):S)= .v (vB (E2 z1 l))∧([]:List Blk)=[]))) (by kernel_rfl) ?_
 refine⟨(Adp p _ (by omega)),fun h1=>have p1:=Ap h1;?_,fun h1=>have p1:=Ay h1;?_⟩
 refine⟨(B1 _ _ _),(sB ?_),rfl⟩
 rotate_left
 refine⟨(sB ?_),rfl⟩
 rotate_left
 all_goals first|(simp[E2, *];done)|(simp_all[E2];done)|(grind[E2])
theorem Afj (l:Lev) (d:Dcd) (hp1:List.length (d).plan.shapes≤bigN):Fun Tryz.prog 207 [.agg (Yk l),vP 0] [.cells (Bi d)] (.v (vB (!E2 ((List.length (d).plan.shapes:Nat):Int) l))) [.cells (Bi d)]:=by
 have hN:bigN=274877906944:=rfl
 refine Af Tryz.func207 (by kernel_rfl) (by kernel_rfl) (w:=let z1:=E2 ((List.length (d.plan).shapes:Nat):Int) l;(.seg [.call [] (.v (vB z1)) []] (.leaf () [0]),(Fun Tryz.prog 208 [.agg (F4 d.plan),.agg (Yk l)] [] (.v (vB z1)) [])∧(.v (vB (!z1)):S)= .v (vB (!E2 ((List.length (d).plan.shapes:Nat):Int) l))∧([.cells (Bi d)]:List Blk)=[.cells (Bi d)])) (by kernel_rfl) ?_
 exact⟨(Adq d.plan l (by omega)),(congrArg S.v (congrArg V.c (congrArg C.bool (by rfl)))),rfl⟩
structure Pn where
 v:Nat
def Po (s:List Lev) (d:Dcd):Fam:=⟨Pn,fun q1=>[(0,.v (.c (.seq .lev s))),(1,.v (.c (.fn 207 [0]))),(7,.v (vI (s.length:Int))),(8,.v (vI (q1.v:Int)))],fun _=>[.cells (Bi d)],fun q1=>q1.v≤s.length∧Tz (d.plan.shapes.length:Int) (List.drop q1.v s)+q1.v=Tz (d.plan.shapes.length:Int) s,fun q1=>s.length-q1.v⟩
theorem Aix (s:List Lev) (d:Dcd) (hp1:List.length (d).plan.shapes≤bigN) (hp2:s.length≤bigN):Fun Tryz.prog 232 [.c (.seq .lev s),.c (.fn 207 [0])] [.cells (Bi d)] (.v (vI (J7 ((List.length (d).plan.shapes:Nat):Int) s))) [.cells (Bi d)]:=by
 have hN:bigN=274877906944:=rfl
 refine Af Tryz.func232 (by kernel_rfl) (by kernel_rfl) (w:=let z3:=((List.length (d).plan.shapes:Nat):Int);let z4:List Blk:=[.cells (Bi d)];let z5:=(s.length:Int);let z6:=Po s d;(.seg [.at 0,.keep [0,1,7,8],.sel [0]] (.loop z6 fun q1=> .br (.intro (fun (x1:Lev)=>s[q1.v]? =some x1) fun x1=> .seg [.el .lev x1,.call [0] (.v (vB (!E2 z3 x1))) z4] (.br (.leaf () [0]) (.seg [.as 18 (.v (vI ((q1.v:Int)+1))),.at 0,.keep [0,1,7,8],.sel [0]] (.next)))) (.leaf () [0])),z6.Has [(0,.v (.c (.seq .lev s))),(1,.v (.c (.fn 207 [0]))),(7,.v (vI z5)),(8,.v (vI 0))] z4∧∀q1,z6.inv q1→(let z2:=(q1.v:Int);((decide (z2<z5))=true→(∃(x1:Lev),s[q1.v]? =some x1)∧∀(x1:Lev),(s[q1.v]? =some x1)→(let z1:= !E2 z3 x1;(s[q1.v]? =some x1)∧((0:Int)≤z2)∧(Fun Tryz.prog 207 [.agg (Yk x1),vP 0] z4 (.v (vB z1)) z4)∧(z1=true→(.v (vI z2):S)= .v (vI (J7 z3 s))∧(z4:List Blk)=z4)∧(z1=false→((.v (vI (IntKind.i64.wrap (z2+1))):S)= .v (vI (z2+1)))∧z6.Nxt q1 [(0,.v (.c (.seq .lev s))),(1,.v (.c (.fn 207 [0]))),(7,.v (vI z5)),(8,.v (vI (z2+1)))] z4)))∧((decide (z2<z5))=false→(.v (vI (-1)):S)= .v (vI (J7 z3 s))∧(z4:List Blk)=z4)))) (by kernel_rfl) ?_
 refine⟨Bc (j:=(⟨0⟩:Pn)) (by first|rfl|simp) rfl (by dsimp only[Po];exact⟨by omega,rfl⟩),fun (q1:Pn) hq_q1=>?_⟩
 have hi_q1:q1.v≤s.length∧Tz (d.plan.shapes.length:Int) (List.drop q1.v s)+q1.v=Tz (d.plan.shapes.length:Int) s:=hq_q1
 obtain ⟨v1,v3⟩:=hi_q1
 refine dsp (fun h1 p1=>?_) fun h1 p1=>?_
 refine⟨(Bo (l:=s) (i:=q1.v) (by omega)),fun x1 hx1=>?_⟩
 rw[C7 hx1,Pf] at v3
 have hll:=congrArg List.length (C7 hx1)
 rw[List.length_drop,List.length_cons,List.length_drop] at hll
 refine⟨hx1,(by omega),(Afj x1 d (by omega)),fun h2=>have q2:=Am h2;?_,fun h2=>have q2:=Aj h2;?_⟩
 rw[if_neg (by simp[q2])] at v3
 have hbl:J7 (d.plan.shapes.length:Int) s=q1.v:=by unfold J7;rw[if_neg (by omega)];omega
 refine⟨(sI ?_),rfl⟩
 rotate_left
 rw[if_pos q2] at v3
 exact⟨(Ah (by omega) (by omega)),Bm (j:=(⟨q1.v+1⟩:Pn)) (by first|rfl|simp) rfl (by dsimp only[Po];exact⟨by omega,by omega⟩) (by dsimp only[Po];omega)⟩
 rw[List.drop_eq_nil_of_le (by omega)] at v3
 simp only[Tz] at v3
 have hbl:J7 (d.plan.shapes.length:Int) s= -1:=by unfold J7;rw[if_pos (by omega)]
 refine⟨(sI ?_),rfl⟩
 rotate_left
 all_goals first|(exact hbl.symm)|(grind)
theorem Aiy (s:List Lev) (d:Dcd) (hp1:List.length (d).plan.shapes≤bigN) (hp2:s.length≤bigN):Fun Tryz.prog 206 [.c (.seq .lev s),.c (.fn 207 [0])] [.cells (Bi d)] (.v (vB (decide (0≤J7 ((List.length (d).plan.shapes:Nat):Int) s)))) [.cells (Bi d)]:=by
 have hN:bigN=274877906944:=rfl
 refine Af Tryz.func206 (by kernel_rfl) (by kernel_rfl) (w:=let z1:=((List.length (d).plan.shapes:Nat):Int);let z2:List Blk:=[.cells (Bi d)];(.seg [.call [0] (.v (vI (J7 z1 s))) z2] (.leaf () [0]),(Fun Tryz.prog 232 [.c (.seq .lev s),.c (.fn 207 [0])] z2 (.v (vI (J7 z1 s))) z2)∧(.v (vB (decide (0≤J7 z1 s))):S)= .v (vB (decide (0≤J7 z1 s)))∧(z2:List Blk)=z2)) (by kernel_rfl) ?_
 exact⟨(Aix _ d (by omega) (by omega)),rfl,rfl⟩
theorem Uq (d:Dcd) (hp1:List.length (d).stack≤bigN) (hp2:List.length (d).plan.shapes≤bigN):Fun Tryz.prog 174 [.agg (Bi d)] [] (.v (vB (A5 d))) []:=by
 have hN:bigN=274877906944:=rfl
 refine Af Tryz.func174 (by kernel_rfl) (by kernel_rfl) (w:=let z1:=decide (0≤J7 ((List.length (d).plan.shapes:Nat):Int) d.stack);let z2:=decide ((d.stack.length:Int)≤d.plan.deep);let z3:=Cv d.plan;(.seg [.call [] (.v (vB z3)) []] (.br (.br (.seg [.call [0] (.v (vB z1)) [.cells (Bi d)]] (.leaf () [])) (.leaf () [])) (.leaf () [])),(Fun Tryz.prog 165 [.agg (F4 d.plan)] [] (.v (vB z3)) [])∧(z3=true→(z2=true→(Fun Tryz.prog 206 [.c (.seq .lev d.stack),.c (.fn 207 [0])] [.cells (Bi d)] (.v (vB z1)) [.cells (Bi d)])∧(.v (vB (!z1)):S)= .v (vB (A5 d))∧([]:List Blk)=[])∧(z2=false→(.v (vB false):S)= .v (vB (A5 d))∧([]:List Blk)=[]))∧(z3=false→(.v (vB false):S)= .v (vB (A5 d))∧([]:List Blk)=[]))) (by kernel_rfl) ?_
 refine⟨(Aac d.plan),fun h1=>have p1:=By h1;?_,fun h1=>?_⟩
 refine dsp (fun h2 p2=>?_) fun h2 p2=>?_
 refine⟨(Aiy _ d (by omega) (by omega)),(sB ?_),rfl⟩
 rotate_left
 refine⟨(sB ?_),rfl⟩
 rotate_left
 refine⟨(sB ?_),rfl⟩
 rotate_left
 all_goals first|(simp_all[A5];done)|((unfold A5;rw[Lj];grind[J7]))|(grind[A5,J7,Lj])
theorem Pp (k:Int):Fun Tryz.prog 210 [vI k] [] (.v (vB (Ks k))) []:=by
 have hN:bigN=274877906944:=rfl
 refine Af Tryz.func210 (by kernel_rfl) (by kernel_rfl) (w:=let z1:=vB (Ak k 1 10);(.seg [.call [] (.v z1) []] (.leaf () []),(Fun Tryz.prog 173 [vI k,vI 1,vI 10] [] (.v z1) [])∧(.v z1:S)= .v (vB (Ks k))∧([]:List Blk)=[])) (by kernel_rfl) ?_
 exact⟨(B1 _ _ _),(congrArg S.v (congrArg V.c (congrArg C.bool (by rfl)))),rfl⟩
theorem Vw (e:Ev):Fun Tryz.prog 211 [.agg (cEv e)] [] (.v (.agg (cEv (Cg e)))) []:=by
 have hN:bigN=274877906944:=rfl
 refine Af Tryz.func211 (by kernel_rfl) (by kernel_rfl) (w:=let zi:Int→C:= .int .i64;let z1:List C:=[.int .u64 0,zi e.len,.str [],zi 0,zi 0];let z2:=cEv (Cg e);let z3:=([]:List Blk);let z4:=(.v (.agg (zi e.kind::zi e.field::z1)):S);let z5:=decide (e.kind=3);let z6:=os 8 [5,7];(.br (.leaf () []) (.br (.seg [.ord z6 [2]] (.leaf () [])) (.br (.seg [.br true,.ord z6 [2]] (.leaf () [])) (.br (.seg [.ord z6 [2]] (.leaf () [])) (.br (.leaf () []) (.br (.leaf () []) (.br (.seg [.ord z6 [2]] (.leaf () [])) (.leaf () []))))))),((decide (e.kind=1))=true→(.v (.agg (zi e.kind::zi 0::z1)):S)= .v (.agg z2)∧z3=[])∧((decide (e.kind=1))=false→((decide (e.kind=2))=true→(.v (.agg [zi e.kind,zi e.field,.int .u64 e.bits,zi 0,.str [],zi 0,zi 0]):S)= .v (.agg z2)∧z3=[])∧((decide (e.kind=2))=false→(z5=true→(z5=true)∧z4= .v (.agg z2)∧z3=[])∧(z5=false→((decide (e.kind=6))=true→z4= .v (.agg z2)∧z3=[])∧((decide (e.kind=6))=false→((decide (e.kind=4))=true→(.v (.agg [zi e.kind,zi 0,.int .u64 0,zi 0,.str e.text,zi 0,zi 0]):S)= .v (.agg z2)∧z3=[])∧((decide (e.kind=4))=false→((decide (e.kind=9))=true→(.v (.agg [zi e.kind,zi 0,.int .u64 0,zi 0,.str [],zi 0,zi e.at_]):S)= .v (.agg z2)∧z3=[])∧((decide (e.kind=9))=false→((decide (e.kind=10))=true→(.v (.agg [zi e.kind,zi 0,.int .u64 0,zi 0,.str [],zi e.code,zi e.at_]):S)= .v (.agg z2)∧z3=[])∧((decide (e.kind=10))=false→(.v (.agg [zi e.kind,zi 0,.int .u64 0,zi 0,.str [],zi 0,zi 0]):S)= .v (.agg z2)∧z3=[]))))))))) (by kernel_rfl) ?_
 refine dsp (fun h1 p1=>?_) fun h1 p1=>?_
 refine have hm1:Cg e=(⟨e.kind,0,0,e.len,[],0,0⟩:Ev):=?_;?_
 rotate_left
 refine⟨(congrArg S.v (congrArg V.agg (Aa (congrArg (C.int .i64) ?_) (Aa (congrArg (C.int .i64) ?_) (Aa (congrArg (C.int .u64) ?_) (Aa (congrArg (C.int .i64) ?_) (Aa (congrArg C.str ?_) (Aa (congrArg (C.int .i64) ?_) (Aa (congrArg (C.int .i64) ?_) rfl))))))))),rfl⟩
 rotate_left 7
 refine dsp (fun h2 p2=>?_) fun h2 p2=>?_
 refine have hm1:Cg e=(⟨e.kind,e.field,e.bits,0,[],0,0⟩:Ev):=?_;?_
 rotate_left
 refine⟨(congrArg S.v (congrArg V.agg (Aa (congrArg (C.int .i64) ?_) (Aa (congrArg (C.int .i64) ?_) (Aa (congrArg (C.int .u64) ?_) (Aa (congrArg (C.int .i64) ?_) (Aa (congrArg C.str ?_) (Aa (congrArg (C.int .i64) ?_) (Aa (congrArg (C.int .i64) ?_) rfl))))))))),rfl⟩
 rotate_left 7
 refine dsp (fun h3 p3=>?_) fun h3 p3=>?_
 refine⟨h3,?_⟩
 refine have hm1:Cg e=(⟨e.kind,e.field,0,e.len,[],0,0⟩:Ev):=?_;?_
 rotate_left
 refine⟨(congrArg S.v (congrArg V.agg (Aa (congrArg (C.int .i64) ?_) (Aa (congrArg (C.int .i64) ?_) (Aa (congrArg (C.int .u64) ?_) (Aa (congrArg (C.int .i64) ?_) (Aa (congrArg C.str ?_) (Aa (congrArg (C.int .i64) ?_) (Aa (congrArg (C.int .i64) ?_) rfl))))))))),rfl⟩
 rotate_left 7
 refine dsp (fun h4 p4=>?_) fun h4 p4=>?_
 refine have hm1:Cg e=(⟨e.kind,e.field,0,e.len,[],0,0⟩:Ev):=?_;?_
 rotate_left
 refine⟨(congrArg S.v (congrArg V.agg (Aa (congrArg (C.int .i64) ?_) (Aa (congrArg (C.int .i64) ?_) (Aa (congrArg (C.int .u64) ?_) (Aa (congrArg (C.int .i64) ?_) (Aa (congrArg C.str ?_) (Aa (congrArg (C.int .i64) ?_) (Aa (congrArg (C.int .i64) ?_) rfl))))))))),rfl⟩
 rotate_left 7
 refine dsp (fun h5 p5=>?_) fun h5 p5=>?_
 refine have hm1:Cg e=(⟨e.kind,0,0,0,e.text,0,0⟩:Ev):=?_;?_
 rotate_left
 refine⟨(congrArg S.v (congrArg V.agg (Aa (congrArg (C.int .i64) ?_) (Aa (congrArg (C.int .i64) ?_) (Aa (congrArg (C.int .u64) ?_) (Aa (congrArg (C.int .i64) ?_) (Aa (congrArg C.str ?_) (Aa (congrArg (C.int .i64) ?_) (Aa (congrArg (C.int .i64) ?_) rfl))))))))),rfl⟩
 rotate_left 7
 refine dsp (fun h6 p6=>?_) fun h6 p6=>?_
 refine have hm1:Cg e=(⟨e.kind,0,0,0,[],0,e.at_⟩:Ev):=?_;?_
 rotate_left
 refine⟨(congrArg S.v (congrArg V.agg (Aa (congrArg (C.int .i64) ?_) (Aa (congrArg (C.int .i64) ?_) (Aa (congrArg (C.int .u64) ?_) (Aa (congrArg (C.int .i64) ?_) (Aa (congrArg C.str ?_) (Aa (congrArg (C.int .i64) ?_) (Aa (congrArg (C.int .i64) ?_) rfl))))))))),rfl⟩
 rotate_left 7
 refine dsp (fun h7 p7=>?_) fun h7 p7=>?_
 refine have hm1:Cg e=(⟨e.kind,0,0,0,[],e.code,e.at_⟩:Ev):=?_;?_
 rotate_left
 refine⟨(congrArg S.v (congrArg V.agg (Aa (congrArg (C.int .i64) ?_) (Aa (congrArg (C.int .i64) ?_) (Aa (congrArg (C.int .u64) ?_) (Aa (congrArg (C.int .i64) ?_) (Aa (congrArg C.str ?_) (Aa (congrArg (C.int .i64) ?_) (Aa (congrArg (C.int .i64) ?_) rfl))))))))),rfl⟩
 rotate_left 7
 refine have hm1:Cg e=(⟨e.kind,0,0,0,[],0,0⟩:Ev):=?_;?_
 rotate_left
 refine⟨(congrArg S.v (congrArg V.agg (Aa (congrArg (C.int .i64) ?_) (Aa (congrArg (C.int .i64) ?_) (Aa (congrArg (C.int .u64) ?_) (Aa (congrArg (C.int .i64) ?_) (Aa (congrArg C.str ?_) (Aa (congrArg (C.int .i64) ?_) (Aa (congrArg (C.int .i64) ?_) rfl))))))))),rfl⟩
 rotate_left 7
 all_goals first|(simp_all[Cg];done)|(grind[Cg])
theorem M0 (e:Ev):Fun Tryz.prog 129 [.agg (cEv e)] [] (.v (vB (Bt e))) []:=by
 have hN:bigN=274877906944:=rfl
 refine Af Tryz.func129 (by kernel_rfl) (by kernel_rfl) (w:=(.br (.leaf () []) (.leaf () []),((decide (e.kind=9))=true→(.v (vB true):S)= .v (vB (Bt e))∧([]:List Blk)=[])∧((decide (e.kind=9))=false→(.v (vB (decide (e.kind=10))):S)= .v (vB (Bt e))∧([]:List Blk)=[]))) (by kernel_rfl) ?_
 refine dsp (fun h1 p1=>?_) fun h1 p1=>?_
 refine⟨(sB ?_),rfl⟩
 rotate_left
 refine⟨(sB ?_),rfl⟩
 rotate_left
 all_goals first|(simp_all[Bt];done)|(grind[Bt])
theorem Qf (e:Ev):Fun Tryz.prog 132 [.agg (cEv e)] [] (.v (vB (Bt e))) []:=by
 have hN:bigN=274877906944:=rfl
 refine Af Tryz.func132 (by kernel_rfl) (by kernel_rfl) (w:=(.br (.leaf () []) (.leaf () []),((decide (e.kind=9))=true→(.v (vB true):S)= .v (vB (Bt e))∧([]:List Blk)=[])∧((decide (e.kind=9))=false→(.v (vB (decide (e.kind=10))):S)= .v (vB (Bt e))∧([]:List Blk)=[]))) (by kernel_rfl) ?_
 refine dsp (fun h1 p1=>?_) fun h1 p1=>?_
 refine⟨(sB ?_),rfl⟩
 rotate_left
 refine⟨(sB ?_),rfl⟩
 rotate_left
 all_goals first|(simp_all[Bt];done)|(grind[Bt])
theorem Xf (e:Ev):Fun Tryz.prog 178 [.agg (cEv e)] [] (.v (vB (Gs e))) []:=by
 have hN:bigN=274877906944:=rfl
 refine Af Tryz.func178 (by kernel_rfl) (by kernel_rfl) (w:=let z2:=Ks e.kind;let z3:=vB (Gs e);let z4:=Cg e;let z1:= !(decide (e.kind=z4.kind)&&(decide (e.field=z4.field)&&(decide (e.bits=z4.bits)&&(decide (e.len=z4.len)&&(decide (e.text=z4.text)&&(decide (e.code=z4.code)&&decide (e.at_=z4.at_)))))));let z5:=([]:List Blk);let z6:=decide (e.len<0);let z7:=vB (Ak e.field 1 536870911);let z8:=(.v (vB false):S);let z9:=Ef e.kind;let z10:=os 21 [2,7];(.case (!z2) (.seg [.ord z10 [],.call [] (.v (vB z2)) [],.br true] (.leaf () [])) (.case z1 (.seg [.ord z10 [],.call [] (.v (vB z2)) [],.br false,.call [] (.v (.agg (cEv z4))) [],.br true] (.leaf () [])) (.case z6 (.seg [.ord z10 [],.call [] (.v (vB z2)) [],.br false,.call [] (.v (.agg (cEv z4))) [],.br false,.br true] (.leaf () [])) (.seg [.ord z10 [],.call [] (.v (vB z2)) [],.br false,.call [] (.v (.agg (cEv z4))) [],.br false,.br false] (.br (.leaf () []) (.seg [.call [] (.v (vB z9)) []] (.br (.seg [.call [] (.v z7) []] (.leaf () [])) (.br (.leaf () []) (.br (.leaf () []) (.leaf () []))))))))),((!z2)=true→(Fun Tryz.prog 210 [vI e.kind] [] (.v (vB z2)) [])∧((!z2)=true)∧z8= .v z3∧z5=[])∧((!z2)=false→(z1=true→(Fun Tryz.prog 210 [vI e.kind] [] (.v (vB z2)) [])∧((!z2)=false)∧(Fun Tryz.prog 211 [.agg (cEv e)] [] (.v (.agg (cEv z4))) [])∧(z1=true)∧z8= .v z3∧z5=[])∧(z1=false→(z6=true→(Fun Tryz.prog 210 [vI e.kind] [] (.v (vB z2)) [])∧((!z2)=false)∧(Fun Tryz.prog 211 [.agg (cEv e)] [] (.v (.agg (cEv z4))) [])∧(z1=false)∧(z6=true)∧z8= .v z3∧z5=[])∧(z6=false→(Fun Tryz.prog 210 [vI e.kind] [] (.v (vB z2)) [])∧((!z2)=false)∧(Fun Tryz.prog 211 [.agg (cEv e)] [] (.v (.agg (cEv z4))) [])∧(z1=false)∧(z6=false)∧((decide (e.at_<0))=true→z8= .v z3∧z5=[])∧((decide (e.at_<0))=false→(Fun Tryz.prog 212 [vI e.kind] [] (.v (vB z9)) [])∧(z9=true→(Fun Tryz.prog 173 [vI e.field,vI 1,vI 536870911] [] (.v z7) [])∧(.v z7:S)= .v z3∧z5=[])∧(z9=false→((decide (e.kind=4))=true→(.v (vB (!decide (e.text=[]))):S)= .v z3∧z5=[])∧((decide (e.kind=4))=false→((decide (e.kind=10))=true→(.v (vB (decide (1≤e.code))):S)= .v z3∧z5=[])∧((decide (e.kind=10))=false→(.v (vB true):S)= .v z3∧z5=[]))))))))) (by kernel_rfl) ?_
 refine⟨fun h1=>have q1:=Am h1;?_,fun h1=>have q1:=Aj h1;?_⟩
 refine⟨(Pp _),h1,(sB ?_),rfl⟩
 rotate_left
 refine⟨fun h2=>have q2:=Am h2;have p2:=(Cp dT (Cp dT (Cp dT (Cp dT (Cp dT (Cp dT dF)))))).1 q2;?_,fun h2=>have q2:=Aj h2;have p2:=(Co dT (Co dT (Co dT (Co dT (Co dT (Co dT dT)))))).1 q2;?_⟩
 have hib:Pg e=false:=by rw[Pi rfl];exact q2
 refine⟨(Pp _),h1,(Vw e),h2,(sB ?_),rfl⟩
 rotate_left
 have hib:Pg e=true:=by rw[Pi rfl];exact q2
 refine dsp (fun h3 p3=>?_) fun h3 p3=>?_
 refine⟨(Pp _),h1,(Vw e),h2,h3,(sB ?_),rfl⟩
 rotate_left
 refine⟨(Pp _),h1,(Vw e),h2,h3,dsp (fun h4 p4=>?_) fun h4 p4=>?_⟩
 refine⟨(sB ?_),rfl⟩
 rotate_left
 refine⟨(Abf _),fun h5=>?_,fun h5=>?_⟩
 refine⟨(B1 _ _ _),(sB ?_),rfl⟩
 rotate_left
 refine dsp (fun h6 p6=>?_) fun h6 p6=>?_
 refine⟨(sB ?_),rfl⟩
 rotate_left
 refine dsp (fun h7 p7=>?_) fun h7 p7=>?_
 refine⟨(sB ?_),rfl⟩
 rotate_left
 refine⟨(sB ?_),rfl⟩
 rotate_left
 all_goals first|((simp only[Gs,hib];simp[Ks,Ef, *];done))|(grind[Gs,Ef,Ks])
structure Cs where
 want:Ev
def C6 (e:Ev):Fam:=⟨Cs,fun j0=>[(1,.v (vP 0)),(3,.v (vP 1))],fun j0=>[.cells (cEv e),.cells (cEv j0.want)],fun j0=>j0.want=Cg e,fun _=>0⟩
theorem Adr (e:Ev):Fun Tryz.prog 148 [.agg (cEv e)] [] (.v (vB (Gs e))) []:=by
 have hN:bigN=274877906944:=rfl
 refine Af Tryz.func148 (by kernel_rfl) (by kernel_rfl) (w:=let zi:Int→C:= .int .i64;let z2:List C:=[.int .u64 0,zi e.len,.str [],zi 0,zi 0];let z3:=vB (Ak e.field 1 536870911);let z4:=C6 e;let z5:=vB (Gs e);let z6:=([]:List Blk);let z7:=decide (e.kind=3);let z8:=decide (e.kind=2);let z9:List Blk:=[.cells (cEv e),.cells (zi e.kind::zi e.field::z2)];let z10:=decide (e.kind=10);let z11:=decide (e.kind=6);let z12:=decide (e.kind=4);let z13:List V:=[vI e.field,vI 1,vI 536870911];let z14:=Ak e.kind 1 10;let z15:=(.v (vB false):S);(.join 0 z4 (.br (.seg [.at 0,.keep [1,3],.sel [0,1]] (.next)) (.br (.seg [.at 0,.keep [1,3],.sel [0,1]] (.next)) (.br (.seg [.br true,.at 0,.keep [1,3],.sel [0,1]] (.next)) (.br (.seg [.at 0,.keep [1,3],.sel [0,1]] (.next)) (.br (.seg [.at 0,.keep [1,3],.sel [0,1]] (.next)) (.br (.seg [.at 0,.keep [1,3],.sel [0,1]] (.next)) (.br (.seg [.at 0,.keep [1,3],.sel [0,1]] (.next)) (.seg [.at 0,.keep [1,3],.sel [0,1]] (.next))))))))) fun j0=> .br (.leaf () []) (.seg [.call [] (.v (vB z14)) []] (.br (.leaf () []) (.br (.leaf () []) (.br (.leaf () []) (.br (.seg [.br true,.call [] (.v z3) []] (.leaf () [])) (.br (.seg [.br true,.call [] (.v z3) []] (.leaf () [])) (.br (.seg [.call [] (.v z3) []] (.leaf () [])) (.br (.leaf () []) (.br (.leaf () []) (.leaf () [])))))))))),(((decide (e.kind=1))=true→z4.Has [(1,.v (vP 0)),(3,.v (vP 1))] [.cells (cEv e),.cells (zi e.kind::zi 0::z2)])∧((decide (e.kind=1))=false→(z8=true→z4.Has [(1,.v (vP 0)),(3,.v (vP 1))] [.cells (cEv e),.cells [zi e.kind,zi e.field,.int .u64 e.bits,zi 0,.str [],zi 0,zi 0]])∧(z8=false→(z7=true→(z7=true)∧z4.Has [(1,.v (vP 0)),(3,.v (vP 1))] z9)∧(z7=false→(z11=true→z4.Has [(1,.v (vP 0)),(3,.v (vP 1))] z9)∧(z11=false→(z12=true→z4.Has [(1,.v (vP 0)),(3,.v (vP 1))] [.cells (cEv e),.cells [zi e.kind,zi 0,.int .u64 0,zi 0,.str e.text,zi 0,zi 0]])∧(z12=false→((decide (e.kind=9))=true→z4.Has [(1,.v (vP 0)),(3,.v (vP 1))] [.cells (cEv e),.cells [zi e.kind,zi 0,.int .u64 0,zi 0,.str [],zi 0,zi e.at_]])∧((decide (e.kind=9))=false→(z10=true→z4.Has [(1,.v (vP 0)),(3,.v (vP 1))] [.cells (cEv e),.cells [zi e.kind,zi 0,.int .u64 0,zi 0,.str [],zi e.code,zi e.at_]])∧(z10=false→z4.Has [(1,.v (vP 0)),(3,.v (vP 1))] [.cells (cEv e),.cells [zi e.kind,zi 0,.int .u64 0,zi 0,.str [],zi 0,zi 0]]))))))))∧∀j0,z4.inv j0→(let z1:= !(decide (e.kind=j0.want.kind)&&(decide (e.field=j0.want.field)&&(decide (e.bits=j0.want.bits)&&(decide (e.len=j0.want.len)&&(decide (e.text=j0.want.text)&&(decide (e.code=j0.want.code)&&decide (e.at_=j0.want.at_)))))));(z1=true→z15= .v z5∧z6=[])∧(z1=false→(Fun Tryz.prog 105 [vI e.kind,vI 1,vI 10] [] (.v (vB z14)) [])∧((!z14)=true→z15= .v z5∧z6=[])∧((!z14)=false→((decide (e.len<0))=true→z15= .v z5∧z6=[])∧((decide (e.len<0))=false→((decide (e.at_<0))=true→z15= .v z5∧z6=[])∧((decide (e.at_<0))=false→(z8=true→(z8=true)∧(Fun Tryz.prog 105 z13 [] (.v z3) [])∧(.v z3:S)= .v z5∧z6=[])∧(z8=false→(z7=true→(z7=true)∧(Fun Tryz.prog 105 z13 [] (.v z3) [])∧(.v z3:S)= .v z5∧z6=[])∧(z7=false→(z11=true→(Fun Tryz.prog 105 z13 [] (.v z3) [])∧(.v z3:S)= .v z5∧z6=[])∧(z11=false→(z12=true→(.v (vB (!decide (e.text=[]))):S)= .v z5∧z6=[])∧(z12=false→(z10=true→(.v (vB (decide (1≤e.code))):S)= .v z5∧z6=[])∧(z10=false→(.v (vB true):S)= .v z5∧z6=[])))))))))))) (by kernel_rfl) ?_
 refine⟨?_,fun (j0:Cs) hq_j0=>?_⟩
 refine dsp (fun h2 p2=>?_) fun h2 p2=>?_
 exact Bc (j:=(⟨(⟨e.kind,0,0,e.len,[],0,0⟩:Ev)⟩:Cs)) rfl (by first|rfl|simp) (by dsimp only[C6];first|((simp_all[Cg];done))|(grind[Cg]))
 refine dsp (fun h3 p3=>?_) fun h3 p3=>?_
 exact Bc (j:=(⟨(⟨e.kind,e.field,e.bits,0,[],0,0⟩:Ev)⟩:Cs)) rfl (by first|rfl|simp) (by dsimp only[C6];first|((simp_all[Cg];done))|(grind[Cg]))
 refine dsp (fun h4 p4=>?_) fun h4 p4=>?_
 exact⟨h4,Bc (j:=(⟨(⟨e.kind,e.field,0,e.len,[],0,0⟩:Ev)⟩:Cs)) rfl (by first|rfl|simp) (by dsimp only[C6];first|((simp_all[Cg];done))|(grind[Cg]))⟩
 refine dsp (fun h5 p5=>?_) fun h5 p5=>?_
 exact Bc (j:=(⟨(⟨e.kind,e.field,0,e.len,[],0,0⟩:Ev)⟩:Cs)) rfl (by first|rfl|simp) (by dsimp only[C6];first|((simp_all[Cg];done))|(grind[Cg]))
 refine dsp (fun h6 p6=>?_) fun h6 p6=>?_
 exact Bc (j:=(⟨(⟨e.kind,0,0,0,e.text,0,0⟩:Ev)⟩:Cs)) rfl (by first|rfl|simp) (by dsimp only[C6];first|((simp_all[Cg];done))|(grind[Cg]))
 refine dsp (fun h7 p7=>?_) fun h7 p7=>?_
 exact Bc (j:=(⟨(⟨e.kind,0,0,0,[],0,e.at_⟩:Ev)⟩:Cs)) rfl (by first|rfl|simp) (by dsimp only[C6];first|((simp_all[Cg];done))|(grind[Cg]))
 refine dsp (fun h8 p8=>?_) fun h8 p8=>?_
 exact Bc (j:=(⟨(⟨e.kind,0,0,0,[],e.code,e.at_⟩:Ev)⟩:Cs)) rfl (by first|rfl|simp) (by dsimp only[C6];first|((simp_all[Cg];done))|(grind[Cg]))
 exact Bc (j:=(⟨(⟨e.kind,0,0,0,[],0,0⟩:Ev)⟩:Cs)) rfl (by first|rfl|simp) (by dsimp only[C6];first|((simp_all[Cg];done))|(grind[Cg]))
 have hi_j0:j0.want=Cg e:=hq_j0
 refine⟨fun h2=>have q2:=Am h2;have p2:=(Cp dT (Cp dT (Cp dT (Cp dT (Cp dT (Cp dT dF)))))).1 q2;?_,fun h2=>have q2:=Aj h2;have p2:=(Co dT (Co dT (Co dT (Co dT (Co dT (Co dT dT)))))).1 q2;?_⟩
 have hib:Pg e=false:=by rw[Pi hi_j0.symm];exact q2
 refine⟨(sB ?_),rfl⟩
 rotate_left
 have hib:Pg e=true:=by rw[Pi hi_j0.symm];exact q2
 refine⟨(A8 _ _ _),fun h3=>have q3:=Am h3;have p3:=Ay q3;?_,fun h3=>have q3:=Aj h3;have p3:=Ap q3;?_⟩
 refine⟨(sB ?_),rfl⟩
 rotate_left
 refine dsp (fun h4 p4=>?_) fun h4 p4=>?_
 refine⟨(sB ?_),rfl⟩
 rotate_left
 refine dsp (fun h5 p5=>?_) fun h5 p5=>?_
 refine⟨(sB ?_),rfl⟩
 rotate_left
 refine dsp (fun h6 p6=>?_) fun h6 p6=>?_
 refine⟨h6,(A8 _ _ _),(sB ?_),rfl⟩
 rotate_left
 refine dsp (fun h7 p7=>?_) fun h7 p7=>?_
 refine⟨h7,(A8 _ _ _),(sB ?_),rfl⟩
 rotate_left
 refine dsp (fun h8 p8=>?_) fun h8 p8=>?_
 refine⟨(A8 _ _ _),(sB ?_),rfl⟩
 rotate_left
 refine dsp (fun h9 p9=>?_) fun h9 p9=>?_
 refine⟨(sB ?_),rfl⟩
 rotate_left
 refine dsp (fun h10 p10=>?_) fun h10 p10=>?_
 refine⟨(sB ?_),rfl⟩
 rotate_left
 refine⟨(sB ?_),rfl⟩
 rotate_left
 all_goals first|((simp only[Gs,hib];simp[Ks,Ef, *];done))|(grind[Gs,Ef,Ks])
theorem Aad (s:Scn):Fun Tryz.prog 216 [.agg (J6 s)] [] (.v (vB (Cz s))) []:=by
 have hN:bigN=274877906944:=rfl
 refine Af Tryz.func216 (by kernel_rfl) (by kernel_rfl) (w:=let z1:=7*s.have_;let z2:=Ak s.have_ 0 9;(.seg [.call [] (.v (vB z2)) []] (.br (.seg [.as 11 (.v (vI z1)),.as 12 (.v (.c (.int .u64 z1)))] (.leaf () [])) (.leaf () [])),(Fun Tryz.prog 173 [vI s.have_,vI 0,vI 9] [] (.v (vB z2)) [])∧(z2=true→((.v (vI (IntKind.i64.wrap z1)):S)= .v (vI z1))∧((.v (.c (.int .u64 (IntKind.u64.wrap z1))):S)= .v (.c (.int .u64 z1)))∧((0:Int)≤7*s.have_)∧(.v (vB (decide (Int.fdiv s.bits (2 ^ min (z1.toNat) 64)=0))):S)= .v (vB (Cz s))∧([]:List Blk)=[])∧(z2=false→(.v (vB false):S)= .v (vB (Cz s))∧([]:List Blk)=[]))) (by kernel_rfl) ?_
 refine⟨(B1 _ _ _),fun h1=>have p1:=Ap h1;?_,fun h1=>have p1:=Ay h1;?_⟩
 refine⟨(Ah (by omega) (by omega)),(Dx (by omega) (by omega)),(by omega),(sB ?_),rfl⟩
 rotate_left
 refine⟨(sB ?_),rfl⟩
 rotate_left
 all_goals first|(simp_all[Cz];done)|(grind[Cz])
theorem Rq (s:Scn):Fun Tryz.prog 193 [.agg (J6 s)] [] (.v (vB (Cz s))) []:=by
 have hN:bigN=274877906944:=rfl
 refine Af Tryz.func193 (by kernel_rfl) (by kernel_rfl) (w:=let z1:=7*s.have_;let z2:=Ak s.have_ 0 9;(.seg [.call [] (.v (vB z2)) []] (.br (.seg [.as 11 (.v (vI z1)),.as 12 (.v (.c (.int .u64 z1)))] (.leaf () [])) (.leaf () [])),(Fun Tryz.prog 105 [vI s.have_,vI 0,vI 9] [] (.v (vB z2)) [])∧(z2=true→((.v (vI (IntKind.i64.wrap z1)):S)= .v (vI z1))∧((.v (.c (.int .u64 (IntKind.u64.wrap z1))):S)= .v (.c (.int .u64 z1)))∧((0:Int)≤7*s.have_)∧(.v (vB (decide (Int.fdiv s.bits (2 ^ min (z1.toNat) 64)=0))):S)= .v (vB (Cz s))∧([]:List Blk)=[])∧(z2=false→(.v (vB false):S)= .v (vB (Cz s))∧([]:List Blk)=[]))) (by kernel_rfl) ?_
 refine⟨(A8 _ _ _),fun h1=>have p1:=Ap h1;?_,fun h1=>have p1:=Ay h1;?_⟩
 refine⟨(Ah (by omega) (by omega)),(Dx (by omega) (by omega)),(by omega),(sB ?_),rfl⟩
 rotate_left
 refine⟨(sB ?_),rfl⟩
 rotate_left
 all_goals first|(simp_all[Cz];done)|(grind[Cz])
theorem M1 (d:Dcd):Fun Tryz.prog 200 [.agg (Bi d)] [] (.v (vI (Bd d))) []:=by
 have hN:bigN=274877906944:=rfl
 refine Af Tryz.func200 (by kernel_rfl) (by kernel_rfl) (w:=let z1:=Cq d.field.kind;let z2:=vI (Aw d.wire);(.br (.seg [.call [] (.v z2) []] (.leaf () [])) (.br (.seg [.call [] (.v (vI z1)) [],.call [] (.v (vI (Aw z1))) []] (.leaf () [])) (.leaf () [])),((decide (d.mode=5))=true→(Fun Tryz.prog 215 [vI d.wire] [] (.v z2) [])∧(.v z2:S)= .v (vI (Bd d))∧([]:List Blk)=[])∧((decide (d.mode=5))=false→((decide (d.mode=8))=true→(Fun Tryz.prog 225 [vI d.field.kind] [] (.v (vI z1)) [])∧(Fun Tryz.prog 215 [vI z1] [] (.v (vI (Aw z1))) [])∧(.v (vI (Aw z1)):S)= .v (vI (Bd d))∧([]:List Blk)=[])∧((decide (d.mode=8))=false→(.v (vI 0):S)= .v (vI (Bd d))∧([]:List Blk)=[])))) (by kernel_rfl) ?_
 refine dsp (fun h1 p1=>?_) fun h1 p1=>?_
 refine⟨(E5 _),(sI ?_),rfl⟩
 rotate_left
 refine dsp (fun h2 p2=>?_) fun h2 p2=>?_
 refine⟨(Vt _),(E5 _),(sI ?_),rfl⟩
 rotate_left
 refine⟨(sI ?_),rfl⟩
 rotate_left
 all_goals first|(simp_all[Bd];done)|(grind[Bd])
theorem Je (d:Dcd):Fun Tryz.prog 106 [.agg (Bi d)] [] (.v (vI (Bd d))) []:=by
 have hN:bigN=274877906944:=rfl
 refine Af Tryz.func106 (by kernel_rfl) (by kernel_rfl) (w:=let z1:=Cq d.field.kind;let z2:=vI (Aw d.wire);(.br (.seg [.call [] (.v z2) []] (.leaf () [])) (.br (.seg [.call [] (.v (vI z1)) [],.call [] (.v (vI (Aw z1))) []] (.leaf () [])) (.leaf () [])),((decide (d.mode=5))=true→(Fun Tryz.prog 150 [vI d.wire] [] (.v z2) [])∧(.v z2:S)= .v (vI (Bd d))∧([]:List Blk)=[])∧((decide (d.mode=5))=false→((decide (d.mode=8))=true→(Fun Tryz.prog 154 [vI d.field.kind] [] (.v (vI z1)) [])∧(Fun Tryz.prog 150 [vI z1] [] (.v (vI (Aw z1))) [])∧(.v (vI (Aw z1)):S)= .v (vI (Bd d))∧([]:List Blk)=[])∧((decide (d.mode=8))=false→(.v (vI 0):S)= .v (vI (Bd d))∧([]:List Blk)=[])))) (by kernel_rfl) ?_
 refine dsp (fun h1 p1=>?_) fun h1 p1=>?_
 refine⟨(Gd _),(sI ?_),rfl⟩
 rotate_left
 refine dsp (fun h2 p2=>?_) fun h2 p2=>?_
 refine⟨(Vu _),(Gd _),(sI ?_),rfl⟩
 rotate_left
 refine⟨(sI ?_),rfl⟩
 rotate_left
 all_goals first|(simp_all[Bd];done)|(grind[Bd])
structure K3 where
 v:Nat
def Js (p:Pln) (f:Fld):Fam:=⟨K3,fun q1=>[(2,.v (vP 0)),(3,.v (vP 1)),(11,.v (vI (p.shapes.length:Int))),(12,.v (vI (q1.v:Int)))],fun _=>[.cells (F4 p),.cells (Fd f)],fun q1=>q1.v≤p.shapes.length∧Fq p.shapes f q1.v=false,fun q1=>p.shapes.length-q1.v⟩
theorem Ahr (p:Pln) (f:Fld) (hp1:List.length (p).shapes≤1000) (hp2: ∀x∈(p).shapes,x.fields.length≤1000):Fun Tryz.prog 177 [.agg (F4 p),.agg (Fd f)] [] (.v (vB (H4 (p).shapes f))) []:=by
 have hN:bigN=274877906944:=rfl
 refine Af Tryz.func177 (by kernel_rfl) (by kernel_rfl) (w:=let z4:=(p.shapes.length:Int);let z5:List Blk:=[.cells (F4 p),.cells (Fd f)];let z6:=Js p f;(.seg [.at 0,.keep [2,3,11,12],.sel [0,1]] (.loop z6 fun q1=>let z1:=(q1.v:Int);.br (.seg [.call [] (.tup [.agg (Fd ((fieldAt p.shapes z1 f.number).getD fld0)),vB (fieldAt p.shapes z1 f.number).isSome]) []] (.br (.br (.leaf () []) (.seg [.as 30 (.v (vI (z1+1))),.at 0,.keep [2,3,11,12],.sel [0,1]] (.next))) (.seg [.as 30 (.v (vI (z1+1))),.at 0,.keep [2,3,11,12],.sel [0,1]] (.next)))) (.leaf () [])),z6.Has [(2,.v (vP 0)),(3,.v (vP 1)),(11,.v (vI z4)),(12,.v (vI 0))] z5∧∀q1,z6.inv q1→(let z3:=(q1.v:Int);let z2:=fieldAt p.shapes z3 f.number;((decide (z3<z4))=true→(Fun Tryz.prog 209 [.agg [.seq .shp p.shapes],vI z3,vI f.number] [] (.tup [.agg (Fd (z2.getD fld0)),vB z2.isSome]) [])∧(z2.isSome=true→((decide ((z2.getD fld0).number=f.number)&&(decide ((z2.getD fld0).kind=f.kind)&&(decide ((z2.getD fld0).rep=f.rep)&&(decide ((z2.getD fld0).packed=f.packed)&&decide ((z2.getD fld0).msg=f.msg)))))=true→(.v (vB true):S)= .v (vB (H4 (p).shapes f))∧([]:List Blk)=[])∧((decide ((z2.getD fld0).number=f.number)&&(decide ((z2.getD fld0).kind=f.kind)&&(decide ((z2.getD fld0).rep=f.rep)&&(decide ((z2.getD fld0).packed=f.packed)&&decide ((z2.getD fld0).msg=f.msg)))))=false→((.v (vI (IntKind.i64.wrap (z3+1))):S)= .v (vI (z3+1)))∧z6.Nxt q1 [(2,.v (vP 0)),(3,.v (vP 1)),(11,.v (vI z4)),(12,.v (vI (z3+1)))] z5))∧(z2.isSome=false→((.v (vI (IntKind.i64.wrap (z3+1))):S)= .v (vI (z3+1)))∧z6.Nxt q1 [(2,.v (vP 0)),(3,.v (vP 1)),(11,.v (vI z4)),(12,.v (vI (z3+1)))] z5))∧((decide (z3<z4))=false→(.v (vB false):S)= .v (vB (H4 (p).shapes f))∧([]:List Blk)=[])))) (by kernel_rfl) ?_
 refine⟨Bc (j:=(⟨0⟩:K3)) (by first|rfl|simp) rfl (by dsimp only[Js];exact⟨by omega,rfl⟩),fun (q1:K3) hq_q1=>?_⟩
 have hi_q1:q1.v≤p.shapes.length∧Fq p.shapes f q1.v=false:=hq_q1
 obtain ⟨v1,v2⟩:=hi_q1
 refine dsp (fun h1 p1=>?_) fun h1 p1=>?_
 refine⟨(Sw p.shapes _ _ (by omega) (by omega)),fun h2=>?_,fun h2=>?_⟩
 obtain ⟨o,ho⟩:=Option.isSome_iff_exists.1 h2
 have hg:(fieldAt p.shapes (q1.v:Int) f.number).getD fld0=o:=by rw[ho];rfl
 refine⟨fun h3=>have p3:=(Co dT (Co dT (Co dT (Co dT dT)))).1 h3;?_,fun h3=>have p3:=(Cp dT (Cp dT (Cp dT (Cp dT dF)))).1 h3;?_⟩
 rw[hg] at p3
 have hkk:=Vk (by omega) (show (fieldAt p.shapes (q1.v:Int) f.number)=some f by rw[ho,Ada p3])
 refine⟨(sB ?_),rfl⟩
 rotate_left
 rw[hg] at p3
 have hkn:Fq p.shapes f (q1.v+1)=false:=Lk v2 (by rw[ho];intro e;exact Adb p3 (Option.some.inj e))
 exact⟨(Ah (by omega) (by omega)),Bm (j:=(⟨q1.v+1⟩:K3)) (by first|rfl|simp) rfl (by dsimp only[Js];exact⟨by omega,hkn⟩) (by dsimp only[Js];omega)⟩
 have hkn:Fq p.shapes f (q1.v+1)=false:=Lk v2 (by intro e;rw[e] at h2;simp at h2)
 exact⟨(Ah (by omega) (by omega)),Bm (j:=(⟨q1.v+1⟩:K3)) (by first|rfl|simp) rfl (by dsimp only[Js];exact⟨by omega,hkn⟩) (by dsimp only[Js];omega)⟩
 have hkk:=Z6 v2 (by omega)
 refine⟨(sB ?_),rfl⟩
 rotate_left
 all_goals first|(exact hkk.symm)|(grind)
structure Gg where
 i:Nat
def Fh (d:Dcd):Fam:=⟨Gg,fun q1=>[(1,.v (vP 0)),(3,.v (vI (q1.i:Int)))],fun _=>[.cells (Bi d)],fun q1=>q1.i≤d.plan.shapes.length∧Fq d.plan.shapes d.field q1.i=false,fun q1=>d.plan.shapes.length-q1.i⟩
theorem Abg (d:Dcd) (hp1:List.length (d).plan.shapes≤1000) (hp2: ∀x∈(d).plan.shapes,x.fields.length≤1000):Fun Tryz.prog 146 [.agg (Bi d)] [] (.v (vB (decide ((d).field=fld0)||H4 (d).plan.shapes (d).field))) []:=by
 have hN:bigN=274877906944:=rfl
 refine Af Tryz.func146 (by kernel_rfl) (by kernel_rfl) (w:=let z5:=decide (d.field.number=0)&&(decide (d.field.kind=0)&&(decide (d.field.rep=false)&&(decide (d.field.packed=false)&&decide (d.field.msg=0))));let z6:=vB (decide ((d).field=fld0)||H4 (d).plan.shapes (d).field);let z7:=Fh d;let z8:=(d.plan.shapes.length:Int);(.br (.leaf () []) (.seg [.at 0,.keep [1,3],.sel [0]] (.loop z7 fun q1=>let z2:=(q1.i:Int);let z1:=fieldAt d.plan.shapes z2 d.field.number;.br (.seg [.call [] (.tup [.agg (Fd (z1.getD fld0)),vB z1.isSome]) []] (.br (.br (.leaf () []) (.seg [.as 18 (.v (vI (z2+1))),.at 0,.keep [1,3],.sel [0]] (.next))) (.seg [.as 18 (.v (vI (z2+1))),.at 0,.keep [1,3],.sel [0]] (.next)))) (.leaf () []))),(z5=true→(.v (vB true):S)= .v z6∧([]:List Blk)=[])∧(z5=false→z7.Has [(1,.v (vP 0)),(3,.v (vI 0))] [.cells (Bi d)]∧∀q1,z7.inv q1→(let z4:=(q1.i:Int);let z3:=fieldAt d.plan.shapes z4 d.field.number;((decide (z4<z8))=true→(Fun Tryz.prog 190 [.agg [.seq .shp d.plan.shapes],vI z4,vI d.field.number] [] (.tup [.agg (Fd (z3.getD fld0)),vB z3.isSome]) [])∧(z3.isSome=true→((decide ((z3.getD fld0).number=d.field.number)&&(decide ((z3.getD fld0).kind=d.field.kind)&&(decide ((z3.getD fld0).rep=d.field.rep)&&(decide ((z3.getD fld0).packed=d.field.packed)&&decide ((z3.getD fld0).msg=d.field.msg)))))=true→(.v (vB true):S)= .v z6∧([]:List Blk)=[])∧((decide ((z3.getD fld0).number=d.field.number)&&(decide ((z3.getD fld0).kind=d.field.kind)&&(decide ((z3.getD fld0).rep=d.field.rep)&&(decide ((z3.getD fld0).packed=d.field.packed)&&decide ((z3.getD fld0).msg=d.field.msg)))))=false→((.v (vI (IntKind.i64.wrap (z4+1))):S)= .v (vI (z4+1)))∧z7.Nxt q1 [(1,.v (vP 0)),(3,.v (vI (z4+1)))] [.cells (Bi d)]))∧(z3.isSome=false→((.v (vI (IntKind.i64.wrap (z4+1))):S)= .v (vI (z4+1)))∧z7.Nxt q1 [(1,.v (vP 0)),(3,.v (vI (z4+1)))] [.cells (Bi d)]))∧((decide (z4<z8))=false→(.v (vB false):S)= .v z6∧([]:List Blk)=[]))))) (by kernel_rfl) ?_
 refine⟨fun h1=>have p1:=(Co dT (Co dT (Co dT (Co dT dT)))).1 h1;?_,fun h1=>have p1:=(Cp dT (Cp dT (Cp dT (Cp dT dF)))).1 h1;?_⟩
 refine⟨(sB ?_),rfl⟩
 rotate_left
 refine⟨Bc (j:=(⟨0⟩:Gg)) (by first|rfl|simp) rfl (by dsimp only[Fh];exact⟨by omega,rfl⟩),fun (q1:Gg) hq_q1=>?_⟩
 have hi_q1:q1.i≤d.plan.shapes.length∧Fq d.plan.shapes d.field q1.i=false:=hq_q1
 obtain ⟨v1,v2⟩:=hi_q1
 refine dsp (fun h2 p2=>?_) fun h2 p2=>?_
 refine⟨(Sx d.plan.shapes _ _ (by omega) (by omega)),fun h3=>?_,fun h3=>?_⟩
 obtain ⟨o,ho⟩:=Option.isSome_iff_exists.1 h3
 have hg:(fieldAt d.plan.shapes (q1.i:Int) d.field.number).getD fld0=o:=by rw[ho];rfl
 refine⟨fun h4=>have p4:=(Co dT (Co dT (Co dT (Co dT dT)))).1 h4;?_,fun h4=>have p4:=(Cp dT (Cp dT (Cp dT (Cp dT dF)))).1 h4;?_⟩
 rw[hg] at p4
 have hkk:=Vk (by omega) (show (fieldAt d.plan.shapes (q1.i:Int) d.field.number)=some d.field by rw[ho,Ada p4])
 refine⟨(sB ?_),rfl⟩
 rotate_left
 rw[hg] at p4
 have hkn:Fq d.plan.shapes d.field (q1.i+1)=false:=Lk v2 (by rw[ho];intro e;exact Adb p4 (Option.some.inj e))
 exact⟨(Ah (by omega) (by omega)),Bm (j:=(⟨q1.i+1⟩:Gg)) (by first|rfl|simp) rfl (by dsimp only[Fh];exact⟨by omega,hkn⟩) (by dsimp only[Fh];omega)⟩
 have hkn:Fq d.plan.shapes d.field (q1.i+1)=false:=Lk v2 (by intro e;rw[e] at h3;simp at h3)
 exact⟨(Ah (by omega) (by omega)),Bm (j:=(⟨q1.i+1⟩:Gg)) (by first|rfl|simp) rfl (by dsimp only[Fh];exact⟨by omega,hkn⟩) (by dsimp only[Fh];omega)⟩
 have hkk:=Z6 v2 (by omega)
 refine⟨(sB ?_),rfl⟩
 rotate_left
 all_goals first|(simp[hkk];done)|((rw[hkk];simp_all[fld0];done))|((have hz:=Vm p1;simp[hz];done))|(grind[fld0])
theorem Rr {s:Scn} :s=scn0↔s.bits=0∧s.have_=0:=⟨fun h=>by subst h;exact⟨rfl,rfl⟩,fun h=>by cases s;simp_all[scn0]⟩
theorem B3 {f:Fld} :f=fld0↔f.number=0∧f.kind=0∧f.rep=false∧f.packed=false∧f.msg=0:=⟨fun h=>by subst h;exact⟨rfl,rfl,rfl,rfl,rfl⟩,Vm⟩
theorem Fm {e:Ev} :e=ev0↔e.kind=0∧e.field=0∧e.bits=0∧e.len=0∧e.text=[]∧e.code=0∧e.at_=0:=⟨fun h=>by subst h;exact⟨rfl,rfl,rfl,rfl,rfl,rfl,rfl⟩,fun h=>Ait h⟩
theorem Jf (d:Dcd):0≤Bd d∧Bd d≤8:=by
 unfold Bd
 have h1:=Gc d.wire
 have h2:=Gc (Cq d.field.kind)
 split
 ·exact h1
 ·split
  ·exact h2
  ·omega
structure Lo where
 i:Nat
def Lq (d:Dcd):Fam:=⟨Lo,fun q1=>[(1,.v (vP 0)),(3,.v (vI (d.stack.length:Int))),(4,.v (vI (q1.i:Int)))],fun _=>[.cells (Bi d)],fun q1=>q1.i≤d.stack.length∧Tz (d.plan.shapes.length:Int) (List.drop q1.i d.stack)+q1.i=Tz (d.plan.shapes.length:Int) d.stack,fun q1=>d.stack.length-q1.i⟩
theorem Afk (d:Dcd) (hp1:List.length (d).stack≤bigN) (hp2:List.length (d).plan.shapes≤1000):Fun Tryz.prog 147 [.agg (Bi d)] [] (.v (vB (Mu d))) []:=by
 have hN:bigN=274877906944:=rfl
 refine Af Tryz.func147 (by kernel_rfl) (by kernel_rfl) (w:=let z7:=(d.plan.shapes.length:Int)-1;let z8:=(d.stack.length:Int);let z9:=(.v (vI (IntKind.i64.wrap z7)):S)= .v (vI z7);let z10:=Ak z8 1 d.plan.deep;let z11:=vB (Mu d);let z12:=([]:List Blk);let z13:=Lq d;let z14:=(.v (vB false):S);(.seg [.at 0,.keep [1,3,4],.sel [0]] (.loop z13 fun q1=> .br (.intro (fun (x1:Lev)=>d.stack[q1.i]? =some x1) fun x1=>let z1:=Ak x1.msg 0 z7;.case (!z1) (.seg [.ord (os 24 [12,21]) [],.el .lev x1,.as 24 (.v (vI z7)),.call [] (.v (vB z1)) [],.br true] (.leaf () [])) (.seg [.ord (os 24 [12,21]) [],.el .lev x1,.as 24 (.v (vI z7)),.call [] (.v (vB z1)) [],.br false,.el .lev x1,.call [] (.v (vB (Ak x1.left 0 2000))) []] (.br (.leaf () []) (.seg [.as 12 (.v (vI ((q1.i:Int)+1))),.at 0,.keep [1,3,4],.sel [0]] (.next))))) (.br (.leaf () []) (.br (.leaf () []) (.seg [.call [] (.v (vB z10)) []] (.br (.seg [.call [] (.v (vI (Dm d))) []] (.leaf () [])) (.leaf () [])))))),z13.Has [(1,.v (vP 0)),(3,.v (vI z8)),(4,.v (vI 0))] [.cells (Bi d)]∧∀q1,z13.inv q1→(let z6:=(q1.i:Int);((decide (z6<z8))=true→(∃(x1:Lev),d.stack[q1.i]? =some x1)∧∀(x1:Lev),(d.stack[q1.i]? =some x1)→(let z2:=Ak x1.msg 0 z7;let z3:=d.stack[q1.i]? =some x1;let z4:List V:=[vI x1.msg,vI 0,vI z7];let z5:=Ak x1.left 0 2000;((!z2)=true→z3∧((0:Int)≤z6)∧z3∧((0:Int)≤z6)∧z9∧z9∧(Fun Tryz.prog 105 z4 [] (.v (vB z2)) [])∧((!z2)=true)∧z14= .v z11∧z12=[])∧((!z2)=false→z3∧((0:Int)≤z6)∧z3∧((0:Int)≤z6)∧z9∧z9∧(Fun Tryz.prog 105 z4 [] (.v (vB z2)) [])∧((!z2)=false)∧z3∧((0:Int)≤z6)∧z3∧((0:Int)≤z6)∧(Fun Tryz.prog 105 [vI x1.left,vI 0,vI 2000] [] (.v (vB z5)) [])∧((!z5)=true→z14= .v z11∧z12=[])∧((!z5)=false→((.v (vI (IntKind.i64.wrap (z6+1))):S)= .v (vI (z6+1)))∧z13.Nxt q1 [(1,.v (vP 0)),(3,.v (vI z8)),(4,.v (vI (z6+1)))] [.cells (Bi d)]))))∧((decide (z6<z8))=false→((decide (d.mode=1))=true→(.v (vB (decide (z8=0))):S)= .v z11∧z12=[])∧((decide (d.mode=1))=false→((decide (d.mode=9))=true→(.v (vB (decide (z8≤d.plan.deep))):S)= .v z11∧z12=[])∧((decide (d.mode=9))=false→(Fun Tryz.prog 105 [vI z8,vI 1,vI d.plan.deep] [] (.v (vB z10)) [])∧(z10=true→(Fun Tryz.prog 149 [.agg (Bi d)] [] (.v (vI (Dm d))) [])∧(.v (vB (decide (1≤Dm d))):S)= .v z11∧z12=[])∧(z10=false→z14= .v z11∧z12=[]))))))) (by kernel_rfl) ?_
 refine⟨Bc (j:=(⟨0⟩:Lo)) (by first|rfl|simp) rfl (by dsimp only[Lq];exact⟨by omega,rfl⟩),fun (q1:Lo) hq_q1=>?_⟩
 have hi_q1:q1.i≤d.stack.length∧Tz (d.plan.shapes.length:Int) (List.drop q1.i d.stack)+q1.i=Tz (d.plan.shapes.length:Int) d.stack:=hq_q1
 obtain ⟨v1,v2⟩:=hi_q1
 refine dsp (fun h1 p1=>?_) fun h1 p1=>?_
 refine⟨(Bo (l:=d.stack) (i:=q1.i) (by omega)),fun x1 hx1=>?_⟩
 rw[C7 hx1,Pf] at v2
 refine⟨fun h2=>have q2:=Am h2;have p2:=Ay q2;?_,fun h2=>have q2:=Aj h2;have p2:=Ap q2;?_⟩
 refine⟨hx1,(by omega),hx1,(by omega),(Ah (by omega) (by omega)),(Ah (by omega) (by omega)),(A8 _ _ _),h2,(sB ?_),rfl⟩
 rotate_left
 refine⟨hx1,(by omega),hx1,(by omega),(Ah (by omega) (by omega)),(Ah (by omega) (by omega)),(A8 _ _ _),h2,hx1,(by omega),hx1,(by omega),(A8 _ _ _),fun h3=>have q3:=Am h3;have p3:=Ay q3;?_,fun h3=>have q3:=Aj h3;have p3:=Ap q3;?_⟩
 refine⟨(sB ?_),rfl⟩
 rotate_left
 exact⟨(Ah (by omega) (by omega)),Bm (j:=(⟨q1.i+1⟩:Lo)) (by first|rfl|simp) rfl (by dsimp only[Lq];exact⟨by omega,by simp_all[E2];omega⟩) (by dsimp only[Lq];omega)⟩
 have hal:List.all d.stack (E2 (d.plan.shapes.length:Int))=true:=by rw[Lj];rw[List.drop_eq_nil_of_le (by omega)] at v2;simp only[Tz] at v2;exact decide_eq_true (by omega)
 refine dsp (fun h2 p2=>?_) fun h2 p2=>?_
 refine⟨(sB ?_),rfl⟩
 rotate_left
 refine dsp (fun h3 p3=>?_) fun h3 p3=>?_
 refine⟨(sB ?_),rfl⟩
 rotate_left
 refine⟨(A8 _ _ _),fun h4=>have p4:=Ap h4;?_,fun h4=>have p4:=Ay h4;?_⟩
 refine⟨(L8 d (by omega)),(sB ?_),rfl⟩
 rotate_left
 refine⟨(sB ?_),rfl⟩
 rotate_left
 all_goals first|(simp_all[Mu];done)|((have hal:List.all d.stack (E2 (d.plan.shapes.length:Int))=false:=(by rw[Lj];rw[if_neg (by simp_all[E2])] at v2;exact decide_eq_false (by have:=congrArg List.length (C7 hx1);simp only[List.length_drop,List.length_cons] at this;omega));simp[Mu,hal];done))|(grind[Mu])
theorem Mv (d:Dcd) (hp1:List.length (d).stack≤bigN):Fun Tryz.prog 153 [.agg (Bi d)] [] (.v (vB (Ym d))) []:=by
 have hN:bigN=274877906944:=rfl
 have hwd:=Jf d
 refine Af Tryz.func153 (by kernel_rfl) (by kernel_rfl) (w:=let z3:=8*d.scan.have_;let z4:=decide (Int.fdiv d.scan.bits (2 ^ min (z3.toNat) 64)=0);let z8:=vB (Cz d.scan);let z9:=(.v (vB (decide (d.scan.bits=0)&&decide (d.scan.have_=0))):S);let z10:=decide (d.mode=8);let z11:=([]:List Blk);let z12:=vB (Ym d);let z13:=Bd d-1;let z2:=Ak d.scan.have_ 0 z13;let z5:=z2=false→(.v (vB false):S)= .v z12∧z11=[];let z14:=(.v (.c (.int .u64 (IntKind.u64.wrap z3))):S)= .v (.c (.int .u64 z3));let z15:=decide (Bd d=0);let z16:=z4=false→(.v (vB false):S)= .v z12∧z11=[];let z17:=vI (Dm d);let z18:List V:=[vI d.scan.have_,vI 0,vI z13];let z19:=(.v (vI (IntKind.i64.wrap z3)):S)= .v (vI z3);let z21:=decide (d.mode=6);let z22:=decide (d.mode=7);let z23:=decide (d.mode=5);let z24:=Bd d;let z6:=(.v (vI (IntKind.i64.wrap (z24-1))):S)= .v (vI z13);let z7:=z24-d.scan.have_;let z20:=(.v (vI (IntKind.i64.wrap z7)):S)= .v (vI z7);let z1:=z2=true→z19∧z14∧((0:Int)≤8*d.scan.have_)∧(z4=true→z20∧(.v (vB (decide (z24-d.scan.have_≤d.want))):S)= .v z12∧z11=[])∧z16;(.seg [.call [] (.v (vI z24)) []] (.br (.seg [.br true] (.leaf () [])) (.br (.seg [.br true] (.leaf () [])) (.br (.leaf () []) (.br (.seg [.br true] (.br (.br (.seg [.call [] (.v z8) []] (.leaf () [])) (.seg [.call [] (.v z17) [],.br true,.as 41 (.v (vI z13)),.call [] (.v (vB z2)) []] (.br (.seg [.as 50 (.v (vI z3)),.as 51 (.v (.c (.int .u64 z3)))] (.br (.seg [.as 60 (.v (vI z7))] (.leaf () [])) (.leaf () []))) (.leaf () [])))) (.seg [.call [] (.v z17) [],.br false,.as 41 (.v (vI z13)),.call [] (.v (vB z2)) []] (.br (.seg [.as 50 (.v (vI z3)),.as 51 (.v (.c (.int .u64 z3)))] (.br (.seg [.as 60 (.v (vI z7))] (.leaf () [])) (.leaf () []))) (.leaf () []))))) (.br (.seg [.br true] (.br (.seg [.call [] (.v z8) []] (.leaf () [])) (.seg [.call [] (.v z17) [],.br true,.as 41 (.v (vI z13)),.call [] (.v (vB z2)) []] (.br (.seg [.as 50 (.v (vI z3)),.as 51 (.v (.c (.int .u64 z3)))] (.br (.seg [.as 60 (.v (vI z7))] (.leaf () [])) (.leaf () []))) (.leaf () []))))) (.seg [.call [] (.v z8) []] (.leaf () []))))))),(Fun Tryz.prog 106 [.agg (Bi d)] [] (.v (vI z24)) [])∧(z21=true→(z21=true)∧z9= .v z12∧z11=[])∧(z21=false→(z22=true→(z22=true)∧z9= .v z12∧z11=[])∧(z22=false→((decide (d.mode=9))=true→z9= .v z12∧z11=[])∧((decide (d.mode=9))=false→(z23=true→(z23=true)∧(z10=true→(z15=true→(Fun Tryz.prog 193 [.agg (J6 d.scan)] [] (.v z8) [])∧(.v z8:S)= .v z12∧z11=[])∧(z15=false→(Fun Tryz.prog 149 [.agg (Bi d)] [] (.v z17) [])∧(z10=true)∧z6∧(Fun Tryz.prog 105 z18 [] (.v (vB z2)) [])∧z1∧z5))∧(z10=false→(Fun Tryz.prog 149 [.agg (Bi d)] [] (.v z17) [])∧(z10=false)∧z6∧(Fun Tryz.prog 105 z18 [] (.v (vB z2)) [])∧(z2=true→z19∧z14∧((0:Int)≤8*d.scan.have_)∧(z4=true→z20∧(.v (vB (decide (z24-d.scan.have_≤Dm d))):S)= .v z12∧z11=[])∧z16)∧z5))∧(z23=false→(z10=true→(z10=true)∧(z15=true→(Fun Tryz.prog 193 [.agg (J6 d.scan)] [] (.v z8) [])∧(.v z8:S)= .v z12∧z11=[])∧(z15=false→(Fun Tryz.prog 149 [.agg (Bi d)] [] (.v z17) [])∧(z10=true)∧z6∧(Fun Tryz.prog 105 z18 [] (.v (vB z2)) [])∧z1∧z5))∧(z10=false→(Fun Tryz.prog 193 [.agg (J6 d.scan)] [] (.v z8) [])∧(.v z8:S)= .v z12∧z11=[]))))))) (by kernel_rfl) ?_
 refine⟨(Je d),dsp (fun h1 p1=>?_) fun h1 p1=>?_⟩
 refine⟨h1,(sB ?_),rfl⟩
 rotate_left
 refine dsp (fun h2 p2=>?_) fun h2 p2=>?_
 refine⟨h2,(sB ?_),rfl⟩
 rotate_left
 refine dsp (fun h3 p3=>?_) fun h3 p3=>?_
 refine⟨(sB ?_),rfl⟩
 rotate_left
 refine dsp (fun h4 p4=>?_) fun h4 p4=>?_
 refine⟨h4,dsp (fun h5 p5=>?_) fun h5 p5=>?_⟩
 refine dsp (fun h6 p6=>?_) fun h6 p6=>?_
 refine⟨(Rq d.scan),(sB ?_),rfl⟩
 rotate_left
 refine⟨(L8 d (by omega)),h5,(Ah (by omega) (by omega)),(A8 _ _ _),fun h7=>have p7:=Ap h7;?_,fun h7=>have p7:=Ay h7;?_⟩
 refine⟨(Ah (by omega) (by omega)),(Dx (by omega) (by omega)),(by omega),dsp (fun h8 p8=>?_) fun h8 p8=>?_⟩
 refine⟨(Ah (by omega) (by omega)),(sB ?_),rfl⟩
 rotate_left
 refine⟨(sB ?_),rfl⟩
 rotate_left
 refine⟨(sB ?_),rfl⟩
 rotate_left
 refine⟨(L8 d (by omega)),h5,(Ah (by omega) (by omega)),(A8 _ _ _),fun h6=>have p6:=Ap h6;?_,fun h6=>have p6:=Ay h6;?_⟩
 refine⟨(Ah (by omega) (by omega)),(Dx (by omega) (by omega)),(by omega),dsp (fun h7 p7=>?_) fun h7 p7=>?_⟩
 refine⟨(Ah (by omega) (by omega)),(sB ?_),rfl⟩
 rotate_left
 refine⟨(sB ?_),rfl⟩
 rotate_left
 refine⟨(sB ?_),rfl⟩
 rotate_left
 refine dsp (fun h5 p5=>?_) fun h5 p5=>?_
 refine⟨h5,dsp (fun h6 p6=>?_) fun h6 p6=>?_⟩
 refine⟨(Rq d.scan),(sB ?_),rfl⟩
 rotate_left
 refine⟨(L8 d (by omega)),h5,(Ah (by omega) (by omega)),(A8 _ _ _),fun h7=>have p7:=Ap h7;?_,fun h7=>have p7:=Ay h7;?_⟩
 refine⟨(Ah (by omega) (by omega)),(Dx (by omega) (by omega)),(by omega),dsp (fun h8 p8=>?_) fun h8 p8=>?_⟩
 refine⟨(Ah (by omega) (by omega)),(sB ?_),rfl⟩
 rotate_left
 refine⟨(sB ?_),rfl⟩
 rotate_left
 refine⟨(sB ?_),rfl⟩
 rotate_left
 refine⟨(Rq d.scan),(sB ?_),rfl⟩
 rotate_left
 all_goals first|(simp_all[Ym,Ais,Mt,Rr];done)|(grind[Ym,Ais,Mt,Rr])
theorem Ch (d:Dcd) (hp1:List.length (d).stack≤bigN):Fun Tryz.prog 181 [.agg (Bi d)] [] (.v (vB (H3 d))) []:=by
 have hN:bigN=274877906944:=rfl
 have hwd:=Jf d
 refine Af Tryz.func181 (by kernel_rfl) (by kernel_rfl) (w:=let z3:=8*d.scan.have_;let z2:=decide (Int.fdiv d.scan.bits (2 ^ min (z3.toNat) 64)=0);let z4:=(.v (vB (decide (d.scan.bits=0)&&decide (d.scan.have_=0))):S);let z6:=([]:List Blk);let z7:=vB (H3 d);let z9:=(.v (.c (.int .u64 (IntKind.u64.wrap z3))):S)= .v (.c (.int .u64 z3));let z10:=Bd d-1;let z1:=Ak d.scan.have_ 0 z10;let z11:=z2=false→(.v (vB false):S)= .v z7∧z6=[];let z12:=z1=false→(.v (vB false):S)= .v z7∧z6=[];let z13:=(.v (vI (IntKind.i64.wrap z3)):S)= .v (vI z3);let z15:=Bd d;let z5:=z15-d.scan.have_;let z8:=(.v (vI (IntKind.i64.wrap (z15-1))):S)= .v (vI z10);let z14:=(.v (vI (IntKind.i64.wrap z5)):S)= .v (vI z5);let z16:=vB (Cz d.scan);(.seg [.call [] (.v (vI z15)) []] (.br (.seg [.call [] (.v (vI (Dm d))) []] (.br (.seg [.as 21 (.v (vI z10)),.call [] (.v (vB z1)) []] (.br (.seg [.as 30 (.v (vI z3)),.as 31 (.v (.c (.int .u64 z3)))] (.br (.seg [.as 40 (.v (vI z5))] (.leaf () [])) (.leaf () []))) (.leaf () []))) (.seg [.as 21 (.v (vI z10)),.call [] (.v (vB z1)) []] (.br (.seg [.as 30 (.v (vI z3)),.as 31 (.v (.c (.int .u64 z3)))] (.br (.seg [.as 40 (.v (vI z5))] (.leaf () [])) (.leaf () []))) (.leaf () []))))) (.br (.leaf () []) (.br (.leaf () []) (.br (.leaf () []) (.seg [.call [] (.v z16) []] (.leaf () [])))))),(Fun Tryz.prog 200 [.agg (Bi d)] [] (.v (vI z15)) [])∧((decide (0<Bd d))=true→(Fun Tryz.prog 179 [.agg (Bi d)] [] (.v (vI (Dm d))) [])∧((decide (d.mode=8))=true→z8∧(Fun Tryz.prog 173 [vI d.scan.have_,vI 0,vI z10] [] (.v (vB z1)) [])∧(z1=true→z13∧z9∧((0:Int)≤8*d.scan.have_)∧(z2=true→z14∧(.v (vB (decide (z15-d.scan.have_≤d.want))):S)= .v z7∧z6=[])∧z11)∧z12)∧((decide (d.mode=8))=false→z8∧(Fun Tryz.prog 173 [vI d.scan.have_,vI 0,vI z10] [] (.v (vB z1)) [])∧(z1=true→z13∧z9∧((0:Int)≤8*d.scan.have_)∧(z2=true→z14∧(.v (vB (decide (z15-d.scan.have_≤Dm d))):S)= .v z7∧z6=[])∧z11)∧z12))∧((decide (0<Bd d))=false→((decide (d.mode=6))=true→z4= .v z7∧z6=[])∧((decide (d.mode=6))=false→((decide (d.mode=7))=true→z4= .v z7∧z6=[])∧((decide (d.mode=7))=false→((decide (d.mode=9))=true→z4= .v z7∧z6=[])∧((decide (d.mode=9))=false→(Fun Tryz.prog 216 [.agg (J6 d.scan)] [] (.v z16) [])∧(.v z16:S)= .v z7∧z6=[])))))) (by kernel_rfl) ?_
 refine⟨(M1 d),dsp (fun h1 p1=>?_) fun h1 p1=>?_⟩
 refine⟨(Dz d (by omega)),dsp (fun h2 p2=>?_) fun h2 p2=>?_⟩
 refine⟨(Ah (by omega) (by omega)),(B1 _ _ _),fun h3=>have p3:=Ap h3;?_,fun h3=>have p3:=Ay h3;?_⟩
 refine⟨(Ah (by omega) (by omega)),(Dx (by omega) (by omega)),(by omega),dsp (fun h4 p4=>?_) fun h4 p4=>?_⟩
 refine⟨(Ah (by omega) (by omega)),(sB ?_),rfl⟩
 rotate_left
 refine⟨(sB ?_),rfl⟩
 rotate_left
 refine⟨(sB ?_),rfl⟩
 rotate_left
 refine⟨(Ah (by omega) (by omega)),(B1 _ _ _),fun h3=>have p3:=Ap h3;?_,fun h3=>have p3:=Ay h3;?_⟩
 refine⟨(Ah (by omega) (by omega)),(Dx (by omega) (by omega)),(by omega),dsp (fun h4 p4=>?_) fun h4 p4=>?_⟩
 refine⟨(Ah (by omega) (by omega)),(sB ?_),rfl⟩
 rotate_left
 refine⟨(sB ?_),rfl⟩
 rotate_left
 refine⟨(sB ?_),rfl⟩
 rotate_left
 refine dsp (fun h2 p2=>?_) fun h2 p2=>?_
 refine⟨(sB ?_),rfl⟩
 rotate_left
 refine dsp (fun h3 p3=>?_) fun h3 p3=>?_
 refine⟨(sB ?_),rfl⟩
 rotate_left
 refine dsp (fun h4 p4=>?_) fun h4 p4=>?_
 refine⟨(sB ?_),rfl⟩
 rotate_left
 refine⟨(Aad d.scan),(sB ?_),rfl⟩
 rotate_left
 all_goals first|(simp_all[H3,Mt,Rr];done)|(grind[H3,Mt,Rr])
theorem Ci (d:Dcd) (hp1:List.length (d).stack≤bigN):Fun Tryz.prog 180 [.agg (Bi d)] [] (.v (vB (Fk d&&Gq d))) []:=by
 have hN:bigN=274877906944:=rfl
 have hww:Aw d.wire=0∨0≤d.wire:=by unfold Aw;split<;>(try split)<;>omega
 refine Af Tryz.func180 (by kernel_rfl) (by kernel_rfl) (w:=let z1:= !(!(decide (d.field.number=0)&&(decide (d.field.kind=0)&&(decide (d.field.rep=false)&&(decide (d.field.packed=false)&&decide (d.field.msg=0))))));let z2:=vB (Fk d&&Gq d);let z3:=vB (Cx d.field d.wire);let z4:=([]:List Blk);let z5:=Ak d.want 1 (Dm d);let z7:=(.v (vB false):S);let z8:=decide (d.mode=6);let z9:=decide (d.mode=8);let z10:=vB (Q9 d.field);let z11:=decide (0<Aw d.wire);let z12:=Fd d.field;let z13:=(!z5)=true→z7= .v z2∧z4=[];let z15:=vI (Aw d.wire);let z16:=decide (d.mode=3);let z17:=decide (d.wire=0);let z18:=decide (d.mode=4);let z19:=decide (d.wire=2);let z20:=vI (Dm d);let z21:List V:=[vI d.want,vI 1,vI (Dm d)];let z22:=(.v z3:S);let z23:=decide (d.mode=7);let z24:=decide (d.mode=5);let z25:=z17=false→z7= .v z2∧z4=[];let z26:=z19=false→z7= .v z2∧z4=[];let z27:=z11=false→z7= .v z2∧z4=[];let z28:=(.v (vB true):S);let z6:=z1=true→z28= .v z2∧z4=[];let z14:=z24=false→z28= .v z2∧z4=[];(.br (.seg [.br true,.ord (os 6 [3,4]) [],.call [] (.v z20) [],.call [] (.v (vB z5)) []] (.br (.leaf () []) (.seg [.br true] (.br (.leaf () []) (.leaf () []))))) (.br (.seg [.br true,.ord (os 6 [3,4]) [],.call [] (.v z20) [],.call [] (.v (vB z5)) []] (.br (.leaf () []) (.seg [.br false] (.br (.seg [.call [] (.v z10) []] (.leaf () [])) (.br (.br (.br (.leaf () []) (.seg [.call [] (.v z3) []] (.leaf () []))) (.leaf () [])) (.br (.br (.br (.leaf () []) (.seg [.call [] (.v z3) []] (.leaf () []))) (.leaf () [])) (.br (.seg [.call [] (.v z15) []] (.br (.br (.leaf () []) (.seg [.call [] (.v z3) []] (.leaf () []))) (.leaf () []))) (.leaf () [])))))))) (.br (.seg [.ord (os 6 [3,4]) [],.call [] (.v z20) [],.call [] (.v (vB z5)) []] (.br (.leaf () []) (.seg [.br false,.br true,.call [] (.v z10) []] (.leaf () [])))) (.br (.leaf () []) (.seg [.br false,.br false] (.br (.br (.br (.leaf () []) (.seg [.call [] (.v z3) []] (.leaf () []))) (.leaf () [])) (.br (.br (.br (.leaf () []) (.seg [.call [] (.v z3) []] (.leaf () []))) (.leaf () [])) (.br (.seg [.call [] (.v z15) []] (.br (.br (.leaf () []) (.seg [.call [] (.v z3) []] (.leaf () []))) (.leaf () []))) (.leaf () [])))))))),(z8=true→(z8=true)∧(Fun Tryz.prog 179 [.agg (Bi d)] [] (.v z20) [])∧(Fun Tryz.prog 173 z21 [] (.v (vB z5)) [])∧z13∧((!z5)=false→(z8=true)∧((decide (d.field.kind=6))=true→z28= .v z2∧z4=[])∧((decide (d.field.kind=6))=false→(.v (vB (decide (d.field.kind=7))):S)= .v z2∧z4=[])))∧(z8=false→(z23=true→(z23=true)∧(Fun Tryz.prog 179 [.agg (Bi d)] [] (.v z20) [])∧(Fun Tryz.prog 173 z21 [] (.v (vB z5)) [])∧z13∧((!z5)=false→(z8=false)∧(z9=true→(Fun Tryz.prog 213 [.agg z12] [] (.v z10) [])∧(.v z10:S)= .v z2∧z4=[])∧(z9=false→(z16=true→(z17=true→z6∧(z1=false→(Fun Tryz.prog 214 [.agg z12,vI d.wire] [] (.v z3) [])∧z22= .v z2∧z4=[]))∧z25)∧(z16=false→(z18=true→(z19=true→z6∧(z1=false→(Fun Tryz.prog 214 [.agg z12,vI d.wire] [] (.v z3) [])∧z22= .v z2∧z4=[]))∧z26)∧(z18=false→(z24=true→(Fun Tryz.prog 215 [vI d.wire] [] (.v z15) [])∧(z11=true→z6∧(z1=false→(Fun Tryz.prog 214 [.agg z12,vI d.wire] [] (.v z3) [])∧z22= .v z2∧z4=[]))∧z27)∧z14)))))∧(z23=false→(z9=true→(Fun Tryz.prog 179 [.agg (Bi d)] [] (.v z20) [])∧(Fun Tryz.prog 173 z21 [] (.v (vB z5)) [])∧z13∧((!z5)=false→(z8=false)∧(z9=true)∧(Fun Tryz.prog 213 [.agg z12] [] (.v z10) [])∧(.v z10:S)= .v z2∧z4=[]))∧(z9=false→((!decide (d.want=0))=true→z7= .v z2∧z4=[])∧((!decide (d.want=0))=false→(z8=false)∧(z9=false)∧(z16=true→(z17=true→z6∧(z1=false→(Fun Tryz.prog 214 [.agg z12,vI d.wire] [] (.v z3) [])∧z22= .v z2∧z4=[]))∧z25)∧(z16=false→(z18=true→(z19=true→z6∧(z1=false→(Fun Tryz.prog 214 [.agg z12,vI d.wire] [] (.v z3) [])∧z22= .v z2∧z4=[]))∧z26)∧(z18=false→(z24=true→(Fun Tryz.prog 215 [vI d.wire] [] (.v z15) [])∧(z11=true→z6∧(z1=false→(Fun Tryz.prog 214 [.agg z12,vI d.wire] [] (.v z3) [])∧z22= .v z2∧z4=[]))∧z27)∧z14)))))))) (by kernel_rfl) ?_
 refine dsp (fun h1 p1=>?_) fun h1 p1=>?_
 refine⟨h1,(Dz d (by omega)),(B1 _ _ _),fun h2=>have q2:=Am h2;have p2:=Ay q2;?_,fun h2=>have q2:=Aj h2;have p2:=Ap q2;?_⟩
 refine⟨(sB ?_),rfl⟩
 rotate_left
 refine⟨h1,dsp (fun h3 p3=>?_) fun h3 p3=>?_⟩
 refine⟨(sB ?_),rfl⟩
 rotate_left
 refine⟨(sB ?_),rfl⟩
 rotate_left
 refine dsp (fun h2 p2=>?_) fun h2 p2=>?_
 refine⟨h2,(Dz d (by omega)),(B1 _ _ _),fun h3=>have q3:=Am h3;have p3:=Ay q3;?_,fun h3=>have q3:=Aj h3;have p3:=Ap q3;?_⟩
 refine⟨(sB ?_),rfl⟩
 rotate_left
 refine⟨h1,dsp (fun h4 p4=>?_) fun h4 p4=>?_⟩
 refine⟨(Adi d.field),(sB ?_),rfl⟩
 rotate_left
 refine dsp (fun h5 p5=>?_) fun h5 p5=>?_
 refine dsp (fun h6 p6=>?_) fun h6 p6=>?_
 refine⟨fun h7=>have q7:=Am h7;have q7':=Aj q7;have p7:=(Co dT (Co dT (Co dT (Co dT dT)))).1 q7';?_,fun h7=>have q7:=Aj h7;have q7':=Am q7;have p7:=(Cp dT (Cp dT (Cp dT (Cp dT dF)))).1 q7';?_⟩
 refine⟨(sB ?_),rfl⟩
 rotate_left
 refine⟨(Ka d.field _ (by omega)),(sB ?_),rfl⟩
 rotate_left
 refine⟨(sB ?_),rfl⟩
 rotate_left
 refine dsp (fun h6 p6=>?_) fun h6 p6=>?_
 refine dsp (fun h7 p7=>?_) fun h7 p7=>?_
 refine⟨fun h8=>have q8:=Am h8;have q8':=Aj q8;have p8:=(Co dT (Co dT (Co dT (Co dT dT)))).1 q8';?_,fun h8=>have q8:=Aj h8;have q8':=Am q8;have p8:=(Cp dT (Cp dT (Cp dT (Cp dT dF)))).1 q8';?_⟩
 refine⟨(sB ?_),rfl⟩
 rotate_left
 refine⟨(Ka d.field _ (by omega)),(sB ?_),rfl⟩
 rotate_left
 refine⟨(sB ?_),rfl⟩
 rotate_left
 refine dsp (fun h7 p7=>?_) fun h7 p7=>?_
 refine⟨(E5 _),dsp (fun h8 p8=>?_) fun h8 p8=>?_⟩
 refine⟨fun h9=>have q9:=Am h9;have q9':=Aj q9;have p9:=(Co dT (Co dT (Co dT (Co dT dT)))).1 q9';?_,fun h9=>have q9:=Aj h9;have q9':=Am q9;have p9:=(Cp dT (Cp dT (Cp dT (Cp dT dF)))).1 q9';?_⟩
 refine⟨(sB ?_),rfl⟩
 rotate_left
 refine⟨(Ka d.field _ (by omega)),(sB ?_),rfl⟩
 rotate_left
 refine⟨(sB ?_),rfl⟩
 rotate_left
 refine⟨(sB ?_),rfl⟩
 rotate_left
 refine dsp (fun h3 p3=>?_) fun h3 p3=>?_
 refine⟨(Dz d (by omega)),(B1 _ _ _),fun h4=>have q4:=Am h4;have p4:=Ay q4;?_,fun h4=>have q4:=Aj h4;have p4:=Ap q4;?_⟩
 refine⟨(sB ?_),rfl⟩
 rotate_left
 refine⟨h1,h3,(Adi d.field),(sB ?_),rfl⟩
 rotate_left
 refine⟨fun h4=>have q4:=Am h4;have p4:=of_decide_eq_false q4;?_,fun h4=>have q4:=Aj h4;have p4:=of_decide_eq_true q4;?_⟩
 refine⟨(sB ?_),rfl⟩
 rotate_left
 refine⟨h1,h3,dsp (fun h5 p5=>?_) fun h5 p5=>?_⟩
 refine dsp (fun h6 p6=>?_) fun h6 p6=>?_
 refine⟨fun h7=>have q7:=Am h7;have q7':=Aj q7;have p7:=(Co dT (Co dT (Co dT (Co dT dT)))).1 q7';?_,fun h7=>have q7:=Aj h7;have q7':=Am q7;have p7:=(Cp dT (Cp dT (Cp dT (Cp dT dF)))).1 q7';?_⟩
 refine⟨(sB ?_),rfl⟩
 rotate_left
 refine⟨(Ka d.field _ (by omega)),(sB ?_),rfl⟩
 rotate_left
 refine⟨(sB ?_),rfl⟩
 rotate_left
 refine dsp (fun h6 p6=>?_) fun h6 p6=>?_
 refine dsp (fun h7 p7=>?_) fun h7 p7=>?_
 refine⟨fun h8=>have q8:=Am h8;have q8':=Aj q8;have p8:=(Co dT (Co dT (Co dT (Co dT dT)))).1 q8';?_,fun h8=>have q8:=Aj h8;have q8':=Am q8;have p8:=(Cp dT (Cp dT (Cp dT (Cp dT dF)))).1 q8';?_⟩
 refine⟨(sB ?_),rfl⟩
 rotate_left
 refine⟨(Ka d.field _ (by omega)),(sB ?_),rfl⟩
 rotate_left
 refine⟨(sB ?_),rfl⟩
 rotate_left
 refine dsp (fun h7 p7=>?_) fun h7 p7=>?_
 refine⟨(E5 _),dsp (fun h8 p8=>?_) fun h8 p8=>?_⟩
 refine⟨fun h9=>have q9:=Am h9;have q9':=Aj q9;have p9:=(Co dT (Co dT (Co dT (Co dT dT)))).1 q9';?_,fun h9=>have q9:=Aj h9;have q9':=Am q9;have p9:=(Cp dT (Cp dT (Cp dT (Cp dT dF)))).1 q9';?_⟩
 refine⟨(sB ?_),rfl⟩
 rotate_left
 refine⟨(Ka d.field _ (by omega)),(sB ?_),rfl⟩
 rotate_left
 refine⟨(sB ?_),rfl⟩
 rotate_left
 refine⟨(sB ?_),rfl⟩
 rotate_left
 all_goals first|(simp_all[Fk,Gq,Agz,B3,F1];done)|(grind[Fk,Gq,Agz,B3,F1])
end Go.Proofs.YtpchkcpcdbdhdaaGreat.Ax
