/- Drawn descriptions. Drawn plans. Drawn numbers. Drawn texts. -/
import Derived.Test.YtphecbmdhbphgaaGreatKFnBroken5
set_option linter.unusedSimpArgs false
set_option linter.unusedVariables false
namespace Go.Proofs.YtphecbmdhbphgaaGreat.Ax
open Go.RowKit
theorem Aaf {n:Int} (h:1≤n∧n≤18999∨20000≤n∧n≤536870911):Dd n=true:=by
 simp only[Dd,Ai,Bool.and_eq_true,Bool.not_eq_true',Bool.and_eq_false_iff,decide_eq_true_eq,decide_eq_false_iff_not]
 omega
theorem Apy {x:Int} (h:x∈([16,2047,2048,18999,20000,536870911]:List Int)):1≤x∧x≤18999∨20000≤x∧x≤536870911:=by
 simp at h
 omega
theorem Aek {k:Int} (h:Cf k=true):k≤5:=by
 simp only[Cf,Ai,Bool.and_eq_true,decide_eq_true_eq] at h
 omega
theorem Ajy {l:List Shp} {i:Nat} {x m:Shp} {k:Nat} (hx:x.fields.length≤k) (hm:(l.set i x)[i]? =some m):m.fields.length≤k:=by
 rw[List.getElem?_set] at hm
 simp at hm
 obtain ⟨_,rfl⟩:=hm
 exact hx
theorem Ao4 {x:Int} (h:x∈([16,2047,2048,18999,20000,536870911]:List Int)):x≠44:=by
 simp at h
 omega
structure M6 where
 r:Raw
 c1:Cur
def V2 (c:Cur) (o:M6):Prop:=Fun Tryz.prog 197 [vP 0] [.cells (Ck c)] (.v (.agg [.own 1])) [.cells (Ck o.c1),.tree o.r.msgs]
def Rb (c:Cur) (o:M6):Prop:=((RawK (List.length (o.r).msgs) (o.r).msgs)∧(A0 o.c1))∧V2 c o
structure Lc where
 c:Cur
 msgs:List Shp
 i:Nat
def Fq (o1:C8):Fam:=⟨Lc,fun q1=>[(0,.v (vP 0)),(2,.v (vP 1)),(3,.v (vP 2)),(4,.v (vI (1+o1.x))),(5,.v (vI ((q1.i:Nat):Int)))],fun q1=>[.cells (Ck q1.c),.cells [.nil],.cells [.own 3],.tree q1.msgs],fun q1=>A0 q1.c∧((q1.i:Nat):Int)≤1+o1.x∧List.length q1.msgs=q1.i∧Gv q1.msgs=List.take q1.i [5,1,99]∧∀m∈q1.msgs,m.fields=[],fun q1=>3-q1.i⟩
structure Jc where
 c:Cur
 msgs:List Shp
 i:Nat
def Fr (o1:C8):Fam:=⟨Jc,fun q2=>[(0,.v (vP 0)),(2,.v (vP 1)),(3,.v (vP 2)),(4,.v (vI (1+o1.x))),(6,.v (vI ((q2.i:Nat):Int)))],fun q2=>[.cells (Ck q2.c),.cells [.nil],.cells [.own 3],.tree q2.msgs],fun q2=>A0 q2.c∧q2.i≤Int.toNat (1+o1.x)∧RawK (Int.toNat (1+o1.x)) q2.msgs∧∀j m,q2.i≤j→q2.msgs[j]? =some m→m.fields=[],fun q2=>3-q2.i⟩
structure Bj where
 c:Cur
 msgs:List Shp
 k:Nat
def Jd (o1:C8) (q2:Jc) (o2:C8):Fam:=⟨Bj,fun q3=>[(0,.v (vP 0)),(2,.v (vP 1)),(3,.v (vP 2)),(4,.v (vI (1+o1.x))),(6,.v (vI ((q2.i:Nat):Int))),(7,.v (vI o2.x)),(8,.v (vI ((q3.k:Nat):Int)))],fun q3=>[.cells (Ck q3.c),.cells [.nil],.cells [.own 3],.tree q3.msgs],fun q3=>A0 q3.c∧q3.k≤5∧RawK (Int.toNat (1+o1.x)) q3.msgs∧(∀j m,q2.i<j→q3.msgs[j]? =some m→m.fields=[])∧∀m,q3.msgs[q2.i]? =some m→List.length m.fields≤q3.k,fun q3=>5-q3.k⟩
theorem Ahr (c:Cur) (hp1:A0 c): ∃o:M6,Rb c o:=by
 have hN:Bn=274877906944:=rfl
 refine B4 Tryz.func197 Q4 Q4 (w:=let z80:=fr (.first 9 (.two 8 (.one 10 (.one 11 (.first 12 (.first 13 (.one 14 (.done)))))) 10 (.one 8 (.one 11 (.first 12 (.first 13 (.one 14 (.done)))))))) 0 8;let z81:=fr (.one 4 (.first 5 (.first 6 (.one 7 (.first 8 (.one 9 (.done))))))) 0 4;let z82:=os 10 [8];(.intro (Aa c 3) fun o1=>let z77:=1+o1.x;.seg [.call [0] (.v (vI o1.x)) (Kc o1.c1),.as 13 (.v (vI z77)),.at 0,.mkT 2 0,.keep [0,2,3,4,5],.sel [0,1,2,3]] (.loop (Fq o1) fun q1=> .br (.intro (Sx ([5,1,99,7][q1.i]?)) fun x1=> .seg [.tree (.first 0 (.first 1 (.first 3 (.one 2 (.first 4 (.one 5 (.first 6 (.one 7 (.one 8 (.first 9 (.one 10 (.done)))))))))))) 10 [3],.ty .int,.el .int x1,.tyT,.tyT,.at 0,.keep [0,2,3,4,5],.sel [0,1,2,6],.as 18 (.v (vI (((q1.i:Nat):Int)+1))),.at 0,.keep [0,2,3,4,5],.sel [0,1,2,3]] (.next)) (.seg [.at 0,.keep [0,2,3,4,6],.sel [0,1,2,3]] (.loop (Fr o1) fun q2=> .br (.intro (Aa q2.c 6) fun o2=> .seg [.call [0] (.v (vI o2.x)) (Kc o2.c1),.at 0,.keep [0,2,3,4,6,7,8],.sel [0,1,2,3]] (.loop (Jd o1 q2 o2) fun q3=>let z63:S:= .v (vI (((q3.k:Nat):Int)+1));let z64:=Sx (q3.msgs[q2.i]?);.br (.intro (Aa q3.c 12) fun o3=>let z61:=1+o3.x;.seg [.call [0] (.v (vI o3.x)) (Kc o3.c1),.as 43 (.v (vI z61))] (.intro (Aa o3.c1 8) fun o4=> .seg [.call [0] (.v (vI o4.x)) (Kc o4.c1),.as 46 (.v (vI (1+o4.x)))] (.intro (Am o4.c1 2) fun o5=> .seg [.call [0] (.v (vB o5.p)) (Kc o5.c1)] (.intro (Am o5.c1 12) fun o6=> .seg [.call [0] (.v (vB o6.p)) (Kc o6.c1)] (.br (.seg [.ty .int,.pubS 53] (.intro (B3 o6.c1 [16,2047,2048,18999,20000,536870911]) fun o7=> .seg [.call [0] (.v (vI o7.x)) (Kc o7.c1)] (.br (.seg [.call [] (.v (vB (Cf (1+o4.x)))) []] (.br (.intro (Am o7.c1 2) fun o8=> .seg [.call [0] (.v (vB o8.p)) (Kc o8.c1)] (.br (.intro (Aa o8.c1 z77) fun o9=> .intro (Sx (q3.msgs[Int.toNat o9.x]?)) fun x1=> .seg [.tree z81 9 [0],.call [0] (.v (vI o9.x)) (Kc o9.c1),.el .shp x1,.at 0,.keep [0,2,3,4,6,7,8,9],.sel [0,1,2,3,4]] (.intro z64 fun x2=> .take 20 3 q2.i x2 (.seg [.ord z82 [],.call [] (.v (vB (Ca x2.fields o7.x))) []] (.br (.seg [.tree z80 14 [5],.ty .fld,.ty .fld,.el .shp x2,.at 0,.keep [0,2,3,4,6,7,8],.sel [0,1,2,3],.ty .fld,.ty .fld,.el .shp x2,.at 0,.keep [0,2,3,4,6,7,8],.sel [0,1,2,3],.as 40 z63,.at 0,.keep [0,2,3,4,6,7,8],.sel [0,1,2,3]] (.next)) (.give 13 3 x2 (.seg [.as 40 z63,.at 0,.keep [0,2,3,4,6,7,8],.sel [0,1,2,3]] (.next))))))) (.intro z64 fun x1=> .take 20 3 q2.i x1 (.seg [.ord z82 [],.call [] (.v (vB (Ca x1.fields o7.x))) []] (.br (.seg [.tree z80 14 [6],.ty .fld,.ty .fld,.el .shp x1,.at 0,.keep [0,2,3,4,6,7,8],.sel [0,1,2,3],.ty .fld,.ty .fld,.el .shp x1,.at 0,.keep [0,2,3,4,6,7,8],.sel [0,1,2,3],.as 40 z63,.at 0,.keep [0,2,3,4,6,7,8],.sel [0,1,2,3]] (.next)) (.give 13 3 x1 (.seg [.as 40 z63,.at 0,.keep [0,2,3,4,6,7,8],.sel [0,1,2,3]] (.next)))))))) (.br (.intro (Aa o7.c1 z77) fun o8=> .intro (Sx (q3.msgs[Int.toNat o8.x]?)) fun x1=> .seg [.tree z81 9 [0],.call [0] (.v (vI o8.x)) (Kc o8.c1),.el .shp x1,.at 0,.keep [0,2,3,4,6,7,8,9],.sel [0,1,2,3,4]] (.intro z64 fun x2=> .take 20 3 q2.i x2 (.seg [.ord z82 [],.call [] (.v (vB (Ca x2.fields o7.x))) []] (.br (.seg [.tree z80 14 [5],.ty .fld,.ty .fld,.el .shp x2,.at 0,.keep [0,2,3,4,6,7,8],.sel [0,1,2,3],.ty .fld,.ty .fld,.el .shp x2,.at 0,.keep [0,2,3,4,6,7,8],.sel [0,1,2,3],.as 40 z63,.at 0,.keep [0,2,3,4,6,7,8],.sel [0,1,2,3]] (.next)) (.give 13 3 x2 (.seg [.as 40 z63,.at 0,.keep [0,2,3,4,6,7,8],.sel [0,1,2,3]] (.next))))))) (.intro z64 fun x1=> .take 20 3 q2.i x1 (.seg [.ord z82 [],.call [] (.v (vB (Ca x1.fields o7.x))) []] (.br (.seg [.tree z80 14 [6],.ty .fld,.ty .fld,.el .shp x1,.at 0,.keep [0,2,3,4,6,7,8],.sel [0,1,2,3],.ty .fld,.ty .fld,.el .shp x1,.at 0,.keep [0,2,3,4,6,7,8],.sel [0,1,2,3],.as 40 z63,.at 0,.keep [0,2,3,4,6,7,8],.sel [0,1,2,3]] (.next)) (.give 13 3 x1 (.seg [.as 40 z63,.at 0,.keep [0,2,3,4,6,7,8],.sel [0,1,2,3]] (.next))))))))) (.br (.intro (Aa o7.c1 z77) fun o8=> .intro (Sx (q3.msgs[Int.toNat o8.x]?)) fun x1=> .seg [.tree z81 9 [0],.call [0] (.v (vI o8.x)) (Kc o8.c1),.el .shp x1,.at 0,.keep [0,2,3,4,6,7,8,9],.sel [0,1,2,3,4]] (.intro z64 fun x2=> .take 20 3 q2.i x2 (.seg [.ord z82 [],.call [] (.v (vB (Ca x2.fields o7.x))) []] (.br (.seg [.tree z80 14 [5],.ty .fld,.ty .fld,.el .shp x2,.at 0,.keep [0,2,3,4,6,7,8],.sel [0,1,2,3],.ty .fld,.ty .fld,.el .shp x2,.at 0,.keep [0,2,3,4,6,7,8],.sel [0,1,2,3],.as 40 z63,.at 0,.keep [0,2,3,4,6,7,8],.sel [0,1,2,3]] (.next)) (.give 13 3 x2 (.seg [.as 40 z63,.at 0,.keep [0,2,3,4,6,7,8],.sel [0,1,2,3]] (.next))))))) (.intro z64 fun x1=> .take 20 3 q2.i x1 (.seg [.ord z82 [],.call [] (.v (vB (Ca x1.fields o7.x))) []] (.br (.seg [.tree z80 14 [6],.ty .fld,.ty .fld,.el .shp x1,.at 0,.keep [0,2,3,4,6,7,8],.sel [0,1,2,3],.ty .fld,.ty .fld,.el .shp x1,.at 0,.keep [0,2,3,4,6,7,8],.sel [0,1,2,3],.as 40 z63,.at 0,.keep [0,2,3,4,6,7,8],.sel [0,1,2,3]] (.next)) (.give 13 3 x1 (.seg [.as 40 z63,.at 0,.keep [0,2,3,4,6,7,8],.sel [0,1,2,3]] (.next)))))))))) (.br (.seg [.call [] (.v (vB (Cf (1+o4.x)))) []] (.br (.intro (Am o6.c1 2) fun o7=> .seg [.call [0] (.v (vB o7.p)) (Kc o7.c1)] (.br (.intro (Aa o7.c1 z77) fun o8=> .intro (Sx (q3.msgs[Int.toNat o8.x]?)) fun x1=> .seg [.tree z81 9 [0],.call [0] (.v (vI o8.x)) (Kc o8.c1),.el .shp x1,.at 0,.keep [0,2,3,4,6,7,8,9],.sel [0,1,2,3,4]] (.intro z64 fun x2=> .take 20 3 q2.i x2 (.seg [.ord z82 [],.call [] (.v (vB (Ca x2.fields z61))) []] (.br (.seg [.tree z80 14 [5],.ty .fld,.ty .fld,.el .shp x2,.at 0,.keep [0,2,3,4,6,7,8],.sel [0,1,2,3],.ty .fld,.ty .fld,.el .shp x2,.at 0,.keep [0,2,3,4,6,7,8],.sel [0,1,2,3],.as 40 z63,.at 0,.keep [0,2,3,4,6,7,8],.sel [0,1,2,3]] (.next)) (.give 13 3 x2 (.seg [.as 40 z63,.at 0,.keep [0,2,3,4,6,7,8],.sel [0,1,2,3]] (.next))))))) (.intro z64 fun x1=> .take 20 3 q2.i x1 (.seg [.ord z82 [],.call [] (.v (vB (Ca x1.fields z61))) []] (.br (.seg [.tree z80 14 [5],.ty .fld,.ty .fld,.el .shp x1,.at 0,.keep [0,2,3,4,6,7,8],.sel [0,1,2,3],.ty .fld,.ty .fld,.el .shp x1,.at 0,.keep [0,2,3,4,6,7,8],.sel [0,1,2,3],.as 40 z63,.at 0,.keep [0,2,3,4,6,7,8],.sel [0,1,2,3]] (.next)) (.give 13 3 x1 (.seg [.as 40 z63,.at 0,.keep [0,2,3,4,6,7,8],.sel [0,1,2,3]] (.next)))))))) (.br (.intro (Aa o6.c1 z77) fun o7=> .intro (Sx (q3.msgs[Int.toNat o7.x]?)) fun x1=> .seg [.tree z81 9 [0],.call [0] (.v (vI o7.x)) (Kc o7.c1),.el .shp x1,.at 0,.keep [0,2,3,4,6,7,8,9],.sel [0,1,2,3,4]] (.intro z64 fun x2=> .take 20 3 q2.i x2 (.seg [.ord z82 [],.call [] (.v (vB (Ca x2.fields z61))) []] (.br (.seg [.tree z80 14 [5],.ty .fld,.ty .fld,.el .shp x2,.at 0,.keep [0,2,3,4,6,7,8],.sel [0,1,2,3],.ty .fld,.ty .fld,.el .shp x2,.at 0,.keep [0,2,3,4,6,7,8],.sel [0,1,2,3],.as 40 z63,.at 0,.keep [0,2,3,4,6,7,8],.sel [0,1,2,3]] (.next)) (.give 13 3 x2 (.seg [.as 40 z63,.at 0,.keep [0,2,3,4,6,7,8],.sel [0,1,2,3]] (.next))))))) (.intro z64 fun x1=> .take 20 3 q2.i x1 (.seg [.ord z82 [],.call [] (.v (vB (Ca x1.fields z61))) []] (.br (.seg [.tree z80 14 [5],.ty .fld,.ty .fld,.el .shp x1,.at 0,.keep [0,2,3,4,6,7,8],.sel [0,1,2,3],.ty .fld,.ty .fld,.el .shp x1,.at 0,.keep [0,2,3,4,6,7,8],.sel [0,1,2,3],.as 40 z63,.at 0,.keep [0,2,3,4,6,7,8],.sel [0,1,2,3]] (.next)) (.give 13 3 x1 (.seg [.as 40 z63,.at 0,.keep [0,2,3,4,6,7,8],.sel [0,1,2,3]] (.next))))))))) (.br (.intro (Aa o6.c1 z77) fun o7=> .intro (Sx (q3.msgs[Int.toNat o7.x]?)) fun x1=> .seg [.tree z81 9 [0],.call [0] (.v (vI o7.x)) (Kc o7.c1),.el .shp x1,.at 0,.keep [0,2,3,4,6,7,8,9],.sel [0,1,2,3,4]] (.intro z64 fun x2=> .take 20 3 q2.i x2 (.seg [.ord z82 [],.call [] (.v (vB (Ca x2.fields z61))) []] (.br (.seg [.tree z80 14 [5],.ty .fld,.ty .fld,.el .shp x2,.at 0,.keep [0,2,3,4,6,7,8],.sel [0,1,2,3],.ty .fld,.ty .fld,.el .shp x2,.at 0,.keep [0,2,3,4,6,7,8],.sel [0,1,2,3],.as 40 z63,.at 0,.keep [0,2,3,4,6,7,8],.sel [0,1,2,3]] (.next)) (.give 13 3 x2 (.seg [.as 40 z63,.at 0,.keep [0,2,3,4,6,7,8],.sel [0,1,2,3]] (.next))))))) (.intro z64 fun x1=> .take 20 3 q2.i x1 (.seg [.ord z82 [],.call [] (.v (vB (Ca x1.fields z61))) []] (.br (.seg [.tree z80 14 [5],.ty .fld,.ty .fld,.el .shp x1,.at 0,.keep [0,2,3,4,6,7,8],.sel [0,1,2,3],.ty .fld,.ty .fld,.el .shp x1,.at 0,.keep [0,2,3,4,6,7,8],.sel [0,1,2,3],.as 40 z63,.at 0,.keep [0,2,3,4,6,7,8],.sel [0,1,2,3]] (.next)) (.give 13 3 x1 (.seg [.as 40 z63,.at 0,.keep [0,2,3,4,6,7,8],.sel [0,1,2,3]] (.next))))))))))))) (.seg [.as 33 (.v (vI (((q2.i:Nat):Int)+1))),.at 0,.keep [0,2,3,4,6],.sel [0,1,2,3]] (.next)))) (.leaf (⟨(⟨q2.msgs⟩:Raw),q2.c⟩:M6) [0,3])))),In (Aa c 3) fun o1=>(let z79:=1+o1.x;let z78:=vI z79;(Aj c 3 o1)∧(wI z79)∧(Fq o1).Has [(0,.v (vP 0)),(2,.v (vP 1)),(3,.v (vP 2)),(4,.v z78),(5,.v (vI 0))] [.cells (Ck o1.c1),.cells [.nil],.cells [.own 3],.tree ([]:List Shp)]∧∀q1,(Fq o1).inv q1→(let z76:=((q1.i:Nat):Int);Bc (decide (z76<1+o1.x)) (El ([5,1,99,7][q1.i]?) fun x1=>((z76<((List.length [5,1,99,7]:Nat):Int))∧((0:Int)≤z76)∧([5,1,99,7][q1.i]? =some x1)∧(List.length q1.msgs+List.length [(⟨x1,([]:List Fld)⟩:Shp)]≤Bn)∧(wI (z76+1))∧(Fq o1).Nxt q1 [(0,.v (vP 0)),(2,.v (vP 1)),(3,.v (vP 2)),(4,.v z78),(5,.v (vI (z76+1)))] [.cells (Ck q1.c),.cells [.nil],.cells [.own 3],.tree (q1.msgs++[(⟨x1,([]:List Fld)⟩:Shp)])])) ((Fr o1).Has [(0,.v (vP 0)),(2,.v (vP 1)),(3,.v (vP 2)),(4,.v z78),(6,.v (vI 0))] [.cells (Ck q1.c),.cells [.nil],.cells [.own 3],.tree q1.msgs]∧∀q2,(Fr o1).inv q2→(let z73:=q2.i=q2.i;let z75:=((q2.i:Nat):Int);let z72:=(0:Int)≤z75;let z74:=vI z75;Bc (decide (z75<1+o1.x)) (In (Aa q2.c 6) fun o2=>(let z71:=Jd o1 q2 o2;(Aj q2.c 6 o2)∧z71.Has [(0,.v (vP 0)),(2,.v (vP 1)),(3,.v (vP 2)),(4,.v z78),(6,.v z74),(7,.v (vI o2.x)),(8,.v (vI 0))] [.cells (Ck o2.c1),.cells [.nil],.cells [.own 3],.tree q2.msgs]∧∀q3,z71.inv q3→(let z68:=q3.msgs[q2.i]?;let z69:=((List.length q3.msgs:Nat):Int);let z65:=z75<z69;let z70:=((q3.k:Nat):Int);let z66:=([(0,.v (vP 0)),(2,.v (vP 1)),(3,.v (vP 2)),(4,.v z78),(6,.v z74),(7,.v (vI o2.x)),(8,.v (vI z70))]:List (Nat×S))=[(0,.v (vP 0)),(2,.v (vP 1)),(3,.v (vP 2)),(4,.v z78),(6,.v z74),(7,.v (vI o2.x)),(8,.v (vI z70))];let z67:=z70+1;Bc (decide (z70<o2.x)) (In (Aa q3.c 12) fun o3=>(let z62:=1+o3.x;(Aj q3.c 12 o3)∧(wI z62)∧In (Aa o3.c1 8) fun o4=>(let z59:=decide (1+o4.x=8);let z60:=Cf (1+o4.x);(Aj o3.c1 8 o4)∧(wI (1+o4.x))∧In (Am o4.c1 2) fun o5=>(let z58:=(⟨1+o3.x,1+o4.x,o5.p,false,0⟩:Fld);(Bg o4.c1 2 o5)∧In (Am o5.c1 12) fun o6=>((Bg o5.c1 12 o6)∧Bc o6.p (In (B3 o6.c1 [16,2047,2048,18999,20000,536870911]) fun o7=>(let z29:=(⟨o7.x,1+o4.x,o5.p,false,0⟩:Fld);(Dk o6.c1 [16,2047,2048,18999,20000,536870911] o7)∧Bc o5.p ((Fp 158 [vI (1+o4.x)] [] (.v (vB z60)) [])∧Bc z60 (In (Am o7.c1 2) fun o8=>(let z10:=(⟨o7.x,1+o4.x,o5.p,o8.p,0⟩:Fld);(Bg o7.c1 2 o8)∧Bc z59 (In (Aa o8.c1 z79) fun o9=>(El (q3.msgs[Int.toNat o9.x]?) fun x1=>(let z5:=(⟨o7.x,1+o4.x,o5.p,o8.p,x1.id⟩:Fld);(Aj o8.c1 z79 o9)∧(o9.x<z69)∧((0:Int)≤o9.x)∧(q3.msgs[Int.toNat o9.x]? =some x1)∧El z68 fun x2=>(let z1:List Blk:=[.cells (Ck o9.c1),.cells [.nil],.cells [.own 3],.tree (List.set q3.msgs q2.i (⟨x2.id,x2.fields++[z5]⟩:Shp))];let z2:=z68.map (fun (x:Shp)=>x.fields.length)=some (List.length x2.fields);let z3:=List.length x2.fields+List.length [z5]≤Bn;let z4:=q3.msgs[q2.i]? =some x2;z4∧z65∧z72∧z65∧z72∧z73∧z2∧z73∧z2∧(Fp 221 [.c (.seq .fld x2.fields),vI o7.x] [] (.v (vB (Ca x2.fields o7.x))) [])∧Bc (!(Ca x2.fields o7.x)) (z65∧z72∧z65∧z72∧z73∧z2∧z3∧z65∧z72∧z65∧z72∧z73∧z4∧z73∧z2∧z3∧z65∧z72∧z65∧z72∧z73∧z4∧((z1:List Blk)=z1)∧z66∧(wI z67)∧z71.Nxt q3 [(0,.v (vP 0)),(2,.v (vP 1)),(3,.v (vP 2)),(4,.v z78),(6,.v z74),(7,.v (vI o2.x)),(8,.v (vI z67))] z1) ((List.length x2.fields=List.length x2.fields)∧z4∧(wI z67)∧z71.Nxt q3 [(0,.v (vP 0)),(2,.v (vP 1)),(3,.v (vP 2)),(4,.v z78),(6,.v z74),(7,.v (vI o2.x)),(8,.v (vI z67))] [.cells (Ck o9.c1),.cells [.nil],.cells [.own 3],.tree (List.set q3.msgs q2.i (⟨x2.id,x2.fields⟩:Shp))]))))) (El z68 fun x1=>(let z6:List Blk:=[.cells (Ck o8.c1),.cells [.nil],.cells [.own 3],.tree (List.set q3.msgs q2.i (⟨x1.id,x1.fields++[z10]⟩:Shp))];let z7:=z68.map (fun (x:Shp)=>x.fields.length)=some (List.length x1.fields);let z8:=List.length x1.fields+List.length [z10]≤Bn;let z9:=q3.msgs[q2.i]? =some x1;z9∧z65∧z72∧z65∧z72∧z73∧z7∧z73∧z7∧(Fp 221 [.c (.seq .fld x1.fields),vI o7.x] [] (.v (vB (Ca x1.fields o7.x))) [])∧Bc (!(Ca x1.fields o7.x)) (z65∧z72∧z65∧z72∧z73∧z7∧z8∧z65∧z72∧z65∧z72∧z73∧z9∧z73∧z7∧z8∧z65∧z72∧z65∧z72∧z73∧z9∧((z6:List Blk)=z6)∧z66∧(wI z67)∧z71.Nxt q3 [(0,.v (vP 0)),(2,.v (vP 1)),(3,.v (vP 2)),(4,.v z78),(6,.v z74),(7,.v (vI o2.x)),(8,.v (vI z67))] z6) ((List.length x1.fields=List.length x1.fields)∧z9∧(wI z67)∧z71.Nxt q3 [(0,.v (vP 0)),(2,.v (vP 1)),(3,.v (vP 2)),(4,.v z78),(6,.v z74),(7,.v (vI o2.x)),(8,.v (vI z67))] [.cells (Ck o8.c1),.cells [.nil],.cells [.own 3],.tree (List.set q3.msgs q2.i (⟨x1.id,x1.fields⟩:Shp))]))))) (Bc z59 (In (Aa o7.c1 z79) fun o8=>(El (q3.msgs[Int.toNat o8.x]?) fun x1=>(let z15:=(⟨o7.x,1+o4.x,o5.p,false,x1.id⟩:Fld);(Aj o7.c1 z79 o8)∧(o8.x<z69)∧((0:Int)≤o8.x)∧(q3.msgs[Int.toNat o8.x]? =some x1)∧El z68 fun x2=>(let z11:List Blk:=[.cells (Ck o8.c1),.cells [.nil],.cells [.own 3],.tree (List.set q3.msgs q2.i (⟨x2.id,x2.fields++[z15]⟩:Shp))];let z12:=z68.map (fun (x:Shp)=>x.fields.length)=some (List.length x2.fields);let z13:=List.length x2.fields+List.length [z15]≤Bn;let z14:=q3.msgs[q2.i]? =some x2;z14∧z65∧z72∧z65∧z72∧z73∧z12∧z73∧z12∧(Fp 221 [.c (.seq .fld x2.fields),vI o7.x] [] (.v (vB (Ca x2.fields o7.x))) [])∧Bc (!(Ca x2.fields o7.x)) (z65∧z72∧z65∧z72∧z73∧z12∧z13∧z65∧z72∧z65∧z72∧z73∧z14∧z73∧z12∧z13∧z65∧z72∧z65∧z72∧z73∧z14∧((z11:List Blk)=z11)∧z66∧(wI z67)∧z71.Nxt q3 [(0,.v (vP 0)),(2,.v (vP 1)),(3,.v (vP 2)),(4,.v z78),(6,.v z74),(7,.v (vI o2.x)),(8,.v (vI z67))] z11) ((List.length x2.fields=List.length x2.fields)∧z14∧(wI z67)∧z71.Nxt q3 [(0,.v (vP 0)),(2,.v (vP 1)),(3,.v (vP 2)),(4,.v z78),(6,.v z74),(7,.v (vI o2.x)),(8,.v (vI z67))] [.cells (Ck o8.c1),.cells [.nil],.cells [.own 3],.tree (List.set q3.msgs q2.i (⟨x2.id,x2.fields⟩:Shp))]))))) (El z68 fun x1=>(let z16:List Blk:=[.cells (Ck o7.c1),.cells [.nil],.cells [.own 3],.tree (List.set q3.msgs q2.i (⟨x1.id,x1.fields++[z29]⟩:Shp))];let z17:=z68.map (fun (x:Shp)=>x.fields.length)=some (List.length x1.fields);let z18:=List.length x1.fields+List.length [z29]≤Bn;let z19:=q3.msgs[q2.i]? =some x1;z19∧z65∧z72∧z65∧z72∧z73∧z17∧z73∧z17∧(Fp 221 [.c (.seq .fld x1.fields),vI o7.x] [] (.v (vB (Ca x1.fields o7.x))) [])∧Bc (!(Ca x1.fields o7.x)) (z65∧z72∧z65∧z72∧z73∧z17∧z18∧z65∧z72∧z65∧z72∧z73∧z19∧z73∧z17∧z18∧z65∧z72∧z65∧z72∧z73∧z19∧((z16:List Blk)=z16)∧z66∧(wI z67)∧z71.Nxt q3 [(0,.v (vP 0)),(2,.v (vP 1)),(3,.v (vP 2)),(4,.v z78),(6,.v z74),(7,.v (vI o2.x)),(8,.v (vI z67))] z16) ((List.length x1.fields=List.length x1.fields)∧z19∧(wI z67)∧z71.Nxt q3 [(0,.v (vP 0)),(2,.v (vP 1)),(3,.v (vP 2)),(4,.v z78),(6,.v z74),(7,.v (vI o2.x)),(8,.v (vI z67))] [.cells (Ck o7.c1),.cells [.nil],.cells [.own 3],.tree (List.set q3.msgs q2.i (⟨x1.id,x1.fields⟩:Shp))]))))) (Bc z59 (In (Aa o7.c1 z79) fun o8=>(El (q3.msgs[Int.toNat o8.x]?) fun x1=>(let z24:=(⟨o7.x,1+o4.x,o5.p,false,x1.id⟩:Fld);(Aj o7.c1 z79 o8)∧(o8.x<z69)∧((0:Int)≤o8.x)∧(q3.msgs[Int.toNat o8.x]? =some x1)∧El z68 fun x2=>(let z20:List Blk:=[.cells (Ck o8.c1),.cells [.nil],.cells [.own 3],.tree (List.set q3.msgs q2.i (⟨x2.id,x2.fields++[z24]⟩:Shp))];let z21:=z68.map (fun (x:Shp)=>x.fields.length)=some (List.length x2.fields);let z22:=List.length x2.fields+List.length [z24]≤Bn;let z23:=q3.msgs[q2.i]? =some x2;z23∧z65∧z72∧z65∧z72∧z73∧z21∧z73∧z21∧(Fp 221 [.c (.seq .fld x2.fields),vI o7.x] [] (.v (vB (Ca x2.fields o7.x))) [])∧Bc (!(Ca x2.fields o7.x)) (z65∧z72∧z65∧z72∧z73∧z21∧z22∧z65∧z72∧z65∧z72∧z73∧z23∧z73∧z21∧z22∧z65∧z72∧z65∧z72∧z73∧z23∧((z20:List Blk)=z20)∧z66∧(wI z67)∧z71.Nxt q3 [(0,.v (vP 0)),(2,.v (vP 1)),(3,.v (vP 2)),(4,.v z78),(6,.v z74),(7,.v (vI o2.x)),(8,.v (vI z67))] z20) ((List.length x2.fields=List.length x2.fields)∧z23∧(wI z67)∧z71.Nxt q3 [(0,.v (vP 0)),(2,.v (vP 1)),(3,.v (vP 2)),(4,.v z78),(6,.v z74),(7,.v (vI o2.x)),(8,.v (vI z67))] [.cells (Ck o8.c1),.cells [.nil],.cells [.own 3],.tree (List.set q3.msgs q2.i (⟨x2.id,x2.fields⟩:Shp))]))))) (El z68 fun x1=>(let z25:List Blk:=[.cells (Ck o7.c1),.cells [.nil],.cells [.own 3],.tree (List.set q3.msgs q2.i (⟨x1.id,x1.fields++[z29]⟩:Shp))];let z26:=z68.map (fun (x:Shp)=>x.fields.length)=some (List.length x1.fields);let z27:=List.length x1.fields+List.length [z29]≤Bn;let z28:=q3.msgs[q2.i]? =some x1;z28∧z65∧z72∧z65∧z72∧z73∧z26∧z73∧z26∧(Fp 221 [.c (.seq .fld x1.fields),vI o7.x] [] (.v (vB (Ca x1.fields o7.x))) [])∧Bc (!(Ca x1.fields o7.x)) (z65∧z72∧z65∧z72∧z73∧z26∧z27∧z65∧z72∧z65∧z72∧z73∧z28∧z73∧z26∧z27∧z65∧z72∧z65∧z72∧z73∧z28∧((z25:List Blk)=z25)∧z66∧(wI z67)∧z71.Nxt q3 [(0,.v (vP 0)),(2,.v (vP 1)),(3,.v (vP 2)),(4,.v z78),(6,.v z74),(7,.v (vI o2.x)),(8,.v (vI z67))] z25) ((List.length x1.fields=List.length x1.fields)∧z28∧(wI z67)∧z71.Nxt q3 [(0,.v (vP 0)),(2,.v (vP 1)),(3,.v (vP 2)),(4,.v z78),(6,.v z74),(7,.v (vI o2.x)),(8,.v (vI z67))] [.cells (Ck o7.c1),.cells [.nil],.cells [.own 3],.tree (List.set q3.msgs q2.i (⟨x1.id,x1.fields⟩:Shp))])))))) (Bc o5.p ((Fp 158 [vI (1+o4.x)] [] (.v (vB z60)) [])∧Bc z60 (In (Am o6.c1 2) fun o7=>(let z39:=(⟨1+o3.x,1+o4.x,o5.p,o7.p,0⟩:Fld);(Bg o6.c1 2 o7)∧Bc z59 (In (Aa o7.c1 z79) fun o8=>(El (q3.msgs[Int.toNat o8.x]?) fun x1=>(let z34:=(⟨1+o3.x,1+o4.x,o5.p,o7.p,x1.id⟩:Fld);(Aj o7.c1 z79 o8)∧(o8.x<z69)∧((0:Int)≤o8.x)∧(q3.msgs[Int.toNat o8.x]? =some x1)∧El z68 fun x2=>(let z30:List Blk:=[.cells (Ck o8.c1),.cells [.nil],.cells [.own 3],.tree (List.set q3.msgs q2.i (⟨x2.id,x2.fields++[z34]⟩:Shp))];let z31:=z68.map (fun (x:Shp)=>x.fields.length)=some (List.length x2.fields);let z32:=List.length x2.fields+List.length [z34]≤Bn;let z33:=q3.msgs[q2.i]? =some x2;z33∧z65∧z72∧z65∧z72∧z73∧z31∧z73∧z31∧(Fp 221 [.c (.seq .fld x2.fields),vI z62] [] (.v (vB (Ca x2.fields z62))) [])∧Bc (!(Ca x2.fields z62)) (z65∧z72∧z65∧z72∧z73∧z31∧z32∧z65∧z72∧z65∧z72∧z73∧z33∧z73∧z31∧z32∧z65∧z72∧z65∧z72∧z73∧z33∧((z30:List Blk)=z30)∧z66∧(wI z67)∧z71.Nxt q3 [(0,.v (vP 0)),(2,.v (vP 1)),(3,.v (vP 2)),(4,.v z78),(6,.v z74),(7,.v (vI o2.x)),(8,.v (vI z67))] z30) ((List.length x2.fields=List.length x2.fields)∧z33∧(wI z67)∧z71.Nxt q3 [(0,.v (vP 0)),(2,.v (vP 1)),(3,.v (vP 2)),(4,.v z78),(6,.v z74),(7,.v (vI o2.x)),(8,.v (vI z67))] [.cells (Ck o8.c1),.cells [.nil],.cells [.own 3],.tree (List.set q3.msgs q2.i (⟨x2.id,x2.fields⟩:Shp))]))))) (El z68 fun x1=>(let z35:List Blk:=[.cells (Ck o7.c1),.cells [.nil],.cells [.own 3],.tree (List.set q3.msgs q2.i (⟨x1.id,x1.fields++[z39]⟩:Shp))];let z36:=z68.map (fun (x:Shp)=>x.fields.length)=some (List.length x1.fields);let z37:=List.length x1.fields+List.length [z39]≤Bn;let z38:=q3.msgs[q2.i]? =some x1;z38∧z65∧z72∧z65∧z72∧z73∧z36∧z73∧z36∧(Fp 221 [.c (.seq .fld x1.fields),vI z62] [] (.v (vB (Ca x1.fields z62))) [])∧Bc (!(Ca x1.fields z62)) (z65∧z72∧z65∧z72∧z73∧z36∧z37∧z65∧z72∧z65∧z72∧z73∧z38∧z73∧z36∧z37∧z65∧z72∧z65∧z72∧z73∧z38∧((z35:List Blk)=z35)∧z66∧(wI z67)∧z71.Nxt q3 [(0,.v (vP 0)),(2,.v (vP 1)),(3,.v (vP 2)),(4,.v z78),(6,.v z74),(7,.v (vI o2.x)),(8,.v (vI z67))] z35) ((List.length x1.fields=List.length x1.fields)∧z38∧(wI z67)∧z71.Nxt q3 [(0,.v (vP 0)),(2,.v (vP 1)),(3,.v (vP 2)),(4,.v z78),(6,.v z74),(7,.v (vI o2.x)),(8,.v (vI z67))] [.cells (Ck o7.c1),.cells [.nil],.cells [.own 3],.tree (List.set q3.msgs q2.i (⟨x1.id,x1.fields⟩:Shp))]))))) (Bc z59 (In (Aa o6.c1 z79) fun o7=>(El (q3.msgs[Int.toNat o7.x]?) fun x1=>(let z44:=(⟨1+o3.x,1+o4.x,o5.p,false,x1.id⟩:Fld);(Aj o6.c1 z79 o7)∧(o7.x<z69)∧((0:Int)≤o7.x)∧(q3.msgs[Int.toNat o7.x]? =some x1)∧El z68 fun x2=>(let z40:List Blk:=[.cells (Ck o7.c1),.cells [.nil],.cells [.own 3],.tree (List.set q3.msgs q2.i (⟨x2.id,x2.fields++[z44]⟩:Shp))];let z41:=z68.map (fun (x:Shp)=>x.fields.length)=some (List.length x2.fields);let z42:=List.length x2.fields+List.length [z44]≤Bn;let z43:=q3.msgs[q2.i]? =some x2;z43∧z65∧z72∧z65∧z72∧z73∧z41∧z73∧z41∧(Fp 221 [.c (.seq .fld x2.fields),vI z62] [] (.v (vB (Ca x2.fields z62))) [])∧Bc (!(Ca x2.fields z62)) (z65∧z72∧z65∧z72∧z73∧z41∧z42∧z65∧z72∧z65∧z72∧z73∧z43∧z73∧z41∧z42∧z65∧z72∧z65∧z72∧z73∧z43∧((z40:List Blk)=z40)∧z66∧(wI z67)∧z71.Nxt q3 [(0,.v (vP 0)),(2,.v (vP 1)),(3,.v (vP 2)),(4,.v z78),(6,.v z74),(7,.v (vI o2.x)),(8,.v (vI z67))] z40) ((List.length x2.fields=List.length x2.fields)∧z43∧(wI z67)∧z71.Nxt q3 [(0,.v (vP 0)),(2,.v (vP 1)),(3,.v (vP 2)),(4,.v z78),(6,.v z74),(7,.v (vI o2.x)),(8,.v (vI z67))] [.cells (Ck o7.c1),.cells [.nil],.cells [.own 3],.tree (List.set q3.msgs q2.i (⟨x2.id,x2.fields⟩:Shp))]))))) (El z68 fun x1=>(let z45:List Blk:=[.cells (Ck o6.c1),.cells [.nil],.cells [.own 3],.tree (List.set q3.msgs q2.i (⟨x1.id,x1.fields++[z58]⟩:Shp))];let z46:=z68.map (fun (x:Shp)=>x.fields.length)=some (List.length x1.fields);let z47:=List.length x1.fields+List.length [z58]≤Bn;let z48:=q3.msgs[q2.i]? =some x1;z48∧z65∧z72∧z65∧z72∧z73∧z46∧z73∧z46∧(Fp 221 [.c (.seq .fld x1.fields),vI z62] [] (.v (vB (Ca x1.fields z62))) [])∧Bc (!(Ca x1.fields z62)) (z65∧z72∧z65∧z72∧z73∧z46∧z47∧z65∧z72∧z65∧z72∧z73∧z48∧z73∧z46∧z47∧z65∧z72∧z65∧z72∧z73∧z48∧((z45:List Blk)=z45)∧z66∧(wI z67)∧z71.Nxt q3 [(0,.v (vP 0)),(2,.v (vP 1)),(3,.v (vP 2)),(4,.v z78),(6,.v z74),(7,.v (vI o2.x)),(8,.v (vI z67))] z45) ((List.length x1.fields=List.length x1.fields)∧z48∧(wI z67)∧z71.Nxt q3 [(0,.v (vP 0)),(2,.v (vP 1)),(3,.v (vP 2)),(4,.v z78),(6,.v z74),(7,.v (vI o2.x)),(8,.v (vI z67))] [.cells (Ck o6.c1),.cells [.nil],.cells [.own 3],.tree (List.set q3.msgs q2.i (⟨x1.id,x1.fields⟩:Shp))]))))) (Bc z59 (In (Aa o6.c1 z79) fun o7=>(El (q3.msgs[Int.toNat o7.x]?) fun x1=>(let z53:=(⟨1+o3.x,1+o4.x,o5.p,false,x1.id⟩:Fld);(Aj o6.c1 z79 o7)∧(o7.x<z69)∧((0:Int)≤o7.x)∧(q3.msgs[Int.toNat o7.x]? =some x1)∧El z68 fun x2=>(let z49:List Blk:=[.cells (Ck o7.c1),.cells [.nil],.cells [.own 3],.tree (List.set q3.msgs q2.i (⟨x2.id,x2.fields++[z53]⟩:Shp))];let z50:=z68.map (fun (x:Shp)=>x.fields.length)=some (List.length x2.fields);let z51:=List.length x2.fields+List.length [z53]≤Bn;let z52:=q3.msgs[q2.i]? =some x2;z52∧z65∧z72∧z65∧z72∧z73∧z50∧z73∧z50∧(Fp 221 [.c (.seq .fld x2.fields),vI z62] [] (.v (vB (Ca x2.fields z62))) [])∧Bc (!(Ca x2.fields z62)) (z65∧z72∧z65∧z72∧z73∧z50∧z51∧z65∧z72∧z65∧z72∧z73∧z52∧z73∧z50∧z51∧z65∧z72∧z65∧z72∧z73∧z52∧((z49:List Blk)=z49)∧z66∧(wI z67)∧z71.Nxt q3 [(0,.v (vP 0)),(2,.v (vP 1)),(3,.v (vP 2)),(4,.v z78),(6,.v z74),(7,.v (vI o2.x)),(8,.v (vI z67))] z49) ((List.length x2.fields=List.length x2.fields)∧z52∧(wI z67)∧z71.Nxt q3 [(0,.v (vP 0)),(2,.v (vP 1)),(3,.v (vP 2)),(4,.v z78),(6,.v z74),(7,.v (vI o2.x)),(8,.v (vI z67))] [.cells (Ck o7.c1),.cells [.nil],.cells [.own 3],.tree (List.set q3.msgs q2.i (⟨x2.id,x2.fields⟩:Shp))]))))) (El z68 fun x1=>(let z54:List Blk:=[.cells (Ck o6.c1),.cells [.nil],.cells [.own 3],.tree (List.set q3.msgs q2.i (⟨x1.id,x1.fields++[z58]⟩:Shp))];let z55:=z68.map (fun (x:Shp)=>x.fields.length)=some (List.length x1.fields);let z56:=List.length x1.fields+List.length [z58]≤Bn;let z57:=q3.msgs[q2.i]? =some x1;z57∧z65∧z72∧z65∧z72∧z73∧z55∧z73∧z55∧(Fp 221 [.c (.seq .fld x1.fields),vI z62] [] (.v (vB (Ca x1.fields z62))) [])∧Bc (!(Ca x1.fields z62)) (z65∧z72∧z65∧z72∧z73∧z55∧z56∧z65∧z72∧z65∧z72∧z73∧z57∧z73∧z55∧z56∧z65∧z72∧z65∧z72∧z73∧z57∧((z54:List Blk)=z54)∧z66∧(wI z67)∧z71.Nxt q3 [(0,.v (vP 0)),(2,.v (vP 1)),(3,.v (vP 2)),(4,.v z78),(6,.v z74),(7,.v (vI o2.x)),(8,.v (vI z67))] z54) ((List.length x1.fields=List.length x1.fields)∧z57∧(wI z67)∧z71.Nxt q3 [(0,.v (vP 0)),(2,.v (vP 1)),(3,.v (vP 2)),(4,.v z78),(6,.v z74),(7,.v (vI o2.x)),(8,.v (vI z67))] [.cells (Ck o6.c1),.cells [.nil],.cells [.own 3],.tree (List.set q3.msgs q2.i (⟨x1.id,x1.fields⟩:Shp))])))))))))) ((wI (z75+1))∧(Fr o1).Nxt q2 [(0,.v (vP 0)),(2,.v (vP 1)),(3,.v (vP 2)),(4,.v z78),(6,.v (vI (z75+1)))] [.cells (Ck q3.c),.cells [.nil],.cells [.own 3],.tree q3.msgs])))) (((RawK (List.length ((⟨q2.msgs⟩:Raw)).msgs) ((⟨q2.msgs⟩:Raw)).msgs)∧(A0 q2.c))∧Lf (.v (.agg [.own 1])) (.v (.agg [.own 1])) [.cells (Ck q2.c),.tree q2.msgs] [.cells (Ck q2.c),.tree q2.msgs]))))))) Q4 ?_
 refine⟨(Au c 3 Q0),fun o1 ho_o1=>?_⟩
 obtain ⟨⟨hp_o1_0,hp_o1_1,hp_o1_2,hp_o1_3⟩,hf_o1⟩:=ho_o1
 refine⟨hf_o1,(Af Q2 Q2),Cm (j:=(⟨o1.c1,([]:List Shp),0⟩:Lc)) Q9 rfl (by dsimp only[Fq];exact⟨by assumption,by omega,rfl,rfl,fun m hm=>by cases hm⟩),fun (q1:Lc) hq_q1=>?_⟩
 have hi_q1:A0 q1.c∧((q1.i:Nat):Int)≤1+o1.x∧List.length q1.msgs=q1.i∧Gv q1.msgs=List.take q1.i [5,1,99]∧∀m∈q1.msgs,m.fields=[]:=hq_q1
 obtain ⟨v1,v2,v3,v4,v5⟩:=hi_q1
 refine dsp (fun h1 p1=>?_) fun h1 p1=>?_
 refine⟨(Bo (l:=[5,1,99,7]) (i:=q1.i) Q5),fun x1 hx1=>?_⟩
 exact⟨Q5,Q2,hx1,Q5,(Af Q2 Q2),Be (j:=(⟨q1.c,q1.msgs++[(⟨x1,([]:List Fld)⟩:Shp)],q1.i+1⟩:Lc)) Q9 rfl (by dsimp only[Fq];exact⟨by assumption,by omega,by simp;omega,Aho v4 Q2 hx1,fun m hm=>by rcases List.mem_append.1 hm with hm|hm;exact v5 m hm;simp at hm;rw[hm]⟩) (by dsimp only[Fq];omega)⟩
 refine⟨Cm (j:=(⟨q1.c,q1.msgs,0⟩:Jc)) Q9 rfl (by dsimp only[Fr];exact⟨by assumption,by omega,Ahp Q2 Q2 (by rw[v4];congr 1;omega) v5,fun j m _ hm=>v5 m (List.mem_of_getElem? hm)⟩),fun (q2:Jc) hq_q2=>?_⟩
 have hi_q2:A0 q2.c∧q2.i≤Int.toNat (1+o1.x)∧RawK (Int.toNat (1+o1.x)) q2.msgs∧∀j m,q2.i≤j→q2.msgs[j]? =some m→m.fields=[]:=hq_q2
 obtain ⟨u1,u2,u3,u4⟩:=hi_q2
 have upos:=u3.pos
 have ulen:=u3.len
 refine dsp (fun h2 p2=>?_) fun h2 p2=>?_
 refine⟨(Au q2.c 6 Q0),fun o2 ho_o2=>?_⟩
 obtain ⟨⟨hp_o2_0,hp_o2_1,hp_o2_2,hp_o2_3⟩,hf_o2⟩:=ho_o2
 refine⟨hf_o2,Cm (j:=(⟨o2.c1,q2.msgs,0⟩:Bj)) Q9 rfl (by dsimp only[Jd];exact⟨by assumption,by omega,u3,fun j m hj hm=>u4 j m Q2 hm,fun m hm=>by rw[u4 _ m (Nat.le_refl _) hm];exact Nat.le_refl _⟩),fun (q3:Bj) hq_q3=>?_⟩
 have hi_q3:A0 q3.c∧q3.k≤5∧RawK (Int.toNat (1+o1.x)) q3.msgs∧(∀j m,q2.i<j→q3.msgs[j]? =some m→m.fields=[])∧∀m,q3.msgs[q2.i]? =some m→List.length m.fields≤q3.k:=hq_q3
 obtain ⟨w1,w2,w3,w4,w5⟩:=hi_q3
 have wlen:=w3.len
 refine dsp (fun h3 p3=>?_) fun h3 p3=>?_
 refine⟨(Au q3.c 12 Q0),fun o3 ho_o3=>?_⟩
 obtain ⟨⟨hp_o3_0,hp_o3_1,hp_o3_2,hp_o3_3⟩,hf_o3⟩:=ho_o3
 refine⟨hf_o3,(Af Q2 Q2),(Au o3.c1 8 Q0),fun o4 ho_o4=>?_⟩
 obtain ⟨⟨hp_o4_0,hp_o4_1,hp_o4_2,hp_o4_3⟩,hf_o4⟩:=ho_o4
 refine⟨hf_o4,(Af Q2 Q2),(Bx o4.c1 2 Q0),fun o5 ho_o5=>?_⟩
 obtain ⟨hp_o5,hf_o5⟩:=ho_o5
 refine⟨hf_o5,(Bx o5.c1 12 Q0),fun o6 ho_o6=>?_⟩
 obtain ⟨hp_o6,hf_o6⟩:=ho_o6
 refine⟨hf_o6,fun h4=>?_,fun h4=>?_⟩
 refine⟨(Fn o6.c1 [16,2047,2048,18999,20000,536870911] Q0 Q5 Q5),fun o7 ho_o7=>?_⟩
 obtain ⟨⟨hp_o7_0,hp_o7_1⟩,hf_o7⟩:=ho_o7
 refine⟨hf_o7,fun h5=>?_,fun h5=>?_⟩
 refine⟨(Lq _),fun h6=>have p6:=Aw h6;?_,fun h6=>have p6:=A7 h6;?_⟩
 refine⟨(Bx o7.c1 2 Q0),fun o8 ho_o8=>?_⟩
 obtain ⟨hp_o8,hf_o8⟩:=ho_o8
 refine⟨hf_o8,dsp (fun h7 p7=>?_) fun h7 p7=>?_⟩
 refine⟨(Au o8.c1 (1+o1.x) Q0),fun o9 ho_o9=>?_⟩
 obtain ⟨⟨hp_o9_0,hp_o9_1,hp_o9_2,hp_o9_3⟩,hf_o9⟩:=ho_o9
 refine⟨(Bo (l:=q3.msgs) (i:=Int.toNat o9.x) Q2),fun x1 hx1=>?_⟩
 have hri:x1.id∈Gv q3.msgs:=List.mem_map.2 ⟨_,List.mem_of_getElem? hx1,rfl⟩
 refine⟨hf_o9,Q2,Q2,hx1,(Bo (l:=q3.msgs) (i:=q2.i) Q2),fun x2 hx2=>?_⟩
 have hxl:=w5 _ hx2
 have hsame:=Gg hx2
 refine⟨hx2,Q2,Q2,Q2,Q2,rfl,Q36,rfl,Q36,(F1 _ _ Q2),fun h8=>have q8:=Aq h8;?_,fun h8=>have q8:=Ao h8;?_⟩
 exact⟨Q2,Q2,Q2,Q2,rfl,Q36,Q5,Q2,Q2,Q2,Q2,rfl,hx2,rfl,Q36,Q5,Q2,Q2,Q2,Q2,rfl,hx2,rfl,rfl,(Af Q2 Q2),Be (j:=(⟨o9.c1,List.set q3.msgs q2.i (⟨x2.id,x2.fields++[(⟨o7.x,1+o4.x,o5.p,o8.p,x1.id⟩:Fld)]⟩:Shp),q3.k+1⟩:Bj)) Q9 rfl Q1 Q20⟩
 exact⟨Q9,hx2,(Af Q2 Q2),Be (j:=(⟨o9.c1,List.set q3.msgs q2.i (⟨x2.id,x2.fields⟩:Shp),q3.k+1⟩:Bj)) Q9 rfl Q1 Q20⟩
 refine⟨(Bo (l:=q3.msgs) (i:=q2.i) Q2),fun x1 hx1=>?_⟩
 have hxl:=w5 _ hx1
 have hsame:=Gg hx1
 refine⟨hx1,Q2,Q2,Q2,Q2,rfl,Q29,rfl,Q29,(F1 _ _ Q2),fun h8=>have q8:=Aq h8;?_,fun h8=>have q8:=Ao h8;?_⟩
 exact⟨Q2,Q2,Q2,Q2,rfl,Q29,Q5,Q2,Q2,Q2,Q2,rfl,hx1,rfl,Q29,Q5,Q2,Q2,Q2,Q2,rfl,hx1,rfl,rfl,(Af Q2 Q2),Be (j:=(⟨o8.c1,List.set q3.msgs q2.i (⟨x1.id,x1.fields++[(⟨o7.x,1+o4.x,o5.p,o8.p,0⟩:Fld)]⟩:Shp),q3.k+1⟩:Bj)) Q9 rfl Q1 Q20⟩
 exact⟨Q9,hx1,(Af Q2 Q2),Be (j:=(⟨o8.c1,List.set q3.msgs q2.i (⟨x1.id,x1.fields⟩:Shp),q3.k+1⟩:Bj)) Q9 rfl Q1 Q20⟩
 refine dsp (fun h7 p7=>?_) fun h7 p7=>?_
 refine⟨(Au o7.c1 (1+o1.x) Q0),fun o8 ho_o8=>?_⟩
 obtain ⟨⟨hp_o8_0,hp_o8_1,hp_o8_2,hp_o8_3⟩,hf_o8⟩:=ho_o8
 refine⟨(Bo (l:=q3.msgs) (i:=Int.toNat o8.x) Q2),fun x1 hx1=>?_⟩
 have hri:x1.id∈Gv q3.msgs:=List.mem_map.2 ⟨_,List.mem_of_getElem? hx1,rfl⟩
 refine⟨hf_o8,Q2,Q2,hx1,(Bo (l:=q3.msgs) (i:=q2.i) Q2),fun x2 hx2=>?_⟩
 have hxl:=w5 _ hx2
 have hsame:=Gg hx2
 refine⟨hx2,Q2,Q2,Q2,Q2,rfl,Q36,rfl,Q36,(F1 _ _ Q2),fun h8=>have q8:=Aq h8;?_,fun h8=>have q8:=Ao h8;?_⟩
 exact⟨Q2,Q2,Q2,Q2,rfl,Q36,Q5,Q2,Q2,Q2,Q2,rfl,hx2,rfl,Q36,Q5,Q2,Q2,Q2,Q2,rfl,hx2,rfl,rfl,(Af Q2 Q2),Be (j:=(⟨o8.c1,List.set q3.msgs q2.i (⟨x2.id,x2.fields++[(⟨o7.x,1+o4.x,o5.p,false,x1.id⟩:Fld)]⟩:Shp),q3.k+1⟩:Bj)) Q9 rfl Q1 Q20⟩
 exact⟨Q9,hx2,(Af Q2 Q2),Be (j:=(⟨o8.c1,List.set q3.msgs q2.i (⟨x2.id,x2.fields⟩:Shp),q3.k+1⟩:Bj)) Q9 rfl Q1 Q20⟩
 refine⟨(Bo (l:=q3.msgs) (i:=q2.i) Q2),fun x1 hx1=>?_⟩
 have hxl:=w5 _ hx1
 have hsame:=Gg hx1
 refine⟨hx1,Q2,Q2,Q2,Q2,rfl,Q29,rfl,Q29,(F1 _ _ Q2),fun h8=>have q8:=Aq h8;?_,fun h8=>have q8:=Ao h8;?_⟩
 exact⟨Q2,Q2,Q2,Q2,rfl,Q29,Q5,Q2,Q2,Q2,Q2,rfl,hx1,rfl,Q29,Q5,Q2,Q2,Q2,Q2,rfl,hx1,rfl,rfl,(Af Q2 Q2),Be (j:=(⟨o7.c1,List.set q3.msgs q2.i (⟨x1.id,x1.fields++[(⟨o7.x,1+o4.x,o5.p,false,0⟩:Fld)]⟩:Shp),q3.k+1⟩:Bj)) Q9 rfl Q1 Q20⟩
 exact⟨Q9,hx1,(Af Q2 Q2),Be (j:=(⟨o7.c1,List.set q3.msgs q2.i (⟨x1.id,x1.fields⟩:Shp),q3.k+1⟩:Bj)) Q9 rfl Q1 Q20⟩
 refine dsp (fun h6 p6=>?_) fun h6 p6=>?_
 refine⟨(Au o7.c1 (1+o1.x) Q0),fun o8 ho_o8=>?_⟩
 obtain ⟨⟨hp_o8_0,hp_o8_1,hp_o8_2,hp_o8_3⟩,hf_o8⟩:=ho_o8
 refine⟨(Bo (l:=q3.msgs) (i:=Int.toNat o8.x) Q2),fun x1 hx1=>?_⟩
 have hri:x1.id∈Gv q3.msgs:=List.mem_map.2 ⟨_,List.mem_of_getElem? hx1,rfl⟩
 refine⟨hf_o8,Q2,Q2,hx1,(Bo (l:=q3.msgs) (i:=q2.i) Q2),fun x2 hx2=>?_⟩
 have hxl:=w5 _ hx2
 have hsame:=Gg hx2
 refine⟨hx2,Q2,Q2,Q2,Q2,rfl,Q36,rfl,Q36,(F1 _ _ Q2),fun h7=>have q7:=Aq h7;?_,fun h7=>have q7:=Ao h7;?_⟩
 exact⟨Q2,Q2,Q2,Q2,rfl,Q36,Q5,Q2,Q2,Q2,Q2,rfl,hx2,rfl,Q36,Q5,Q2,Q2,Q2,Q2,rfl,hx2,rfl,rfl,(Af Q2 Q2),Be (j:=(⟨o8.c1,List.set q3.msgs q2.i (⟨x2.id,x2.fields++[(⟨o7.x,1+o4.x,o5.p,false,x1.id⟩:Fld)]⟩:Shp),q3.k+1⟩:Bj)) Q9 rfl Q1 Q20⟩
 exact⟨Q9,hx2,(Af Q2 Q2),Be (j:=(⟨o8.c1,List.set q3.msgs q2.i (⟨x2.id,x2.fields⟩:Shp),q3.k+1⟩:Bj)) Q9 rfl Q1 Q20⟩
 refine⟨(Bo (l:=q3.msgs) (i:=q2.i) Q2),fun x1 hx1=>?_⟩
 have hxl:=w5 _ hx1
 have hsame:=Gg hx1
 refine⟨hx1,Q2,Q2,Q2,Q2,rfl,Q29,rfl,Q29,(F1 _ _ Q2),fun h7=>have q7:=Aq h7;?_,fun h7=>have q7:=Ao h7;?_⟩
 exact⟨Q2,Q2,Q2,Q2,rfl,Q29,Q5,Q2,Q2,Q2,Q2,rfl,hx1,rfl,Q29,Q5,Q2,Q2,Q2,Q2,rfl,hx1,rfl,rfl,(Af Q2 Q2),Be (j:=(⟨o7.c1,List.set q3.msgs q2.i (⟨x1.id,x1.fields++[(⟨o7.x,1+o4.x,o5.p,false,0⟩:Fld)]⟩:Shp),q3.k+1⟩:Bj)) Q9 rfl Q1 Q20⟩
 exact⟨Q9,hx1,(Af Q2 Q2),Be (j:=(⟨o7.c1,List.set q3.msgs q2.i (⟨x1.id,x1.fields⟩:Shp),q3.k+1⟩:Bj)) Q9 rfl Q1 Q20⟩
 refine⟨fun h5=>?_,fun h5=>?_⟩
 refine⟨(Lq _),fun h6=>have p6:=Aw h6;?_,fun h6=>have p6:=A7 h6;?_⟩
 refine⟨(Bx o6.c1 2 Q0),fun o7 ho_o7=>?_⟩
 obtain ⟨hp_o7,hf_o7⟩:=ho_o7
 refine⟨hf_o7,dsp (fun h7 p7=>?_) fun h7 p7=>?_⟩
 refine⟨(Au o7.c1 (1+o1.x) Q0),fun o8 ho_o8=>?_⟩
 obtain ⟨⟨hp_o8_0,hp_o8_1,hp_o8_2,hp_o8_3⟩,hf_o8⟩:=ho_o8
 refine⟨(Bo (l:=q3.msgs) (i:=Int.toNat o8.x) Q2),fun x1 hx1=>?_⟩
 have hri:x1.id∈Gv q3.msgs:=List.mem_map.2 ⟨_,List.mem_of_getElem? hx1,rfl⟩
 refine⟨hf_o8,Q2,Q2,hx1,(Bo (l:=q3.msgs) (i:=q2.i) Q2),fun x2 hx2=>?_⟩
 have hxl:=w5 _ hx2
 have hsame:=Gg hx2
 refine⟨hx2,Q2,Q2,Q2,Q2,rfl,Q36,rfl,Q36,(F1 _ _ Q2),fun h8=>have q8:=Aq h8;?_,fun h8=>have q8:=Ao h8;?_⟩
 exact⟨Q2,Q2,Q2,Q2,rfl,Q36,Q5,Q2,Q2,Q2,Q2,rfl,hx2,rfl,Q36,Q5,Q2,Q2,Q2,Q2,rfl,hx2,rfl,rfl,(Af Q2 Q2),Be (j:=(⟨o8.c1,List.set q3.msgs q2.i (⟨x2.id,x2.fields++[(⟨1+o3.x,1+o4.x,o5.p,o7.p,x1.id⟩:Fld)]⟩:Shp),q3.k+1⟩:Bj)) Q9 rfl Q1 Q20⟩
 exact⟨Q9,hx2,(Af Q2 Q2),Be (j:=(⟨o8.c1,List.set q3.msgs q2.i (⟨x2.id,x2.fields⟩:Shp),q3.k+1⟩:Bj)) Q9 rfl Q1 Q20⟩
 refine⟨(Bo (l:=q3.msgs) (i:=q2.i) Q2),fun x1 hx1=>?_⟩
 have hxl:=w5 _ hx1
 have hsame:=Gg hx1
 refine⟨hx1,Q2,Q2,Q2,Q2,rfl,Q29,rfl,Q29,(F1 _ _ Q2),fun h8=>have q8:=Aq h8;?_,fun h8=>have q8:=Ao h8;?_⟩
 exact⟨Q2,Q2,Q2,Q2,rfl,Q29,Q5,Q2,Q2,Q2,Q2,rfl,hx1,rfl,Q29,Q5,Q2,Q2,Q2,Q2,rfl,hx1,rfl,rfl,(Af Q2 Q2),Be (j:=(⟨o7.c1,List.set q3.msgs q2.i (⟨x1.id,x1.fields++[(⟨1+o3.x,1+o4.x,o5.p,o7.p,0⟩:Fld)]⟩:Shp),q3.k+1⟩:Bj)) Q9 rfl Q1 Q20⟩
 exact⟨Q9,hx1,(Af Q2 Q2),Be (j:=(⟨o7.c1,List.set q3.msgs q2.i (⟨x1.id,x1.fields⟩:Shp),q3.k+1⟩:Bj)) Q9 rfl Q1 Q20⟩
 refine dsp (fun h7 p7=>?_) fun h7 p7=>?_
 refine⟨(Au o6.c1 (1+o1.x) Q0),fun o7 ho_o7=>?_⟩
 obtain ⟨⟨hp_o7_0,hp_o7_1,hp_o7_2,hp_o7_3⟩,hf_o7⟩:=ho_o7
 refine⟨(Bo (l:=q3.msgs) (i:=Int.toNat o7.x) Q2),fun x1 hx1=>?_⟩
 have hri:x1.id∈Gv q3.msgs:=List.mem_map.2 ⟨_,List.mem_of_getElem? hx1,rfl⟩
 refine⟨hf_o7,Q2,Q2,hx1,(Bo (l:=q3.msgs) (i:=q2.i) Q2),fun x2 hx2=>?_⟩
 have hxl:=w5 _ hx2
 have hsame:=Gg hx2
 refine⟨hx2,Q2,Q2,Q2,Q2,rfl,Q36,rfl,Q36,(F1 _ _ Q2),fun h8=>have q8:=Aq h8;?_,fun h8=>have q8:=Ao h8;?_⟩
 exact⟨Q2,Q2,Q2,Q2,rfl,Q36,Q5,Q2,Q2,Q2,Q2,rfl,hx2,rfl,Q36,Q5,Q2,Q2,Q2,Q2,rfl,hx2,rfl,rfl,(Af Q2 Q2),Be (j:=(⟨o7.c1,List.set q3.msgs q2.i (⟨x2.id,x2.fields++[(⟨1+o3.x,1+o4.x,o5.p,false,x1.id⟩:Fld)]⟩:Shp),q3.k+1⟩:Bj)) Q9 rfl Q1 Q20⟩
 exact⟨Q9,hx2,(Af Q2 Q2),Be (j:=(⟨o7.c1,List.set q3.msgs q2.i (⟨x2.id,x2.fields⟩:Shp),q3.k+1⟩:Bj)) Q9 rfl Q1 Q20⟩
 refine⟨(Bo (l:=q3.msgs) (i:=q2.i) Q2),fun x1 hx1=>?_⟩
 have hxl:=w5 _ hx1
 have hsame:=Gg hx1
 refine⟨hx1,Q2,Q2,Q2,Q2,rfl,Q29,rfl,Q29,(F1 _ _ Q2),fun h8=>have q8:=Aq h8;?_,fun h8=>have q8:=Ao h8;?_⟩
 exact⟨Q2,Q2,Q2,Q2,rfl,Q29,Q5,Q2,Q2,Q2,Q2,rfl,hx1,rfl,Q29,Q5,Q2,Q2,Q2,Q2,rfl,hx1,rfl,rfl,(Af Q2 Q2),Be (j:=(⟨o6.c1,List.set q3.msgs q2.i (⟨x1.id,x1.fields++[(⟨1+o3.x,1+o4.x,o5.p,false,0⟩:Fld)]⟩:Shp),q3.k+1⟩:Bj)) Q9 rfl Q1 Q20⟩
 exact⟨Q9,hx1,(Af Q2 Q2),Be (j:=(⟨o6.c1,List.set q3.msgs q2.i (⟨x1.id,x1.fields⟩:Shp),q3.k+1⟩:Bj)) Q9 rfl Q1 Q20⟩
 refine dsp (fun h6 p6=>?_) fun h6 p6=>?_
 refine⟨(Au o6.c1 (1+o1.x) Q0),fun o7 ho_o7=>?_⟩
 obtain ⟨⟨hp_o7_0,hp_o7_1,hp_o7_2,hp_o7_3⟩,hf_o7⟩:=ho_o7
 refine⟨(Bo (l:=q3.msgs) (i:=Int.toNat o7.x) Q2),fun x1 hx1=>?_⟩
 have hri:x1.id∈Gv q3.msgs:=List.mem_map.2 ⟨_,List.mem_of_getElem? hx1,rfl⟩
 refine⟨hf_o7,Q2,Q2,hx1,(Bo (l:=q3.msgs) (i:=q2.i) Q2),fun x2 hx2=>?_⟩
 have hxl:=w5 _ hx2
 have hsame:=Gg hx2
 refine⟨hx2,Q2,Q2,Q2,Q2,rfl,Q36,rfl,Q36,(F1 _ _ Q2),fun h7=>have q7:=Aq h7;?_,fun h7=>have q7:=Ao h7;?_⟩
 exact⟨Q2,Q2,Q2,Q2,rfl,Q36,Q5,Q2,Q2,Q2,Q2,rfl,hx2,rfl,Q36,Q5,Q2,Q2,Q2,Q2,rfl,hx2,rfl,rfl,(Af Q2 Q2),Be (j:=(⟨o7.c1,List.set q3.msgs q2.i (⟨x2.id,x2.fields++[(⟨1+o3.x,1+o4.x,o5.p,false,x1.id⟩:Fld)]⟩:Shp),q3.k+1⟩:Bj)) Q9 rfl Q1 Q20⟩
 exact⟨Q9,hx2,(Af Q2 Q2),Be (j:=(⟨o7.c1,List.set q3.msgs q2.i (⟨x2.id,x2.fields⟩:Shp),q3.k+1⟩:Bj)) Q9 rfl Q1 Q20⟩
 refine⟨(Bo (l:=q3.msgs) (i:=q2.i) Q2),fun x1 hx1=>?_⟩
 have hxl:=w5 _ hx1
 have hsame:=Gg hx1
 refine⟨hx1,Q2,Q2,Q2,Q2,rfl,Q29,rfl,Q29,(F1 _ _ Q2),fun h7=>have q7:=Aq h7;?_,fun h7=>have q7:=Ao h7;?_⟩
 exact⟨Q2,Q2,Q2,Q2,rfl,Q29,Q5,Q2,Q2,Q2,Q2,rfl,hx1,rfl,Q29,Q5,Q2,Q2,Q2,Q2,rfl,hx1,rfl,rfl,(Af Q2 Q2),Be (j:=(⟨o6.c1,List.set q3.msgs q2.i (⟨x1.id,x1.fields++[(⟨1+o3.x,1+o4.x,o5.p,false,0⟩:Fld)]⟩:Shp),q3.k+1⟩:Bj)) Q9 rfl Q1 Q20⟩
 exact⟨Q9,hx1,(Af Q2 Q2),Be (j:=(⟨o6.c1,List.set q3.msgs q2.i (⟨x1.id,x1.fields⟩:Shp),q3.k+1⟩:Bj)) Q9 rfl Q1 Q20⟩
 exact⟨(Af Q2 Q2),Be (j:=(⟨q3.c,q3.msgs,q2.i+1⟩:Jc)) Q9 rfl (by dsimp only[Fr];exact⟨by assumption,by omega,w3,fun j m hj hm=>w4 j m Q2 hm⟩) (by dsimp only[Fr];omega)⟩
 exact⟨⟨((by dsimp only;rw[ulen];exact u3)),Q0⟩,rfl,rfl⟩
structure M7 where
 l:List Shp
 c1:Cur
def Re (c:Cur) (o:M7):Prop:=Fun Tryz.prog 148 [vP 0] [.cells (Ck c)] (.v (.agg [.own 1])) [.cells (Ck o.c1),.tree o.l]
def Kh (c:Cur) (o:M7):Prop:=((SchG o.l)∧(1≤List.length o.l)∧(List.length o.l≤3)∧(A0 o.c1))∧Re c o
theorem Aag (c:Cur) (hp1:A0 c): ∃o:M7,Kh c o:=by
 have hN:Bn=274877906944:=rfl
 refine B4 Tryz.func148 Q4 Q4 (w:=let z1:S:= .v (.agg [.own 1]);(.intro (Rb c) fun o1=> .seg [.call [0] z1 [.cells (Ck o1.c1),.tree o1.r.msgs]] (.intro (Ra o1.r) fun o2=> .seg [.call [] (.tup [.agg [.own 0],.agg [.int .i64 0,.int .i64 0,.int .i64 0]]) [.tree o2.l]] (.leaf (⟨o2.l,o1.c1⟩:M7) [0,3])),In (Rb c) fun o1=>((V2 c o1)∧In (Ra o1.r) fun o2=>((V0 o1.r o2)∧((SchG o2.l)∧(1≤List.length o2.l)∧(List.length o2.l≤3)∧(A0 o1.c1))∧Lf z1 z1 [.cells (Ck o1.c1),.tree o2.l] [.cells (Ck o1.c1),.tree o2.l])))) Q4 ?_
 refine⟨(Ahr c Q0),fun o1 ho_o1=>?_⟩
 obtain ⟨⟨hp_o1_0,hp_o1_1⟩,hf_o1⟩:=ho_o1
 refine⟨hf_o1,(Ahq o1.r Q2),fun o2 ho_o2=>?_⟩
 obtain ⟨hp_o2,hf_o2⟩:=ho_o2
 exact⟨hf_o2,⟨Q2,(hp_o2.1.1),(hp_o2.1.2),Q0⟩,rfl,rfl⟩
structure Jr where
 x:Int
 c1:Cur
def M8 (c:Cur) (l:List Int) (o:Jr):Prop:=Fun Tryz.prog 86 [vP 0,vO 1] [.cells (Ck c),.lst .int l] (.v (vI o.x)) [.cells (Ck o.c1),.lst .int l]
def Hb (c:Cur) (l:List Int) (o:Jr):Prop:=((o.x∈l)∧(A0 o.c1))∧M8 c l o
theorem V3 (c:Cur) (l:List Int) (hp1:A0 c) (hp2:1≤List.length l) (hp3:List.length l≤1000): ∃o:Jr,Hb c l o:=by
 have hN:Bn=274877906944:=rfl
 refine B4 Tryz.func86 Q4 Q4 (w:=let z1:=((List.length l:Nat):Int);(.intro (Aa c z1) fun o1=> .seg [.call [0] (.v (vI o1.x)) (Kc o1.c1)] (.intro (Sx (l[Int.toNat o1.x]?)) fun x1=> .seg [.el .int x1] (.leaf (⟨x1,o1.c1⟩:Jr) [0,1])),In (Aa c z1) fun o1=>((Aj c z1 o1)∧El (l[Int.toNat o1.x]?) fun x1=>((o1.x<z1)∧((0:Int)≤o1.x)∧(l[Int.toNat o1.x]? =some x1)∧((x1∈l)∧(A0 o1.c1))∧Lf (.v (vI x1)) (.v (vI x1)) [.cells (Ck o1.c1),.lst .int l] [.cells (Ck o1.c1),.lst .int l])))) Q4 ?_
 refine⟨(Au c ((List.length l:Nat):Int) Q0),fun o1 ho_o1=>?_⟩
 obtain ⟨⟨hp_o1_0,hp_o1_1,hp_o1_2,hp_o1_3⟩,hf_o1⟩:=ho_o1
 refine⟨hf_o1,(Bo (l:=l) (i:=Int.toNat o1.x) Q2),fun x1 hx1=>?_⟩
 exact⟨Q2,Q2,hx1,⟨(List.mem_of_getElem? hx1),Q0⟩,rfl,rfl⟩
structure M9 where
 p:Pln
 c1:Cur
def Rf (c:Cur) (o:M9):Prop:=Fun Tryz.prog 79 [vP 0] [.cells (Ck c)] (.v (.agg (Gw o.p))) [.cells (Ck o.c1)]
def Ki (c:Cur) (o:M9):Prop:=((PlnG o.p)∧(A0 o.c1))∧Rf c o
theorem Aah (c:Cur) (hp1:A0 c): ∃o:M9,Ki c o:=by
 have hN:Bn=274877906944:=rfl
 refine B4 Tryz.func79 Q4 Q4 (w:=let z9:=([(2,.v (vP 1))]:List (Nat×S))=[(2,.v (vP 1))];(.intro (Kh c) fun o1=> .seg [.call [0] (.v (.agg [.own 1])) [.cells (Ck o1.c1),.tree o1.l]] (.intro (Aa o1.c1 ((List.length o1.l:Nat):Int)) fun o2=> .intro (Aa o2.c1 4) fun o3=>let z5:S:= .v (vI (1+o3.x));.intro (Hb o3.c1 [60,60,2000,200,5,0]) fun o4=>let z1:List Blk:=[.cells (Ck o4.c1),.lst .int [60,60,2000,200,5,0]];.seg [.tree (fr (.first 6 (.first 9 (.two 5 (.two 7 (.first 8 (.one 10 (.one 11 (.first 12 (.one 13 (.done)))))) 10 (.one 7 (.first 8 (.one 11 (.first 12 (.one 13 (.done))))))) 10 (.one 5 (.one 7 (.first 8 (.one 11 (.first 12 (.one 13 (.done)))))))))) 0 5) 13 [0],.call [0] (.v (vI o2.x)) (Kc o2.c1),.call [0] (.v (vI o3.x)) (Kc o3.c1),.as 14 z5,.ty .int,.call [0,4] (.v (vI o4.x)) z1,.at 0,.keep [2],.sel [0,1,2],.ty .int,.call [0] (.v (vI o3.x)) (Kc o3.c1),.as 14 z5,.call [0,4] (.v (vI o4.x)) z1,.at 0,.keep [2],.sel [0,1,2],.ty .int,.call [0] (.v (vI o2.x)) (Kc o2.c1),.call [0] (.v (vI o3.x)) (Kc o3.c1),.as 14 z5,.call [0,4] (.v (vI o4.x)) z1,.at 0,.keep [2],.sel [0,1,2],.at 0,.pub 1 0] (.leaf (⟨(⟨o1.l,o2.x,1+o3.x,o4.x⟩:Pln),o4.c1⟩:M9) [0])),In (Kh c) fun o1=>(let z8:=((List.length o1.l:Nat):Int);(Re c o1)∧In (Aa o1.c1 z8) fun o2=>(let z7:=Aj o1.c1 z8 o2;In (Aa o2.c1 4) fun o3=>(let z6:=Aj o2.c1 4 o3;In (Hb o3.c1 [60,60,2000,200,5,0]) fun o4=>(let z2:List Blk:=[.cells (Ck o4.c1),.cells [.own 2,.int .i64 o2.x,.int .i64 (1+o3.x),.int .i64 o4.x],.tree o1.l];let z3:=M8 o3.c1 [60,60,2000,200,5,0] o4;let z4:S:= .v (.agg [.seq .shp o1.l,.int .i64 o2.x,.int .i64 (1+o3.x),.int .i64 o4.x]);z7∧z6∧(wI (1+o3.x))∧z3∧z6∧(wI (1+o3.x))∧z3∧((z2:List Blk)=z2)∧z9∧z7∧z6∧(wI (1+o3.x))∧z3∧((z2:List Blk)=z2)∧z9∧((PlnG (⟨o1.l,o2.x,1+o3.x,o4.x⟩:Pln))∧(A0 o4.c1))∧Lf z4 z4 (Kc o4.c1) (Kc o4.c1))))))) Q4 ?_
 refine⟨(Aag c Q0),fun o1 ho_o1=>?_⟩
 obtain ⟨⟨hp_o1_0,hp_o1_1,hp_o1_2,hp_o1_3⟩,hf_o1⟩:=ho_o1
 refine⟨hf_o1,(Au o1.c1 ((List.length o1.l:Nat):Int) Q0),fun o2 ho_o2=>?_⟩
 obtain ⟨⟨hp_o2_0,hp_o2_1,hp_o2_2,hp_o2_3⟩,hf_o2⟩:=ho_o2
 refine⟨(Au o2.c1 4 Q0),fun o3 ho_o3=>?_⟩
 obtain ⟨⟨hp_o3_0,hp_o3_1,hp_o3_2,hp_o3_3⟩,hf_o3⟩:=ho_o3
 refine⟨(V3 o3.c1 [60,60,2000,200,5,0] Q0 Q5 Q5),fun o4 ho_o4=>?_⟩
 obtain ⟨⟨hp_o4_0,hp_o4_1⟩,hf_o4⟩:=ho_o4
 exact⟨hf_o2,hf_o3,(Af Q2 Q2),hf_o4,hf_o3,(Af Q2 Q2),hf_o4,rfl,rfl,hf_o2,hf_o3,(Af Q2 Q2),hf_o4,rfl,rfl,⟨(⟨by assumption,by dsimp only;have:=hp_o1_0.1;omega,by dsimp only;omega,by have hpk:=hp_o4_0;simp at hpk;dsimp only;omega⟩),Q0⟩,rfl,rfl⟩
theorem Ahs (x:Int):0≤IntKind.u64.wrap x∧IntKind.u64.wrap x≤18446744073709551615:=by
 rw[IntKind.wrap_u64];omega
theorem Ajz {l:List Int} (hl:(l.all fun x=>decide (0≤x)&&decide (x≤18446744073709551615))=true) {i:Nat} {x:Int} (h:l[i]? =some x):0≤x∧x≤18446744073709551615:=by
 have:=List.all_eq_true.1 hl x (List.mem_of_getElem? h)
 simpa using this
theorem V4 {u:Int} (h:0≤u∧u≤18446744073709551615):1≤(Dz u).length∧(Dz u).length≤10:=by
 have:=Acd (u:=u) (by omega)
 unfold Ku at this
 omega
theorem Aj0 (u:Int) (hp1:(0:Int)≤u∧u≤18446744073709551615):Fun Tryz.prog 201 [.c (.int .u64 u)] [] (.v (vI (Ku u))) []:=by
 have hN:Bn=274877906944:=rfl
 have hpl:=V4 hp1
 refine Av Tryz.func201 Q4 Q4 (w:=(.seg [.call [] (.v (vT (Dz u))) []] (.leaf () []),(Fp 202 [.c (.int .u64 u)] [] (.v (vT (Dz u))) [])∧Lf (.v (vI ((List.length (Dz u):Nat):Int))) (.v (vI (Ku u))) [] [])) Q4 ?_
 exact⟨(Uf _ Q2),(congrArg S.v (congrArg V.c (congrArg (C.int .i64) (by rfl)))),rfl⟩
structure L7 where
 t:List UInt8
def Xs (u:Int) (n:Int) (o:L7):Prop:=Fun Tryz.prog 200 [.c (.int .u64 u),vI n] [] (.v (vT o.t)) []
def S8 (u:Int) (n:Int) (o:L7):Prop:=((List.length (o.t:List UInt8)≤10))∧Xs u n o
structure Na where
 out:List Int
def Nb (n:Int):Fam:=⟨Na,fun q1=>[(1,.v (vI n)),(5,.v (vO 0))],fun q1=>[.lst .u8 q1.out],fun q1=>1≤List.length q1.out∧List.length q1.out≤10,fun q1=>10-List.length q1.out⟩
theorem Aj1 (u:Int) (n:Int) (hp1:(0:Int)≤u∧u≤18446744073709551615): ∃o:L7,S8 u n o:=by
 have hN:Bn=274877906944:=rfl
 have hpl:=V4 hp1
 refine B4 Tryz.func200 Q4 Q4 (w:=let z7:=List.map (fun b=>(UInt8.toNat b:Int)) (Dz u);let z6:=((List.length z7:Nat):Int);let z8:=Nb n;(.seg [.call [] (.v (vT (Dz u))) [],.call [] (.v (vB (Ai n z6 10))) []] (.br (.leaf (⟨[]⟩:L7) []) (.seg [.at 0,.keep [1,5],.sel [0]] (.loop z8 fun q1=>let z3:=((List.length q1.out:Nat):Int)-1;.br (.seg [.as 21 (.v (vI z3)),.as 25 (.v (vI z3))] (.intro (Sx (q1.out[Int.toNat z3]?)) fun x1=> .seg [.el .u8 x1,.el .u8 x1,.ty .u8,.ty .u8,.at 0,.keep [1,5],.sel [2]] (.next))) (.leaf (⟨List.map Bk q1.out⟩:L7) [])))),(Fp 202 [.c (.int .u64 u)] [] (.v (vT (Dz u))) [])∧(List.length (Dz u)≤Bn)∧(Fp 44 [vI n,vI z6,vI 10] [] (.v (vB (Ai n z6 10))) [])∧Bc (!(Ai n z6 10)) (((List.length ([]:List UInt8)≤10))∧Lf (.v (vT [])) (.v (vT [])) [] []) (z8.Has [(1,.v (vI n)),(5,.v (vO 0))] [.lst .u8 z7]∧∀q1,z8.inv q1→(let z4:=((List.length q1.out:Nat):Int);let z5:=List.map Bk q1.out;Bc (decide (z4<n)) ((wI (z4-1))∧(wI (z4-1))∧El (q1.out[Int.toNat (z4-1)]?) fun x1=>(let z1:=List.set q1.out (Int.toNat (z4-1)) (IntKind.u8.wrap (x1+128));let z2:=q1.out[Int.toNat (z4-1)]? =some x1;(z4-1<z4)∧((0:Int)≤z4-1)∧z2∧(z4-1<z4)∧((0:Int)≤z4-1)∧z2∧(List.length z1+List.length [0]≤Bn)∧z8.Nxt q1 [(1,.v (vI n)),(5,.v (vO 0))] [.lst .u8 (z1++[0])])) (((List.length (z5:List UInt8)≤10))∧Lf (.v (vT z5)) (.v (vT z5)) [] []))))) Q4 ?_
 refine⟨(Uf _ Q2),Q2,(Bw _ _ _),fun h1=>have q1:=Aq h1;have p1:=A7 q1;?_,fun h1=>have q1:=Ao h1;have p1:=Aw q1;?_⟩
 exact⟨Q5,rfl,rfl⟩
 refine⟨Cm (j:=(⟨List.map (fun b=>(UInt8.toNat b:Int)) (Dz u)⟩:Na)) rfl rfl (by dsimp only[Nb];exact⟨by simp;omega,by simp;omega⟩),fun (q1:Na) hq_q1=>?_⟩
 have hi_q1:1≤List.length q1.out∧List.length q1.out≤10:=hq_q1
 obtain ⟨v1,v2⟩:=hi_q1
 refine dsp (fun h2 p2=>?_) fun h2 p2=>?_
 refine⟨(Af Q2 Q2),(Af Q2 Q2),(Bo (l:=q1.out) (i:=Int.toNat (((List.length q1.out:Nat):Int)-1)) Q2),fun x1 hx1=>?_⟩
 exact⟨Q2,Q2,hx1,Q2,Q2,hx1,(by simp only[List.length_set,List.length_cons,List.length_nil];omega),Be (j:=(⟨(List.set q1.out (Int.toNat (((List.length q1.out:Nat):Int)-1)) (IntKind.u8.wrap (x1+128)))++[0]⟩:Na)) rfl rfl (by dsimp only[Nb];exact⟨by simp,by simp;omega⟩) (by dsimp only[Nb];simp;omega)⟩
 exact⟨Q12,rfl,rfl⟩
structure Jw where
 x:Int
 c1:Cur
def F2 (c:Cur) (o:Jw):Prop:=Fun Tryz.prog 151 [vP 0] [.cells (Ck c)] (.v (.c (.int .u64 o.x))) [.cells (Ck o.c1)]
def Cv (c:Cur) (o:Jw):Prop:=(((0:Int)≤o.x∧o.x≤18446744073709551615)∧(A0 o.c1))∧F2 c o
structure Nc where
 c:Cur
 u:Int
 i:Nat
def Nd  :Fam:=⟨Nc,fun q1=>[(0,.v (vP 0)),(3,.v (.c (.int .u64 q1.u))),(4,.v (vI ((q1.i:Nat):Int)))],fun q1=>[.cells (Ck q1.c)],fun q1=>A0 q1.c∧q1.i≤8∧((0:Int)≤q1.u∧q1.u≤18446744073709551615),fun q1=>8-q1.i⟩
theorem Ld (c:Cur) (hp1:A0 c): ∃o:Jw,Cv c o:=by
 have hN:Bn=274877906944:=rfl
 refine B4 Tryz.func151 Q4 Q4 (w:=let z2:=Nd;(.intro (Aa c 4) fun o1=> .seg [.call [0] (.v (vI o1.x)) (Kc o1.c1)] (.br (.seg [.ty .u64] (.intro (Aa o1.c1 12) fun o2=> .seg [.call [0] (.v (vI o2.x)) (Kc o2.c1)] (.intro (Sx ([0,1,127,128,16383,16384,2147483647,4294967295,4294967296,9223372036854775807,9223372036854775808,18446744073709551615][Int.toNat o2.x]?)) fun x1=> .seg [.el .u64 x1] (.leaf (⟨x1,o2.c1⟩:Jw) [0])))) (.br (.seg [.at 0,.keep [0,3,4],.sel [0]] (.loop z2 fun q1=> .br (.intro (D4 q1.c) fun o2=> .seg [.call [0] (.v (vI o2.x)) (Kc o2.c1),.as 24 (.v (.c (.int .u64 o2.x))),.as 19 (.v (vI (((q1.i:Nat):Int)+1))),.at 0,.keep [0,3,4],.sel [0]] (.next)) (.leaf (⟨q1.u,q1.c⟩:Jw) [0]))) (.intro (Aa o1.c1 300) fun o2=> .seg [.call [0] (.v (vI o2.x)) (Kc o2.c1),.as 29 (.v (.c (.int .u64 o2.x)))] (.leaf (⟨o2.x,o2.c1⟩:Jw) [0])))),In (Aa c 4) fun o1=>((Aj c 4 o1)∧Bc (decide (o1.x=0)) (In (Aa o1.c1 12) fun o2=>((Aj o1.c1 12 o2)∧El ([0,1,127,128,16383,16384,2147483647,4294967295,4294967296,9223372036854775807,9223372036854775808,18446744073709551615][Int.toNat o2.x]?) fun x1=>((o2.x<((List.length [0,1,127,128,16383,16384,2147483647,4294967295,4294967296,9223372036854775807,9223372036854775808,18446744073709551615]:Nat):Int))∧((0:Int)≤o2.x)∧([0,1,127,128,16383,16384,2147483647,4294967295,4294967296,9223372036854775807,9223372036854775808,18446744073709551615][Int.toNat o2.x]? =some x1)∧(((0:Int)≤x1∧x1≤18446744073709551615)∧(A0 o2.c1))∧Lf (.v (.c (.int .u64 x1))) (.v (.c (.int .u64 x1))) (Kc o2.c1) (Kc o2.c1)))) (Bc (decide (o1.x=1)) (z2.Has [(0,.v (vP 0)),(3,.v (.c (.int .u64 0))),(4,.v (vI 0))] (Kc o1.c1)∧∀q1,z2.inv q1→(let z1:=((q1.i:Nat):Int);Bc (decide (z1<8)) (In (D4 q1.c) fun o2=>((Gu q1.c o2)∧(wU (o2.x))∧(wI (z1+1))∧z2.Nxt q1 [(0,.v (vP 0)),(3,.v (.c (.int .u64 (IntKind.u64.wrap ((IntKind.u64.wrap (256*q1.u))+o2.x))))),(4,.v (vI (z1+1)))] (Kc o2.c1))) ((((0:Int)≤q1.u∧q1.u≤18446744073709551615)∧(A0 q1.c))∧Lf (.v (.c (.int .u64 q1.u))) (.v (.c (.int .u64 q1.u))) (Kc q1.c) (Kc q1.c)))) (In (Aa o1.c1 300) fun o2=>((Aj o1.c1 300 o2)∧(wU (o2.x))∧(((0:Int)≤o2.x∧o2.x≤18446744073709551615)∧(A0 o2.c1))∧Lf (.v (.c (.int .u64 o2.x))) (.v (.c (.int .u64 o2.x))) (Kc o2.c1) (Kc o2.c1))))))) Q4 ?_
 refine⟨(Au c 4 Q0),fun o1 ho_o1=>?_⟩
 obtain ⟨⟨hp_o1_0,hp_o1_1,hp_o1_2,hp_o1_3⟩,hf_o1⟩:=ho_o1
 refine⟨hf_o1,dsp (fun h1 p1=>?_) fun h1 p1=>?_⟩
 refine⟨(Au o1.c1 12 Q0),fun o2 ho_o2=>?_⟩
 obtain ⟨⟨hp_o2_0,hp_o2_1,hp_o2_2,hp_o2_3⟩,hf_o2⟩:=ho_o2
 refine⟨hf_o2,(Bo (l:=[0,1,127,128,16383,16384,2147483647,4294967295,4294967296,9223372036854775807,9223372036854775808,18446744073709551615]) (i:=Int.toNat o2.x) Q5),fun x1 hx1=>?_⟩
 refine⟨Q5,Q2,?_⟩
 have hwx:=Ajz (by decide) hx1
 exact⟨hx1,⟨Q2,Q0⟩,rfl,rfl⟩
 refine dsp (fun h2 p2=>?_) fun h2 p2=>?_
 refine⟨Cm (j:=(⟨o1.c1,0,0⟩:Nc)) Q9 rfl (by dsimp only[Nd];exact⟨by assumption,by omega,by omega⟩),fun (q1:Nc) hq_q1=>?_⟩
 have hi_q1:A0 q1.c∧q1.i≤8∧((0:Int)≤q1.u∧q1.u≤18446744073709551615):=hq_q1
 obtain ⟨v1,v2,v3⟩:=hi_q1
 refine dsp (fun h3 p3=>?_) fun h3 p3=>?_
 refine⟨(M1 q1.c Q0),fun o2 ho_o2=>?_⟩
 obtain ⟨⟨hp_o2_0,hp_o2_1⟩,hf_o2⟩:=ho_o2
 exact⟨hf_o2,(Bs Q2 Q2),(Af Q2 Q2),Be (j:=(⟨o2.c1,IntKind.u64.wrap ((IntKind.u64.wrap (256*q1.u))+o2.x),q1.i+1⟩:Nc)) Q9 rfl (by dsimp only[Nd];exact⟨by assumption,by omega,Ahs _⟩) (by dsimp only[Nd];omega)⟩
 exact⟨⟨Q2,Q0⟩,rfl,rfl⟩
 refine⟨(Au o1.c1 300 Q0),fun o2 ho_o2=>?_⟩
 obtain ⟨⟨hp_o2_0,hp_o2_1,hp_o2_2,hp_o2_3⟩,hf_o2⟩:=ho_o2
 exact⟨hf_o2,(Bs Q2 Q2),⟨Q2,Q0⟩,rfl,rfl⟩
structure L8 where
 t:List UInt8
 c1:Cur
def As (c:Cur) (u:Int) (o:L8):Prop:=Fun Tryz.prog 150 [vP 0,.c (.int .u64 u)] [.cells (Ck c)] (.v (vT o.t)) [.cells (Ck o.c1)]
def Ad (c:Cur) (u:Int) (o:L8):Prop:=((List.length (o.t:List UInt8)≤10)∧(A0 o.c1))∧As c u o
theorem A9 (c:Cur) (u:Int) (hp1:A0 c) (hp2:(0:Int)≤u∧u≤18446744073709551615): ∃o:L8,Ad c u o:=by
 have hN:Bn=274877906944:=rfl
 have hpl:=V4 hp2
 have hvl:Ku u=(((Dz u).length:Nat):Int):=rfl
 refine B4 Tryz.func150 Q4 Q4 (w:=let z3:S:= .v (vT (Dz u));let z4:=List.length ((Dz u):List UInt8)≤10;(.intro (Am c 4) fun o1=> .seg [.call [0] (.v (vB o1.p)) (Kc o1.c1)] (.br (.seg [.call [] (.v (vI (Ku u))) []] (.intro (Aa o1.c1 3) fun o2=> .seg [.call [0] (.v (vI o2.x)) (Kc o2.c1),.as 13 (.v (vI ((Ku u)+o2.x)))] (.intro (S8 u ((Ku u)+o2.x)) fun o3=> .seg [.call [] (.v (vT o3.t)) []] (.br (.leaf (⟨o3.t,o2.c1⟩:L8) [0]) (.seg [.call [] z3 []] (.leaf (⟨Dz u,o2.c1⟩:L8) [0])))))) (.seg [.call [] z3 []] (.leaf (⟨Dz u,o1.c1⟩:L8) [0]))),In (Am c 4) fun o1=>((Bg c 4 o1)∧Bc o1.p ((Fp 201 [.c (.int .u64 u)] [] (.v (vI (Ku u))) [])∧In (Aa o1.c1 3) fun o2=>(let z1:List Blk:=(Kc o2.c1);let z2:=(Ku u)+o2.x;(Aj o1.c1 3 o2)∧(wI z2)∧In (S8 u z2) fun o3=>((Xs u z2 o3)∧Bc (!decide (o3.t=[])) (((List.length (o3.t:List UInt8)≤10)∧(A0 o2.c1))∧Lf (.v (vT o3.t)) (.v (vT o3.t)) z1 z1) ((Fp 202 [.c (.int .u64 u)] [] z3 [])∧(z4∧(A0 o2.c1))∧Lf z3 z3 z1 z1)))) ((Fp 202 [.c (.int .u64 u)] [] z3 [])∧(z4∧(A0 o1.c1))∧Lf z3 z3 (Kc o1.c1) (Kc o1.c1))))) Q4 ?_
 refine⟨(Bx c 4 Q0),fun o1 ho_o1=>?_⟩
 obtain ⟨hp_o1,hf_o1⟩:=ho_o1
 refine⟨hf_o1,fun h1=>?_,fun h1=>?_⟩
 refine⟨(Aj0 _ Q2),(Au o1.c1 3 Q0),fun o2 ho_o2=>?_⟩
 obtain ⟨⟨hp_o2_0,hp_o2_1,hp_o2_2,hp_o2_3⟩,hf_o2⟩:=ho_o2
 refine⟨hf_o2,(Af Q2 Q2),(Aj1 u ((Ku u)+o2.x) Q2),fun o3 ho_o3=>?_⟩
 obtain ⟨hp_o3,hf_o3⟩:=ho_o3
 refine⟨hf_o3,fun h2=>have q2:=Aq h2;have p2:=of_decide_eq_false q2;?_,fun h2=>have q2:=Ao h2;have p2:=of_decide_eq_true q2;?_⟩
 exact⟨⟨Q2,Q0⟩,rfl,rfl⟩
 exact⟨(Uf _ Q2),⟨Q2,Q0⟩,rfl,rfl⟩
 exact⟨(Uf _ Q2),⟨Q2,Q0⟩,rfl,rfl⟩
structure Je where
 x:Int
 c1:Cur
def Pg (c:Cur) (o:Je):Prop:=Fun Tryz.prog 176 [vP 0] [.cells (Ck c)] (.v (vI o.x)) [.cells (Ck o.c1)]
def Ph (c:Cur) (o:Je):Prop:=((A0 o.c1))∧Pg c o
theorem Aem (c:Cur) (hp1:A0 c): ∃o:Je,Ph c o:=by
 have hN:Bn=274877906944:=rfl
 refine B4 Tryz.func176 Q4 Q4 (w:=(.intro (Am c 4) fun o1=> .seg [.call [0] (.v (vB o1.p)) (Kc o1.c1)] (.br (.seg [.ty .int,.pubS 6] (.intro (B3 o1.c1 [0,1,(-1),18999,19000,19999,20000,536870911,536870912,9223372036854775807]) fun o2=> .seg [.call [0] (.v (vI o2.x)) (Kc o2.c1)] (.leaf (⟨o2.x,o2.c1⟩:Je) [0]))) (.intro (Aa o1.c1 20) fun o2=> .seg [.call [0] (.v (vI o2.x)) (Kc o2.c1),.as 10 (.v (vI (1+o2.x)))] (.leaf (⟨1+o2.x,o2.c1⟩:Je) [0]))),In (Am c 4) fun o1=>((Bg c 4 o1)∧Bc o1.p (In (B3 o1.c1 [0,1,(-1),18999,19000,19999,20000,536870911,536870912,9223372036854775807]) fun o2=>((Dk o1.c1 [0,1,(-1),18999,19000,19999,20000,536870911,536870912,9223372036854775807] o2)∧((A0 o2.c1))∧Lf (.v (vI o2.x)) (.v (vI o2.x)) (Kc o2.c1) (Kc o2.c1))) (In (Aa o1.c1 20) fun o2=>((Aj o1.c1 20 o2)∧(wI (1+o2.x))∧((A0 o2.c1))∧Lf (.v (vI (1+o2.x))) (.v (vI (1+o2.x))) (Kc o2.c1) (Kc o2.c1)))))) Q4 ?_
 refine⟨(Bx c 4 Q0),fun o1 ho_o1=>?_⟩
 obtain ⟨hp_o1,hf_o1⟩:=ho_o1
 refine⟨hf_o1,fun h1=>?_,fun h1=>?_⟩
 refine⟨(Fn o1.c1 [0,1,(-1),18999,19000,19999,20000,536870911,536870912,9223372036854775807] Q0 Q5 Q5),fun o2 ho_o2=>?_⟩
 obtain ⟨⟨hp_o2_0,hp_o2_1⟩,hf_o2⟩:=ho_o2
 exact⟨hf_o2,Q0,rfl,rfl⟩
 refine⟨(Au o1.c1 20 Q0),fun o2 ho_o2=>?_⟩
 obtain ⟨⟨hp_o2_0,hp_o2_1,hp_o2_2,hp_o2_3⟩,hf_o2⟩:=ho_o2
 exact⟨hf_o2,(Af Q2 Q2),Q0,rfl,rfl⟩
theorem Ac7 {t:List UInt8} {l:List (List UInt8)} {n:Nat} (h:t∈l) (hl:(l.all fun x=>decide (x.length≤n))=true):t.length≤n:=by
 have:=List.all_eq_true.1 hl t h
 simpa using this
structure P5 where
 t:List UInt8
 c1:Cur
def Xt (c:Cur) (l:List (List UInt8)) (o:P5):Prop:=Fun Tryz.prog 178 [vP 0,.c (.seq .str l)] [.cells (Ck c)] (.v (vT o.t)) [.cells (Ck o.c1)]
def S9 (c:Cur) (l:List (List UInt8)) (o:P5):Prop:=((o.t∈l)∧(A0 o.c1))∧Xt c l o
theorem Aj2 (c:Cur) (l:List (List UInt8)) (hp1:A0 c) (hp2:1≤List.length l) (hp3:List.length l≤1000): ∃o:P5,S9 c l o:=by
 have hN:Bn=274877906944:=rfl
 refine B4 Tryz.func178 Q4 Q4 (w:=let z1:=((List.length l:Nat):Int);(.intro (Aa c z1) fun o1=> .seg [.call [0] (.v (vI o1.x)) (Kc o1.c1)] (.intro (Sx (l[Int.toNat o1.x]?)) fun x1=> .seg [.el .str x1] (.leaf (⟨x1,o1.c1⟩:P5) [0])),In (Aa c z1) fun o1=>((Aj c z1 o1)∧El (l[Int.toNat o1.x]?) fun x1=>((l[Int.toNat o1.x]? =some x1)∧((0:Int)≤o1.x)∧((x1∈l)∧(A0 o1.c1))∧Lf (.v (vT x1)) (.v (vT x1)) (Kc o1.c1) (Kc o1.c1))))) Q4 ?_
 refine⟨(Au c ((List.length l:Nat):Int) Q0),fun o1 ho_o1=>?_⟩
 obtain ⟨⟨hp_o1_0,hp_o1_1,hp_o1_2,hp_o1_3⟩,hf_o1⟩:=ho_o1
 refine⟨hf_o1,(Bo (l:=l) (i:=Int.toNat o1.x) Q2),fun x1 hx1=>?_⟩
 exact⟨hx1,Q2,⟨(List.mem_of_getElem? hx1),Q0⟩,rfl,rfl⟩
structure Kj where
 t:List UInt8
 c1:Cur
def Rg (c:Cur) (s:List UInt8) (o:Kj):Prop:=Fun Tryz.prog 203 [vP 0,vT s] [.cells (Ck c)] (.v (vT o.t)) [.cells (Ck o.c1)]
def Kk (c:Cur) (s:List UInt8) (o:Kj):Prop:=((List.length (o.t:List UInt8)≤List.length s+2)∧(A0 o.c1))∧Rg c s o
theorem Aai (c:Cur) (s:List UInt8) (hp1:A0 c) (hp2:List.length s≤1000000): ∃o:Kj,Kk c s o:=by
 have hN:Bn=274877906944:=rfl
 have hml:List.length (List.map (fun b=>(UInt8.toNat b:Int)) s)=List.length s:=by simp
 refine B4 Tryz.func203 Q4 Q4 (w:=let z6:=List.map (fun b=>(UInt8.toNat b:Int)) s;let z7:=((List.length z6:Nat):Int);(.br (.intro (Bp c 2) fun o1=> .seg [.call [0] (.v (vO 1)) [.cells (Ck o1.c1),.lst .u8 o1.l]] (.leaf (⟨List.map Bk o1.l,o1.c1⟩:Kj) [0])) (.intro (Aa c z7) fun o1=> .seg [.call [0] (.v (vI o1.x)) (Kc o1.c1)] (.intro (Sx (z6[Int.toNat o1.x]?)) fun x1=> .intro (Aa o1.c1 255) fun o2=> .seg [.ord (os 13 [7,12]) [0],.el .u8 x1,.call [0] (.v (vI o2.x)) (Kc o2.c1),.as 26 (.v (vI (1+o2.x))),.as 27 (.v (.c (.int .u8 (1+o2.x)))),.el .u8 x1] (.leaf (⟨List.map Bk (List.set z6 (Int.toNat o1.x) (IntKind.u8.wrap (((BitVec.ofInt 8 x1 ^^^ BitVec.ofInt 8 (1+o2.x)).toNat:Nat)))),o2.c1⟩:Kj) [0]))),Bc (decide (s=[])) (In (Bp c 2) fun o1=>(let z1:=List.map Bk o1.l;(C1 c 2 o1)∧((List.length (z1:List UInt8)≤List.length s+2)∧(A0 o1.c1))∧Lf (.v (vT z1)) (.v (vT z1)) (Kc o1.c1) (Kc o1.c1))) (In (Aa c z7) fun o1=>(let z4:=o1.x<z7;let z5:=(0:Int)≤o1.x;(List.length s≤Bn)∧(Aj c z7 o1)∧El (z6[Int.toNat o1.x]?) fun x1=>(let z3:=z6[Int.toNat o1.x]? =some x1;In (Aa o1.c1 255) fun o2=>(let z2:=List.map Bk (List.set z6 (Int.toNat o1.x) (IntKind.u8.wrap (((BitVec.ofInt 8 x1 ^^^ BitVec.ofInt 8 (1+o2.x)).toNat:Nat))));z4∧z5∧z4∧z5∧z3∧z3∧(Aj o1.c1 255 o2)∧(wI (1+o2.x))∧((.v (.c (.int .u8 (IntKind.u8.wrap (1+o2.x)))):S)= .v (.c (.int .u8 (1+o2.x))))∧z4∧z5∧z4∧z5∧z3∧((List.length (z2:List UInt8)≤List.length s+2)∧(A0 o2.c1))∧Lf (.v (vT z2)) (.v (vT z2)) (Kc o2.c1) (Kc o2.c1))))))) Q4 ?_
 refine dsp (fun h1 p1=>?_) fun h1 p1=>?_
 refine⟨(Eg c 2 Q0 Q2),fun o1 ho_o1=>?_⟩
 obtain ⟨⟨hp_o1_0,hp_o1_1⟩,hf_o1⟩:=ho_o1
 exact⟨hf_o1,⟨Q12,Q0⟩,rfl,rfl⟩
 have hne:1≤List.length s:=List.length_pos_iff.2 (by simpa using p1)
 refine⟨(Au c ((List.length (List.map (fun b=>(UInt8.toNat b:Int)) s):Nat):Int) Q0),fun o1 ho_o1=>?_⟩
 refine⟨Q2,?_⟩
 obtain ⟨⟨hp_o1_0,hp_o1_1,hp_o1_2,hp_o1_3⟩,hf_o1⟩:=ho_o1
 refine⟨hf_o1,(Bo (l:=List.map (fun b=>(UInt8.toNat b:Int)) s) (i:=Int.toNat o1.x) Q12),fun x1 hx1=>?_⟩
 refine⟨(Au o1.c1 255 Q0),fun o2 ho_o2=>?_⟩
 obtain ⟨⟨hp_o2_0,hp_o2_1,hp_o2_2,hp_o2_3⟩,hf_o2⟩:=ho_o2
 exact⟨Q12,Q2,Q12,Q2,hx1,hx1,hf_o2,(Af Q2 Q2),(P9 Q2 Q2),Q12,Q2,Q12,Q2,hx1,⟨(by simp only[List.length_set,List.length_map];omega),Q0⟩,rfl,rfl⟩
structure Eb where
 t:List UInt8
def Tw (n:Int) (o:Eb):Prop:=Fun Tryz.prog 227 [vI n] [] (.v (vT o.t)) []
def Pi (n:Int) (o:Eb):Prop:=((List.length (o.t:List UInt8)≤4))∧Tw n o
theorem Aen (n:Int): ∃o:Eb,Pi n o:=by
 have hN:Bn=274877906944:=rfl
 have t64:0≤n→Int.tdiv n 64=n / 64:=fun h=>Int.tdiv_eq_ediv_of_nonneg h
 have t4096:0≤n→Int.tdiv n 4096=n / 4096:=fun h=>Int.tdiv_eq_ediv_of_nonneg h
 have t262144:0≤n→Int.tdiv n 262144=n / 262144:=fun h=>Int.tdiv_eq_ediv_of_nonneg h
 refine B4 Tryz.func227 Q4 Q4 (w:=let z2:=Int.tmod n 64;let z3:=Int.tdiv n 4096;let z4:=Int.tdiv n 64;let z1:=Int.tmod z4 64;let z7:=Int.tdiv n 262144;let z5:=List.map Bk [240+z7,128+(Int.tmod z3 64),128+z1,128+z2];let z8:=(64:Int)≠0;let z9:=List.map Bk [224+z3,128+z1,128+z2];let z10:=128+(Int.tmod z3 64);let z12:=((List.length ([]:List UInt8)≤4))∧Lf (.v (vT [])) (.v (vT [])) [] [];let z13:=128+z2;let z6:=(.v (.c (.int .u8 (IntKind.u8.wrap z13))):S)= .v (.c (.int .u8 z13));let z14:=List.map Bk [192+z4,128+z2];let z15:=128+z1;let z11:=(.v (.c (.int .u8 (IntKind.u8.wrap z15))):S)= .v (.c (.int .u8 z15));let z16:S:= .v (.c (.int .u8 z13));let z17:=Ai n 55296 57343;let z18:=List.map Bk [n];let z19:=Ai n 0 1114111;(.seg [.call [] (.v (vB z19)) []] (.br (.leaf (⟨[]⟩:Eb) []) (.seg [.call [] (.v (vB z17)) []] (.br (.leaf (⟨[]⟩:Eb) []) (.br (.seg [.as 15 (.v (.c (.int .u8 n))),.ty .u8] (.leaf (⟨List.map Bk [n]⟩:Eb) [])) (.br (.seg [.as 22 (.v (vI z4)),.as 23 (.v (vI (192+z4))),.as 24 (.v (.c (.int .u8 (192+z4)))),.as 27 (.v (vI z13)),.as 28 z16,.ty .u8] (.leaf (⟨List.map Bk [192+z4,128+z2]⟩:Eb) [])) (.br (.seg [.as 35 (.v (vI z3)),.as 36 (.v (vI (224+z3))),.as 37 (.v (.c (.int .u8 (224+z3)))),.as 39 (.v (vI z4)),.as 41 (.v (vI z15)),.as 42 (.v (.c (.int .u8 z15))),.as 45 (.v (vI z13)),.as 46 z16,.ty .u8] (.leaf (⟨List.map Bk [224+z3,128+z1,128+z2]⟩:Eb) [])) (.seg [.as 50 (.v (vI z7)),.as 51 (.v (vI (240+z7))),.as 52 (.v (.c (.int .u8 (240+z7)))),.as 54 (.v (vI z3)),.as 56 (.v (vI z10)),.as 57 (.v (.c (.int .u8 z10))),.as 59 (.v (vI z4)),.as 61 (.v (vI z15)),.as 62 (.v (.c (.int .u8 z15))),.as 65 (.v (vI z13)),.as 66 z16,.ty .u8] (.leaf (⟨List.map Bk [240+z7,128+(Int.tmod z3 64),128+z1,128+z2]⟩:Eb) [])))))))),(Fp 44 [vI n,vI 0,vI 1114111] [] (.v (vB z19)) [])∧Bc (!z19) z12 ((Fp 44 [vI n,vI 55296,vI 57343] [] (.v (vB z17)) [])∧Bc z17 z12 (Bc (decide (n<128)) (((.v (.c (.int .u8 (IntKind.u8.wrap (n)))):S)= .v (.c (.int .u8 n)))∧((List.length (z18:List UInt8)≤4))∧Lf (.v (vT z18)) (.v (vT z18)) [] []) (Bc (decide (n<2048)) (z8∧(wI z4)∧(wI (192+z4))∧((.v (.c (.int .u8 (IntKind.u8.wrap (192+z4)))):S)= .v (.c (.int .u8 (192+z4))))∧z8∧(wI z13)∧z6∧((List.length (z14:List UInt8)≤4))∧Lf (.v (vT z14)) (.v (vT z14)) [] []) (Bc (decide (n<65536)) (((4096:Int)≠0)∧(wI z3)∧(wI (224+z3))∧((.v (.c (.int .u8 (IntKind.u8.wrap (224+z3)))):S)= .v (.c (.int .u8 (224+z3))))∧z8∧(wI z4)∧z8∧(wI z15)∧z11∧z8∧(wI z13)∧z6∧((List.length (z9:List UInt8)≤4))∧Lf (.v (vT z9)) (.v (vT z9)) [] []) (((262144:Int)≠0)∧(wI z7)∧(wI (240+z7))∧((.v (.c (.int .u8 (IntKind.u8.wrap (240+z7)))):S)= .v (.c (.int .u8 (240+z7))))∧((4096:Int)≠0)∧(wI z3)∧z8∧(wI z10)∧((.v (.c (.int .u8 (IntKind.u8.wrap z10))):S)= .v (.c (.int .u8 z10)))∧z8∧(wI z4)∧z8∧(wI z15)∧z11∧z8∧(wI z13)∧z6∧((List.length (z5:List UInt8)≤4))∧Lf (.v (vT z5)) (.v (vT z5)) [] []))))))) Q4 ?_
 refine⟨(Bw _ _ _),fun h1=>have q1:=Aq h1;have p1:=A7 q1;?_,fun h1=>have q1:=Ao h1;have p1:=Aw q1;?_⟩
 exact⟨(by simp),rfl,rfl⟩
 refine⟨(Bw _ _ _),fun h2=>have p2:=Aw h2;?_,fun h2=>have p2:=A7 h2;?_⟩
 exact⟨(by simp),rfl,rfl⟩
 refine dsp (fun h3 p3=>?_) fun h3 p3=>?_
 exact⟨(P9 Q2 Q2),(by simp),rfl,rfl⟩
 refine dsp (fun h4 p4=>?_) fun h4 p4=>?_
 exact⟨Q18,(Af Q2 Q2),(Af Q2 Q2),(P9 Q2 Q2),Q18,(Af Q39 Q39),(P9 Q39 Q39),(by simp),rfl,rfl⟩
 refine dsp (fun h5 p5=>?_) fun h5 p5=>?_
 exact⟨Q18,(Af Q2 Q2),(Af Q2 Q2),(P9 Q2 Q2),Q18,(Af Q2 Q2),Q18,(Af Q40 Q40),(P9 Q40 Q40),Q18,(Af Q39 Q39),(P9 Q39 Q39),(by simp),rfl,rfl⟩
 exact⟨Q18,(Af Q2 Q2),(Af Q2 Q2),(P9 Q2 Q2),Q18,(Af Q2 Q2),Q18,(Af Q54 Q54),(P9 Q54 Q54),Q18,(Af Q2 Q2),Q18,(Af Q40 Q40),(P9 Q40 Q40),Q18,(Af Q39 Q39),(P9 Q39 Q39),(by simp),rfl,rfl⟩
structure P6 where
 x:Int
 c1:Cur
def Xu (c:Cur) (o:P6):Prop:=Fun Tryz.prog 228 [vP 0] [.cells (Ck c)] (.v (vI o.x)) [.cells (Ck o.c1)]
def Ta (c:Cur) (o:P6):Prop:=((A0 o.c1))∧Xu c o
theorem Aj3 (c:Cur) (hp1:A0 c): ∃o:P6,Ta c o:=by
 have hN:Bn=274877906944:=rfl
 refine B4 Tryz.func228 Q4 Q4 (w:=(.intro (Aa c 1114112) fun o1=> .seg [.call [0] (.v (vI o1.x)) (Kc o1.c1),.ty .int,.pubS 6] (.intro (B3 o1.c1 [0,65,127,128,2047,2048,4095,55295,57344,65535,65536,1114111,o1.x]) fun o2=> .seg [.call [0] (.v (vI o2.x)) (Kc o2.c1)] (.leaf (⟨o2.x,o2.c1⟩:P6) [0])),In (Aa c 1114112) fun o1=>((Aj c 1114112 o1)∧In (B3 o1.c1 [0,65,127,128,2047,2048,4095,55295,57344,65535,65536,1114111,o1.x]) fun o2=>((Dk o1.c1 [0,65,127,128,2047,2048,4095,55295,57344,65535,65536,1114111,o1.x] o2)∧((A0 o2.c1))∧Lf (.v (vI o2.x)) (.v (vI o2.x)) (Kc o2.c1) (Kc o2.c1))))) Q4 ?_
 refine⟨(Au c 1114112 Q0),fun o1 ho_o1=>?_⟩
 obtain ⟨⟨hp_o1_0,hp_o1_1,hp_o1_2,hp_o1_3⟩,hf_o1⟩:=ho_o1
 refine⟨hf_o1,(Fn o1.c1 [0,65,127,128,2047,2048,4095,55295,57344,65535,65536,1114111,o1.x] Q0 Q5 Q5),fun o2 ho_o2=>?_⟩
 obtain ⟨⟨hp_o2_0,hp_o2_1⟩,hf_o2⟩:=ho_o2
 exact⟨hf_o2,Q0,rfl,rfl⟩
structure P7 where
 t:List UInt8
 c1:Cur
def Tb (c:Cur) (n:Int) (o:P7):Prop:=Fun Tryz.prog 213 [vP 0,vI n] [.cells (Ck c)] (.v (vT o.t)) [.cells (Ck o.c1)]
def L9 (c:Cur) (n:Int) (o:P7):Prop:=((List.length (o.t:List UInt8)≤4*Int.toNat n)∧(A0 o.c1))∧Tb c n o
structure Nf where
 c:Cur
 s:List UInt8
 i:Nat
def Ng (n:Int):Fam:=⟨Nf,fun q1=>[(0,.v (vP 0)),(1,.v (vI n)),(5,.v (vT q1.s)),(6,.v (vI ((q1.i:Nat):Int)))],fun q1=>[.cells (Ck q1.c)],fun q1=>A0 q1.c∧(q1.i=0∨((q1.i:Nat):Int)≤n)∧List.length q1.s≤4*q1.i,fun q1=>Int.toNat n-q1.i⟩
theorem Ac8 (c:Cur) (n:Int) (hp1:A0 c) (hp2:n≤1000): ∃o:P7,L9 c n o:=by
 have hN:Bn=274877906944:=rfl
 refine B4 Tryz.func213 Q4 Q4 (w:=let z2:=Ng n;(.seg [.at 0,.keep [0,1,5,6],.sel [0]] (.loop z2 fun q1=> .br (.intro (Ta q1.c) fun o1=> .seg [.call [0] (.v (vI o1.x)) (Kc o1.c1)] (.intro (Pi o1.x) fun o2=> .seg [.call [] (.v (vT o2.t)) [],.as 11 (.v (vI (((q1.i:Nat):Int)+1))),.at 0,.keep [0,1,5,6],.sel [0]] (.next))) (.leaf (⟨q1.s,q1.c⟩:P7) [0])),z2.Has [(0,.v (vP 0)),(1,.v (vI n)),(5,.v (vT [])),(6,.v (vI 0))] (Kc c)∧∀q1,z2.inv q1→(let z1:=((q1.i:Nat):Int);Bc (decide (z1<n)) (In (Ta q1.c) fun o1=>((Xu q1.c o1)∧In (Pi o1.x) fun o2=>((Tw o1.x o2)∧(((List.length q1.s+List.length o2.t:Nat):Int)≤Bb)∧(wI (z1+1))∧z2.Nxt q1 [(0,.v (vP 0)),(1,.v (vI n)),(5,.v (vT (q1.s++o2.t))),(6,.v (vI (z1+1)))] (Kc o1.c1)))) (((List.length (q1.s:List UInt8)≤4*Int.toNat n)∧(A0 q1.c))∧Lf (.v (vT q1.s)) (.v (vT q1.s)) (Kc q1.c) (Kc q1.c))))) Q4 ?_
 refine⟨Cm (j:=(⟨c,[],0⟩:Nf)) Q9 rfl (by dsimp only[Ng];exact⟨by assumption,.inl rfl,by simp⟩),fun (q1:Nf) hq_q1=>?_⟩
 have hi_q1:A0 q1.c∧(q1.i=0∨((q1.i:Nat):Int)≤n)∧List.length q1.s≤4*q1.i:=hq_q1
 obtain ⟨v1,v2,v3⟩:=hi_q1
 refine dsp (fun h1 p1=>?_) fun h1 p1=>?_
 refine⟨(Aj3 q1.c Q0),fun o1 ho_o1=>?_⟩
 obtain ⟨hp_o1,hf_o1⟩:=ho_o1
 refine⟨hf_o1,(Aen o1.x),fun o2 ho_o2=>?_⟩
 obtain ⟨hp_o2,hf_o2⟩:=ho_o2
 exact⟨hf_o2,(by simp only[Bb];omega),(Af Q2 Q2),Be (j:=(⟨o1.c1,q1.s++o2.t,q1.i+1⟩:Nf)) Q9 rfl (by dsimp only[Ng];exact⟨by assumption,by omega,by simp;omega⟩) (by dsimp only[Ng];omega)⟩
 exact⟨⟨Q2,Q0⟩,rfl,rfl⟩
structure Hv where
 t:List UInt8
 c1:Cur
def Xv (c:Cur) (o:Hv):Prop:=Fun Tryz.prog 174 [vP 0] [.cells (Ck c)] (.v (vT o.t)) [.cells (Ck o.c1)]
def Tc (c:Cur) (o:Hv):Prop:=((List.length (o.t:List UInt8)≤16)∧(A0 o.c1))∧Xv c o
theorem Aj4 (c:Cur) (hp1:A0 c): ∃o:Hv,Tc c o:=by
 have hN:Bn=274877906944:=rfl
 refine B4 Tryz.func174 Q4 Q4 (w:=(.intro (Aa c 4) fun o1=> .seg [.call [0] (.v (vI o1.x)) (Kc o1.c1)] (.intro (L9 o1.c1 o1.x) fun o2=>let z2:=((List.length o2.t:Nat):Int)+1;.seg [.call [0] (.v (vT o2.t)) (Kc o2.c1)] (.intro (Aa o2.c1 4) fun o3=> .seg [.call [0] (.v (vI o3.x)) (Kc o3.c1)] (.br (.intro (Kk o3.c1 o2.t) fun o4=> .seg [.call [0] (.v (vT o4.t)) (Kc o4.c1)] (.leaf (⟨o4.t,o4.c1⟩:Hv) [0])) (.br (.seg [.as 21 (.v (vI z2))] (.intro (Aa o3.c1 z2) fun o4=> .seg [.call [0] (.v (vI o4.x)) (Kc o4.c1)] (.leaf (⟨List.take (Int.toNat o4.x) o2.t,o4.c1⟩:Hv) [0]))) (.br (.seg [.ty .str,.pubS 28] (.intro (S9 o3.c1 [[128],[192,128],[224,159,191],[237,160,128],[240,143,191,191],[244,144,128,128],[245],[255],[226,130],[193,191]]) fun o4=> .seg [.call [0] (.v (vT o4.t)) (Kc o4.c1)] (.leaf (⟨o2.t++o4.t,o4.c1⟩:Hv) [0]))) (.leaf (⟨o2.t,o3.c1⟩:Hv) [0])))))),In (Aa c 4) fun o1=>((Aj c 4 o1)∧In (L9 o1.c1 o1.x) fun o2=>(let z3:=((List.length o2.t:Nat):Int);(Tb o1.c1 o1.x o2)∧In (Aa o2.c1 4) fun o3=>((Aj o2.c1 4 o3)∧Bc (decide (o3.x=0)) (In (Kk o3.c1 o2.t) fun o4=>((Rg o3.c1 o2.t o4)∧((List.length (o4.t:List UInt8)≤16)∧(A0 o4.c1))∧Lf (.v (vT o4.t)) (.v (vT o4.t)) (Kc o4.c1) (Kc o4.c1))) (Bc (decide (o3.x=1)) ((wI (z3+1))∧In (Aa o3.c1 (z3+1)) fun o4=>(let z1:=List.take (Int.toNat o4.x) o2.t;(Aj o3.c1 (z3+1) o4)∧(o4.x≤z3)∧((0:Int)≤o4.x)∧((List.length (z1:List UInt8)≤16)∧(A0 o4.c1))∧Lf (.v (vT z1)) (.v (vT z1)) (Kc o4.c1) (Kc o4.c1))) (Bc (decide (o3.x=2)) (In (S9 o3.c1 [[128],[192,128],[224,159,191],[237,160,128],[240,143,191,191],[244,144,128,128],[245],[255],[226,130],[193,191]]) fun o4=>((Xt o3.c1 [[128],[192,128],[224,159,191],[237,160,128],[240,143,191,191],[244,144,128,128],[245],[255],[226,130],[193,191]] o4)∧(((List.length o2.t+List.length o4.t:Nat):Int)≤Bb)∧((List.length ((o2.t++o4.t):List UInt8)≤16)∧(A0 o4.c1))∧Lf (.v (vT (o2.t++o4.t))) (.v (vT (o2.t++o4.t))) (Kc o4.c1) (Kc o4.c1))) (((List.length (o2.t:List UInt8)≤16)∧(A0 o3.c1))∧Lf (.v (vT o2.t)) (.v (vT o2.t)) (Kc o3.c1) (Kc o3.c1))))))))) Q4 ?_
 refine⟨(Au c 4 Q0),fun o1 ho_o1=>?_⟩
 obtain ⟨⟨hp_o1_0,hp_o1_1,hp_o1_2,hp_o1_3⟩,hf_o1⟩:=ho_o1
 refine⟨hf_o1,(Ac8 o1.c1 o1.x Q0 Q2),fun o2 ho_o2=>?_⟩
 obtain ⟨⟨hp_o2_0,hp_o2_1⟩,hf_o2⟩:=ho_o2
 refine⟨hf_o2,(Au o2.c1 4 Q0),fun o3 ho_o3=>?_⟩
 obtain ⟨⟨hp_o3_0,hp_o3_1,hp_o3_2,hp_o3_3⟩,hf_o3⟩:=ho_o3
 refine⟨hf_o3,dsp (fun h1 p1=>?_) fun h1 p1=>?_⟩
 refine⟨(Aai o3.c1 o2.t Q0 Q2),fun o4 ho_o4=>?_⟩
 obtain ⟨⟨hp_o4_0,hp_o4_1⟩,hf_o4⟩:=ho_o4
 exact⟨hf_o4,⟨Q2,Q0⟩,rfl,rfl⟩
 refine dsp (fun h2 p2=>?_) fun h2 p2=>?_
 refine⟨(Af Q2 Q2),(Au o3.c1 (((List.length o2.t:Nat):Int)+1) Q0),fun o4 ho_o4=>?_⟩
 obtain ⟨⟨hp_o4_0,hp_o4_1,hp_o4_2,hp_o4_3⟩,hf_o4⟩:=ho_o4
 exact⟨hf_o4,Q2,Q2,⟨(by simp only[List.length_take];omega),Q0⟩,rfl,rfl⟩
 refine dsp (fun h3 p3=>?_) fun h3 p3=>?_
 refine⟨(Aj2 o3.c1 [[128],[192,128],[224,159,191],[237,160,128],[240,143,191,191],[244,144,128,128],[245],[255],[226,130],[193,191]] Q0 Q5 Q5),fun o4 ho_o4=>?_⟩
 obtain ⟨⟨hp_o4_0,hp_o4_1⟩,hf_o4⟩:=ho_o4
 exact⟨hf_o4,(by have:=Ac7 (n:=4) hp_o4_0 Q18;simp only[Bb];omega),⟨(by have:=Ac7 (n:=4) hp_o4_0 Q18;simp;omega),Q0⟩,rfl,rfl⟩
 exact⟨⟨Q2,Q0⟩,rfl,rfl⟩
end Go.Proofs.YtphecbmdhbphgaaGreat.Ax
