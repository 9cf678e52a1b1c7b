/- Drawn descriptions. Drawn plans. Drawn numbers. Drawn texts. -/
import Derived.Test.YtphecbmdhbphgaaGreatKFnPullOne6
set_option linter.unusedSimpArgs false
set_option linter.unusedVariables false
namespace Go.Proofs.YtphecbmdhbphgaaGreat.Ax
open Go.RowKit
theorem Ab4 {n:Int} (h:1≤n∧n≤18999∨20000≤n∧n≤536870911):Dr n=true:=by
 simp only[Dr,Ak,Bool.and_eq_true,Bool.not_eq_true',Bool.and_eq_false_iff,decide_eq_true_eq,decide_eq_false_iff_not]
 omega
theorem Ap4 {x:Int} (h:x∈([16,2047,2048,18999,20000,536870911]:List Int)):1≤x∧x≤18999∨20000≤x∧x≤536870911:=by
 simp at h
 omega
theorem Af4 {k:Int} (h:Dj k=true):k≤5:=by
 simp only[Dj,Ak,Bool.and_eq_true,decide_eq_true_eq] at h
 omega
theorem Akp {l:List Shp} {i:Nat} {x m:Shp} {k:Nat} (hx:x.fJ.length≤k) (hm:(l.set i x)[i]? =some m):m.fJ.length≤k:=by
 rw[List.getElem?_set] at hm
 simp at hm
 obtain ⟨_,rfl⟩:=hm
 exact hx
theorem Apg {x:Int} (h:x∈([16,2047,2048,18999,20000,536870911]:List Int)):x≠44:=by
 simp at h
 omega
structure Pd where
 r:Raw
 c1:Cur
def Xz (c:Cur) (o:Pd):Prop:=Fun Tryz.prog 197 [vP 0] [.cells (B1 c)] (.v (.agg [.own 1])) [.cells (B1 o.c1),.tree o.r.mQ]
def Sr (c:Cur) (o:Pd):Prop:=((RawK (List.length (o.r).mQ) (o.r).mQ)∧(As o.c1))∧Xz c o
structure Mg where
 c:Cur
 mQ:List Shp
 i:Nat
def Fz (o1:Co):Fam:=⟨Mg,fun q1=>[(0,.v (vP 0)),(2,.v (vP 1)),(3,.v (vP 2)),(4,.v (vI (1+o1.x))),(5,.v (vI ((q1.i:Nat):Int)))],fun q1=>[.cells (B1 q1.c),.cells [.nil],.cells [.own 3],.tree q1.mQ],fun q1=>As q1.c∧((q1.i:Nat):Int)≤1+o1.x∧List.length q1.mQ=q1.i∧G8 q1.mQ=List.take q1.i [5,1,99]∧∀m∈q1.mQ,m.fJ=[],fun q1=>3-q1.i⟩
structure Jv where
 c:Cur
 mQ:List Shp
 i:Nat
def F0 (o1:Co):Fam:=⟨Jv,fun q2=>[(0,.v (vP 0)),(2,.v (vP 1)),(3,.v (vP 2)),(4,.v (vI (1+o1.x))),(6,.v (vI ((q2.i:Nat):Int)))],fun q2=>[.cells (B1 q2.c),.cells [.nil],.cells [.own 3],.tree q2.mQ],fun q2=>As q2.c∧q2.i≤Int.toNat (1+o1.x)∧RawK (Int.toNat (1+o1.x)) q2.mQ∧∀j m,q2.i≤j→q2.mQ[j]? =some m→m.fJ=[],fun q2=>3-q2.i⟩
structure Bq where
 c:Cur
 mQ:List Shp
 k:Nat
def Jw (o1:Co) (q2:Jv) (o2:Co):Fam:=⟨Bq,fun q3=>[(0,.v (vP 0)),(2,.v (vP 1)),(3,.v (vP 2)),(4,.v (vI (1+o1.x))),(6,.v (vI ((q2.i:Nat):Int))),(7,.v (vI o2.x)),(8,.v (vI ((q3.k:Nat):Int)))],fun q3=>[.cells (B1 q3.c),.cells [.nil],.cells [.own 3],.tree q3.mQ],fun q3=>As q3.c∧q3.k≤5∧RawK (Int.toNat (1+o1.x)) q3.mQ∧(∀j m,q2.i<j→q3.mQ[j]? =some m→m.fJ=[])∧∀m,q3.mQ[q2.i]? =some m→List.length m.fJ≤q3.k,fun q3=>5-q3.k⟩
theorem Ai1 (c:Cur) (hp1:As c): ∃o:Pd,Sr c o:=by
 have hN:A7=274877906944:=rfl
 refine B4 Tryz.func197 Q4 Q4 (w:=let z80:=fr (.first 9 (.two 8 (.one 10 (.one 11 (.first 12 (.first 13 (.one 14 (.done)))))) 10 (.one 8 (.one 11 (.first 12 (.first 13 (.one 14 (.done)))))))) 0 8;let z81:=fr (.one 4 (.first 5 (.first 6 (.one 7 (.first 8 (.one 9 (.done))))))) 0 4;let z82:=os 10 [8];(.intro (Aa c 3) fun o1=>let z77:=1+o1.x;.sZ [.call [0] (.v (vI o1.x)) (Kc o1.c1),.as 13 (.v (vI z77)),.at 0,.mkT 2 0,.keep [0,2,3,4,5],.sel [0,1,2,3]] (.loop (Fz o1) fun q1=> .br (.intro (Sx ([5,1,99,7][q1.i]?)) fun x1=> .sZ [.tree (.first 0 (.first 1 (.first 3 (.one 2 (.first 4 (.one 5 (.first 6 (.one 7 (.one 8 (.first 9 (.one 10 (.done)))))))))))) 10 [3],.ty .int,.el .int x1,.tyT,.tyT,.at 0,.keep [0,2,3,4,5],.sel [0,1,2,6],.as 18 (.v (vI (((q1.i:Nat):Int)+1))),.at 0,.keep [0,2,3,4,5],.sel [0,1,2,3]] (.next)) (.sZ [.at 0,.keep [0,2,3,4,6],.sel [0,1,2,3]] (.loop (F0 o1) fun q2=> .br (.intro (Aa q2.c 6) fun o2=> .sZ [.call [0] (.v (vI o2.x)) (Kc o2.c1),.at 0,.keep [0,2,3,4,6,7,8],.sel [0,1,2,3]] (.loop (Jw o1 q2 o2) fun q3=>let z63:S:= .v (vI (((q3.k:Nat):Int)+1));let z64:=Sx (q3.mQ[q2.i]?);.br (.intro (Aa q3.c 12) fun o3=>let z61:=1+o3.x;.sZ [.call [0] (.v (vI o3.x)) (Kc o3.c1),.as 43 (.v (vI z61))] (.intro (Aa o3.c1 8) fun o4=> .sZ [.call [0] (.v (vI o4.x)) (Kc o4.c1),.as 46 (.v (vI (1+o4.x)))] (.intro (Aq o4.c1 2) fun o5=> .sZ [.call [0] (.v (vB o5.p)) (Kc o5.c1)] (.intro (Aq o5.c1 12) fun o6=> .sZ [.call [0] (.v (vB o6.p)) (Kc o6.c1)] (.br (.sZ [.ty .int,.pubS 53] (.intro (A0 o6.c1 [16,2047,2048,18999,20000,536870911]) fun o7=> .sZ [.call [0] (.v (vI o7.x)) (Kc o7.c1)] (.br (.sZ [.call [] (.v (vB (Dj (1+o4.x)))) []] (.br (.intro (Aq o7.c1 2) fun o8=> .sZ [.call [0] (.v (vB o8.p)) (Kc o8.c1)] (.br (.intro (Aa o8.c1 z77) fun o9=> .intro (Sx (q3.mQ[Int.toNat o9.x]?)) fun x1=> .sZ [.tree z81 9 [0],.call [0] (.v (vI o9.x)) (Kc o9.c1),.el .shp x1,.at 0,.keep [0,2,3,4,6,7,8,9],.sel [0,1,2,3,4]] (.intro z64 fun x2=> .take 20 3 q2.i x2 (.sZ [.ord z82 [],.call [] (.v (vB (Cn x2.fJ o7.x))) []] (.br (.sZ [.tree z80 14 [5],.ty .fld,.ty .fld,.el .shp x2,.at 0,.keep [0,2,3,4,6,7,8],.sel [0,1,2,3],.ty .fld,.ty .fld,.el .shp x2,.at 0,.keep [0,2,3,4,6,7,8],.sel [0,1,2,3],.as 40 z63,.at 0,.keep [0,2,3,4,6,7,8],.sel [0,1,2,3]] (.next)) (.give 13 3 x2 (.sZ [.as 40 z63,.at 0,.keep [0,2,3,4,6,7,8],.sel [0,1,2,3]] (.next))))))) (.intro z64 fun x1=> .take 20 3 q2.i x1 (.sZ [.ord z82 [],.call [] (.v (vB (Cn x1.fJ o7.x))) []] (.br (.sZ [.tree z80 14 [6],.ty .fld,.ty .fld,.el .shp x1,.at 0,.keep [0,2,3,4,6,7,8],.sel [0,1,2,3],.ty .fld,.ty .fld,.el .shp x1,.at 0,.keep [0,2,3,4,6,7,8],.sel [0,1,2,3],.as 40 z63,.at 0,.keep [0,2,3,4,6,7,8],.sel [0,1,2,3]] (.next)) (.give 13 3 x1 (.sZ [.as 40 z63,.at 0,.keep [0,2,3,4,6,7,8],.sel [0,1,2,3]] (.next)))))))) (.br (.intro (Aa o7.c1 z77) fun o8=> .intro (Sx (q3.mQ[Int.toNat o8.x]?)) fun x1=> .sZ [.tree z81 9 [0],.call [0] (.v (vI o8.x)) (Kc o8.c1),.el .shp x1,.at 0,.keep [0,2,3,4,6,7,8,9],.sel [0,1,2,3,4]] (.intro z64 fun x2=> .take 20 3 q2.i x2 (.sZ [.ord z82 [],.call [] (.v (vB (Cn x2.fJ o7.x))) []] (.br (.sZ [.tree z80 14 [5],.ty .fld,.ty .fld,.el .shp x2,.at 0,.keep [0,2,3,4,6,7,8],.sel [0,1,2,3],.ty .fld,.ty .fld,.el .shp x2,.at 0,.keep [0,2,3,4,6,7,8],.sel [0,1,2,3],.as 40 z63,.at 0,.keep [0,2,3,4,6,7,8],.sel [0,1,2,3]] (.next)) (.give 13 3 x2 (.sZ [.as 40 z63,.at 0,.keep [0,2,3,4,6,7,8],.sel [0,1,2,3]] (.next))))))) (.intro z64 fun x1=> .take 20 3 q2.i x1 (.sZ [.ord z82 [],.call [] (.v (vB (Cn x1.fJ o7.x))) []] (.br (.sZ [.tree z80 14 [6],.ty .fld,.ty .fld,.el .shp x1,.at 0,.keep [0,2,3,4,6,7,8],.sel [0,1,2,3],.ty .fld,.ty .fld,.el .shp x1,.at 0,.keep [0,2,3,4,6,7,8],.sel [0,1,2,3],.as 40 z63,.at 0,.keep [0,2,3,4,6,7,8],.sel [0,1,2,3]] (.next)) (.give 13 3 x1 (.sZ [.as 40 z63,.at 0,.keep [0,2,3,4,6,7,8],.sel [0,1,2,3]] (.next))))))))) (.br (.intro (Aa o7.c1 z77) fun o8=> .intro (Sx (q3.mQ[Int.toNat o8.x]?)) fun x1=> .sZ [.tree z81 9 [0],.call [0] (.v (vI o8.x)) (Kc o8.c1),.el .shp x1,.at 0,.keep [0,2,3,4,6,7,8,9],.sel [0,1,2,3,4]] (.intro z64 fun x2=> .take 20 3 q2.i x2 (.sZ [.ord z82 [],.call [] (.v (vB (Cn x2.fJ o7.x))) []] (.br (.sZ [.tree z80 14 [5],.ty .fld,.ty .fld,.el .shp x2,.at 0,.keep [0,2,3,4,6,7,8],.sel [0,1,2,3],.ty .fld,.ty .fld,.el .shp x2,.at 0,.keep [0,2,3,4,6,7,8],.sel [0,1,2,3],.as 40 z63,.at 0,.keep [0,2,3,4,6,7,8],.sel [0,1,2,3]] (.next)) (.give 13 3 x2 (.sZ [.as 40 z63,.at 0,.keep [0,2,3,4,6,7,8],.sel [0,1,2,3]] (.next))))))) (.intro z64 fun x1=> .take 20 3 q2.i x1 (.sZ [.ord z82 [],.call [] (.v (vB (Cn x1.fJ o7.x))) []] (.br (.sZ [.tree z80 14 [6],.ty .fld,.ty .fld,.el .shp x1,.at 0,.keep [0,2,3,4,6,7,8],.sel [0,1,2,3],.ty .fld,.ty .fld,.el .shp x1,.at 0,.keep [0,2,3,4,6,7,8],.sel [0,1,2,3],.as 40 z63,.at 0,.keep [0,2,3,4,6,7,8],.sel [0,1,2,3]] (.next)) (.give 13 3 x1 (.sZ [.as 40 z63,.at 0,.keep [0,2,3,4,6,7,8],.sel [0,1,2,3]] (.next)))))))))) (.br (.sZ [.call [] (.v (vB (Dj (1+o4.x)))) []] (.br (.intro (Aq o6.c1 2) fun o7=> .sZ [.call [0] (.v (vB o7.p)) (Kc o7.c1)] (.br (.intro (Aa o7.c1 z77) fun o8=> .intro (Sx (q3.mQ[Int.toNat o8.x]?)) fun x1=> .sZ [.tree z81 9 [0],.call [0] (.v (vI o8.x)) (Kc o8.c1),.el .shp x1,.at 0,.keep [0,2,3,4,6,7,8,9],.sel [0,1,2,3,4]] (.intro z64 fun x2=> .take 20 3 q2.i x2 (.sZ [.ord z82 [],.call [] (.v (vB (Cn x2.fJ z61))) []] (.br (.sZ [.tree z80 14 [5],.ty .fld,.ty .fld,.el .shp x2,.at 0,.keep [0,2,3,4,6,7,8],.sel [0,1,2,3],.ty .fld,.ty .fld,.el .shp x2,.at 0,.keep [0,2,3,4,6,7,8],.sel [0,1,2,3],.as 40 z63,.at 0,.keep [0,2,3,4,6,7,8],.sel [0,1,2,3]] (.next)) (.give 13 3 x2 (.sZ [.as 40 z63,.at 0,.keep [0,2,3,4,6,7,8],.sel [0,1,2,3]] (.next))))))) (.intro z64 fun x1=> .take 20 3 q2.i x1 (.sZ [.ord z82 [],.call [] (.v (vB (Cn x1.fJ z61))) []] (.br (.sZ [.tree z80 14 [5],.ty .fld,.ty .fld,.el .shp x1,.at 0,.keep [0,2,3,4,6,7,8],.sel [0,1,2,3],.ty .fld,.ty .fld,.el .shp x1,.at 0,.keep [0,2,3,4,6,7,8],.sel [0,1,2,3],.as 40 z63,.at 0,.keep [0,2,3,4,6,7,8],.sel [0,1,2,3]] (.next)) (.give 13 3 x1 (.sZ [.as 40 z63,.at 0,.keep [0,2,3,4,6,7,8],.sel [0,1,2,3]] (.next)))))))) (.br (.intro (Aa o6.c1 z77) fun o7=> .intro (Sx (q3.mQ[Int.toNat o7.x]?)) fun x1=> .sZ [.tree z81 9 [0],.call [0] (.v (vI o7.x)) (Kc o7.c1),.el .shp x1,.at 0,.keep [0,2,3,4,6,7,8,9],.sel [0,1,2,3,4]] (.intro z64 fun x2=> .take 20 3 q2.i x2 (.sZ [.ord z82 [],.call [] (.v (vB (Cn x2.fJ z61))) []] (.br (.sZ [.tree z80 14 [5],.ty .fld,.ty .fld,.el .shp x2,.at 0,.keep [0,2,3,4,6,7,8],.sel [0,1,2,3],.ty .fld,.ty .fld,.el .shp x2,.at 0,.keep [0,2,3,4,6,7,8],.sel [0,1,2,3],.as 40 z63,.at 0,.keep [0,2,3,4,6,7,8],.sel [0,1,2,3]] (.next)) (.give 13 3 x2 (.sZ [.as 40 z63,.at 0,.keep [0,2,3,4,6,7,8],.sel [0,1,2,3]] (.next))))))) (.intro z64 fun x1=> .take 20 3 q2.i x1 (.sZ [.ord z82 [],.call [] (.v (vB (Cn x1.fJ z61))) []] (.br (.sZ [.tree z80 14 [5],.ty .fld,.ty .fld,.el .shp x1,.at 0,.keep [0,2,3,4,6,7,8],.sel [0,1,2,3],.ty .fld,.ty .fld,.el .shp x1,.at 0,.keep [0,2,3,4,6,7,8],.sel [0,1,2,3],.as 40 z63,.at 0,.keep [0,2,3,4,6,7,8],.sel [0,1,2,3]] (.next)) (.give 13 3 x1 (.sZ [.as 40 z63,.at 0,.keep [0,2,3,4,6,7,8],.sel [0,1,2,3]] (.next))))))))) (.br (.intro (Aa o6.c1 z77) fun o7=> .intro (Sx (q3.mQ[Int.toNat o7.x]?)) fun x1=> .sZ [.tree z81 9 [0],.call [0] (.v (vI o7.x)) (Kc o7.c1),.el .shp x1,.at 0,.keep [0,2,3,4,6,7,8,9],.sel [0,1,2,3,4]] (.intro z64 fun x2=> .take 20 3 q2.i x2 (.sZ [.ord z82 [],.call [] (.v (vB (Cn x2.fJ z61))) []] (.br (.sZ [.tree z80 14 [5],.ty .fld,.ty .fld,.el .shp x2,.at 0,.keep [0,2,3,4,6,7,8],.sel [0,1,2,3],.ty .fld,.ty .fld,.el .shp x2,.at 0,.keep [0,2,3,4,6,7,8],.sel [0,1,2,3],.as 40 z63,.at 0,.keep [0,2,3,4,6,7,8],.sel [0,1,2,3]] (.next)) (.give 13 3 x2 (.sZ [.as 40 z63,.at 0,.keep [0,2,3,4,6,7,8],.sel [0,1,2,3]] (.next))))))) (.intro z64 fun x1=> .take 20 3 q2.i x1 (.sZ [.ord z82 [],.call [] (.v (vB (Cn x1.fJ z61))) []] (.br (.sZ [.tree z80 14 [5],.ty .fld,.ty .fld,.el .shp x1,.at 0,.keep [0,2,3,4,6,7,8],.sel [0,1,2,3],.ty .fld,.ty .fld,.el .shp x1,.at 0,.keep [0,2,3,4,6,7,8],.sel [0,1,2,3],.as 40 z63,.at 0,.keep [0,2,3,4,6,7,8],.sel [0,1,2,3]] (.next)) (.give 13 3 x1 (.sZ [.as 40 z63,.at 0,.keep [0,2,3,4,6,7,8],.sel [0,1,2,3]] (.next))))))))))))) (.sZ [.as 33 (.v (vI (((q2.i:Nat):Int)+1))),.at 0,.keep [0,2,3,4,6],.sel [0,1,2,3]] (.next)))) (.lJ (⟨(⟨q2.mQ⟩:Raw),q2.c⟩:Pd) [0,3])))),In (Aa c 3) fun o1=>(let z79:=1+o1.x;let z78:=vI z79;(Ai c 3 o1)∧(wI z79)∧(Fz o1).Has [(0,.v (vP 0)),(2,.v (vP 1)),(3,.v (vP 2)),(4,.v z78),(5,.v (vI 0))] [.cells (B1 o1.c1),.cells [.nil],.cells [.own 3],.tree ([]:List Shp)]∧∀q1,(Fz o1).inv q1→(let z76:=((q1.i:Nat):Int);Bc (decide (z76<1+o1.x)) (El ([5,1,99,7][q1.i]?) fun x1=>((z76<((List.length [5,1,99,7]:Nat):Int))∧((0:Int)≤z76)∧([5,1,99,7][q1.i]? =some x1)∧(q1.mQ.length+List.length [(⟨x1,([]:List Fld)⟩:Shp)]≤A7)∧(wI (z76+1))∧(Fz o1).Nxt q1 [(0,.v (vP 0)),(2,.v (vP 1)),(3,.v (vP 2)),(4,.v z78),(5,.v (vI (z76+1)))] [.cells (B1 q1.c),.cells [.nil],.cells [.own 3],.tree (q1.mQ++[(⟨x1,([]:List Fld)⟩:Shp)])])) ((F0 o1).Has [(0,.v (vP 0)),(2,.v (vP 1)),(3,.v (vP 2)),(4,.v z78),(6,.v (vI 0))] [.cells (B1 q1.c),.cells [.nil],.cells [.own 3],.tree q1.mQ]∧∀q2,(F0 o1).inv q2→(let z73:=q2.i=q2.i;let z75:=((q2.i:Nat):Int);let z72:=(0:Int)≤z75;let z74:=vI z75;Bc (decide (z75<1+o1.x)) (In (Aa q2.c 6) fun o2=>(let z71:=Jw o1 q2 o2;(Ai q2.c 6 o2)∧z71.Has [(0,.v (vP 0)),(2,.v (vP 1)),(3,.v (vP 2)),(4,.v z78),(6,.v z74),(7,.v (vI o2.x)),(8,.v (vI 0))] [.cells (B1 o2.c1),.cells [.nil],.cells [.own 3],.tree q2.mQ]∧∀q3,z71.inv q3→(let z68:=q3.mQ[q2.i]?;let z69:=((q3.mQ.length:Nat):Int);let z65:=z75<z69;let z70:=((q3.k:Nat):Int);let z66:=([(0,.v (vP 0)),(2,.v (vP 1)),(3,.v (vP 2)),(4,.v z78),(6,.v z74),(7,.v (vI o2.x)),(8,.v (vI z70))]:List (Nat×S))=[(0,.v (vP 0)),(2,.v (vP 1)),(3,.v (vP 2)),(4,.v z78),(6,.v z74),(7,.v (vI o2.x)),(8,.v (vI z70))];let z67:=z70+1;Bc (decide (z70<o2.x)) (In (Aa q3.c 12) fun o3=>(let z62:=1+o3.x;(Ai q3.c 12 o3)∧(wI z62)∧In (Aa o3.c1 8) fun o4=>(let z59:=decide (1+o4.x=8);let z60:=Dj (1+o4.x);(Ai o3.c1 8 o4)∧(wI (1+o4.x))∧In (Aq o4.c1 2) fun o5=>(let z58:=(⟨1+o3.x,1+o4.x,o5.p,false,0⟩:Fld);(Ba o4.c1 2 o5)∧In (Aq o5.c1 12) fun o6=>((Ba o5.c1 12 o6)∧Bc o6.p (In (A0 o6.c1 [16,2047,2048,18999,20000,536870911]) fun o7=>(let z29:=(⟨o7.x,1+o4.x,o5.p,false,0⟩:Fld);(B7 o6.c1 [16,2047,2048,18999,20000,536870911] o7)∧Bc o5.p ((Fp 158 [vI (1+o4.x)] [] (.v (vB z60)) [])∧Bc z60 (In (Aq o7.c1 2) fun o8=>(let z10:=(⟨o7.x,1+o4.x,o5.p,o8.p,0⟩:Fld);(Ba o7.c1 2 o8)∧Bc z59 (In (Aa o8.c1 z79) fun o9=>(El (q3.mQ[Int.toNat o9.x]?) fun x1=>(let z5:=(⟨o7.x,1+o4.x,o5.p,o8.p,x1.id⟩:Fld);(Ai o8.c1 z79 o9)∧(o9.x<z69)∧((0:Int)≤o9.x)∧(q3.mQ[Int.toNat o9.x]? =some x1)∧El z68 fun x2=>(let z1:List Blk:=[.cells (B1 o9.c1),.cells [.nil],.cells [.own 3],.tree (List.set q3.mQ q2.i (⟨x2.id,x2.fJ++[z5]⟩:Shp))];let z2:=z68.map (fun (x:Shp)=>x.fJ.length)=some (x2.fJ.length);let z3:=x2.fJ.length+List.length [z5]≤A7;let z4:=q3.mQ[q2.i]? =some x2;z4∧z65∧z72∧z65∧z72∧z73∧z2∧z73∧z2∧(Fp 221 [.c (.seq .fld x2.fJ),vI o7.x] [] (.v (vB (Cn x2.fJ o7.x))) [])∧Bc (!(Cn x2.fJ o7.x)) (z65∧z72∧z65∧z72∧z73∧z2∧z3∧z65∧z72∧z65∧z72∧z73∧z4∧z73∧z2∧z3∧z65∧z72∧z65∧z72∧z73∧z4∧((z1:List Blk)=z1)∧z66∧(wI z67)∧z71.Nxt q3 [(0,.v (vP 0)),(2,.v (vP 1)),(3,.v (vP 2)),(4,.v z78),(6,.v z74),(7,.v (vI o2.x)),(8,.v (vI z67))] z1) ((x2.fJ.length=x2.fJ.length)∧z4∧(wI z67)∧z71.Nxt q3 [(0,.v (vP 0)),(2,.v (vP 1)),(3,.v (vP 2)),(4,.v z78),(6,.v z74),(7,.v (vI o2.x)),(8,.v (vI z67))] [.cells (B1 o9.c1),.cells [.nil],.cells [.own 3],.tree (List.set q3.mQ q2.i (⟨x2.id,x2.fJ⟩:Shp))]))))) (El z68 fun x1=>(let z6:List Blk:=[.cells (B1 o8.c1),.cells [.nil],.cells [.own 3],.tree (List.set q3.mQ q2.i (⟨x1.id,x1.fJ++[z10]⟩:Shp))];let z7:=z68.map (fun (x:Shp)=>x.fJ.length)=some (x1.fJ.length);let z8:=x1.fJ.length+List.length [z10]≤A7;let z9:=q3.mQ[q2.i]? =some x1;z9∧z65∧z72∧z65∧z72∧z73∧z7∧z73∧z7∧(Fp 221 [.c (.seq .fld x1.fJ),vI o7.x] [] (.v (vB (Cn x1.fJ o7.x))) [])∧Bc (!(Cn x1.fJ o7.x)) (z65∧z72∧z65∧z72∧z73∧z7∧z8∧z65∧z72∧z65∧z72∧z73∧z9∧z73∧z7∧z8∧z65∧z72∧z65∧z72∧z73∧z9∧((z6:List Blk)=z6)∧z66∧(wI z67)∧z71.Nxt q3 [(0,.v (vP 0)),(2,.v (vP 1)),(3,.v (vP 2)),(4,.v z78),(6,.v z74),(7,.v (vI o2.x)),(8,.v (vI z67))] z6) ((x1.fJ.length=x1.fJ.length)∧z9∧(wI z67)∧z71.Nxt q3 [(0,.v (vP 0)),(2,.v (vP 1)),(3,.v (vP 2)),(4,.v z78),(6,.v z74),(7,.v (vI o2.x)),(8,.v (vI z67))] [.cells (B1 o8.c1),.cells [.nil],.cells [.own 3],.tree (List.set q3.mQ q2.i (⟨x1.id,x1.fJ⟩:Shp))]))))) (Bc z59 (In (Aa o7.c1 z79) fun o8=>(El (q3.mQ[Int.toNat o8.x]?) fun x1=>(let z15:=(⟨o7.x,1+o4.x,o5.p,false,x1.id⟩:Fld);(Ai o7.c1 z79 o8)∧(o8.x<z69)∧((0:Int)≤o8.x)∧(q3.mQ[Int.toNat o8.x]? =some x1)∧El z68 fun x2=>(let z11:List Blk:=[.cells (B1 o8.c1),.cells [.nil],.cells [.own 3],.tree (List.set q3.mQ q2.i (⟨x2.id,x2.fJ++[z15]⟩:Shp))];let z12:=z68.map (fun (x:Shp)=>x.fJ.length)=some (x2.fJ.length);let z13:=x2.fJ.length+List.length [z15]≤A7;let z14:=q3.mQ[q2.i]? =some x2;z14∧z65∧z72∧z65∧z72∧z73∧z12∧z73∧z12∧(Fp 221 [.c (.seq .fld x2.fJ),vI o7.x] [] (.v (vB (Cn x2.fJ o7.x))) [])∧Bc (!(Cn x2.fJ o7.x)) (z65∧z72∧z65∧z72∧z73∧z12∧z13∧z65∧z72∧z65∧z72∧z73∧z14∧z73∧z12∧z13∧z65∧z72∧z65∧z72∧z73∧z14∧((z11:List Blk)=z11)∧z66∧(wI z67)∧z71.Nxt q3 [(0,.v (vP 0)),(2,.v (vP 1)),(3,.v (vP 2)),(4,.v z78),(6,.v z74),(7,.v (vI o2.x)),(8,.v (vI z67))] z11) ((x2.fJ.length=x2.fJ.length)∧z14∧(wI z67)∧z71.Nxt q3 [(0,.v (vP 0)),(2,.v (vP 1)),(3,.v (vP 2)),(4,.v z78),(6,.v z74),(7,.v (vI o2.x)),(8,.v (vI z67))] [.cells (B1 o8.c1),.cells [.nil],.cells [.own 3],.tree (List.set q3.mQ q2.i (⟨x2.id,x2.fJ⟩:Shp))]))))) (El z68 fun x1=>(let z16:List Blk:=[.cells (B1 o7.c1),.cells [.nil],.cells [.own 3],.tree (List.set q3.mQ q2.i (⟨x1.id,x1.fJ++[z29]⟩:Shp))];let z17:=z68.map (fun (x:Shp)=>x.fJ.length)=some (x1.fJ.length);let z18:=x1.fJ.length+List.length [z29]≤A7;let z19:=q3.mQ[q2.i]? =some x1;z19∧z65∧z72∧z65∧z72∧z73∧z17∧z73∧z17∧(Fp 221 [.c (.seq .fld x1.fJ),vI o7.x] [] (.v (vB (Cn x1.fJ o7.x))) [])∧Bc (!(Cn x1.fJ o7.x)) (z65∧z72∧z65∧z72∧z73∧z17∧z18∧z65∧z72∧z65∧z72∧z73∧z19∧z73∧z17∧z18∧z65∧z72∧z65∧z72∧z73∧z19∧((z16:List Blk)=z16)∧z66∧(wI z67)∧z71.Nxt q3 [(0,.v (vP 0)),(2,.v (vP 1)),(3,.v (vP 2)),(4,.v z78),(6,.v z74),(7,.v (vI o2.x)),(8,.v (vI z67))] z16) ((x1.fJ.length=x1.fJ.length)∧z19∧(wI z67)∧z71.Nxt q3 [(0,.v (vP 0)),(2,.v (vP 1)),(3,.v (vP 2)),(4,.v z78),(6,.v z74),(7,.v (vI o2.x)),(8,.v (vI z67))] [.cells (B1 o7.c1),.cells [.nil],.cells [.own 3],.tree (List.set q3.mQ q2.i (⟨x1.id,x1.fJ⟩:Shp))]))))) (Bc z59 (In (Aa o7.c1 z79) fun o8=>(El (q3.mQ[Int.toNat o8.x]?) fun x1=>(let z24:=(⟨o7.x,1+o4.x,o5.p,false,x1.id⟩:Fld);(Ai o7.c1 z79 o8)∧(o8.x<z69)∧((0:Int)≤o8.x)∧(q3.mQ[Int.toNat o8.x]? =some x1)∧El z68 fun x2=>(let z20:List Blk:=[.cells (B1 o8.c1),.cells [.nil],.cells [.own 3],.tree (List.set q3.mQ q2.i (⟨x2.id,x2.fJ++[z24]⟩:Shp))];let z21:=z68.map (fun (x:Shp)=>x.fJ.length)=some (x2.fJ.length);let z22:=x2.fJ.length+List.length [z24]≤A7;let z23:=q3.mQ[q2.i]? =some x2;z23∧z65∧z72∧z65∧z72∧z73∧z21∧z73∧z21∧(Fp 221 [.c (.seq .fld x2.fJ),vI o7.x] [] (.v (vB (Cn x2.fJ o7.x))) [])∧Bc (!(Cn x2.fJ o7.x)) (z65∧z72∧z65∧z72∧z73∧z21∧z22∧z65∧z72∧z65∧z72∧z73∧z23∧z73∧z21∧z22∧z65∧z72∧z65∧z72∧z73∧z23∧((z20:List Blk)=z20)∧z66∧(wI z67)∧z71.Nxt q3 [(0,.v (vP 0)),(2,.v (vP 1)),(3,.v (vP 2)),(4,.v z78),(6,.v z74),(7,.v (vI o2.x)),(8,.v (vI z67))] z20) ((x2.fJ.length=x2.fJ.length)∧z23∧(wI z67)∧z71.Nxt q3 [(0,.v (vP 0)),(2,.v (vP 1)),(3,.v (vP 2)),(4,.v z78),(6,.v z74),(7,.v (vI o2.x)),(8,.v (vI z67))] [.cells (B1 o8.c1),.cells [.nil],.cells [.own 3],.tree (List.set q3.mQ q2.i (⟨x2.id,x2.fJ⟩:Shp))]))))) (El z68 fun x1=>(let z25:List Blk:=[.cells (B1 o7.c1),.cells [.nil],.cells [.own 3],.tree (List.set q3.mQ q2.i (⟨x1.id,x1.fJ++[z29]⟩:Shp))];let z26:=z68.map (fun (x:Shp)=>x.fJ.length)=some (x1.fJ.length);let z27:=x1.fJ.length+List.length [z29]≤A7;let z28:=q3.mQ[q2.i]? =some x1;z28∧z65∧z72∧z65∧z72∧z73∧z26∧z73∧z26∧(Fp 221 [.c (.seq .fld x1.fJ),vI o7.x] [] (.v (vB (Cn x1.fJ o7.x))) [])∧Bc (!(Cn x1.fJ o7.x)) (z65∧z72∧z65∧z72∧z73∧z26∧z27∧z65∧z72∧z65∧z72∧z73∧z28∧z73∧z26∧z27∧z65∧z72∧z65∧z72∧z73∧z28∧((z25:List Blk)=z25)∧z66∧(wI z67)∧z71.Nxt q3 [(0,.v (vP 0)),(2,.v (vP 1)),(3,.v (vP 2)),(4,.v z78),(6,.v z74),(7,.v (vI o2.x)),(8,.v (vI z67))] z25) ((x1.fJ.length=x1.fJ.length)∧z28∧(wI z67)∧z71.Nxt q3 [(0,.v (vP 0)),(2,.v (vP 1)),(3,.v (vP 2)),(4,.v z78),(6,.v z74),(7,.v (vI o2.x)),(8,.v (vI z67))] [.cells (B1 o7.c1),.cells [.nil],.cells [.own 3],.tree (List.set q3.mQ q2.i (⟨x1.id,x1.fJ⟩:Shp))])))))) (Bc o5.p ((Fp 158 [vI (1+o4.x)] [] (.v (vB z60)) [])∧Bc z60 (In (Aq o6.c1 2) fun o7=>(let z39:=(⟨1+o3.x,1+o4.x,o5.p,o7.p,0⟩:Fld);(Ba o6.c1 2 o7)∧Bc z59 (In (Aa o7.c1 z79) fun o8=>(El (q3.mQ[Int.toNat o8.x]?) fun x1=>(let z34:=(⟨1+o3.x,1+o4.x,o5.p,o7.p,x1.id⟩:Fld);(Ai o7.c1 z79 o8)∧(o8.x<z69)∧((0:Int)≤o8.x)∧(q3.mQ[Int.toNat o8.x]? =some x1)∧El z68 fun x2=>(let z30:List Blk:=[.cells (B1 o8.c1),.cells [.nil],.cells [.own 3],.tree (List.set q3.mQ q2.i (⟨x2.id,x2.fJ++[z34]⟩:Shp))];let z31:=z68.map (fun (x:Shp)=>x.fJ.length)=some (x2.fJ.length);let z32:=x2.fJ.length+List.length [z34]≤A7;let z33:=q3.mQ[q2.i]? =some x2;z33∧z65∧z72∧z65∧z72∧z73∧z31∧z73∧z31∧(Fp 221 [.c (.seq .fld x2.fJ),vI z62] [] (.v (vB (Cn x2.fJ z62))) [])∧Bc (!(Cn x2.fJ z62)) (z65∧z72∧z65∧z72∧z73∧z31∧z32∧z65∧z72∧z65∧z72∧z73∧z33∧z73∧z31∧z32∧z65∧z72∧z65∧z72∧z73∧z33∧((z30:List Blk)=z30)∧z66∧(wI z67)∧z71.Nxt q3 [(0,.v (vP 0)),(2,.v (vP 1)),(3,.v (vP 2)),(4,.v z78),(6,.v z74),(7,.v (vI o2.x)),(8,.v (vI z67))] z30) ((x2.fJ.length=x2.fJ.length)∧z33∧(wI z67)∧z71.Nxt q3 [(0,.v (vP 0)),(2,.v (vP 1)),(3,.v (vP 2)),(4,.v z78),(6,.v z74),(7,.v (vI o2.x)),(8,.v (vI z67))] [.cells (B1 o8.c1),.cells [.nil],.cells [.own 3],.tree (List.set q3.mQ q2.i (⟨x2.id,x2.fJ⟩:Shp))]))))) (El z68 fun x1=>(let z35:List Blk:=[.cells (B1 o7.c1),.cells [.nil],.cells [.own 3],.tree (List.set q3.mQ q2.i (⟨x1.id,x1.fJ++[z39]⟩:Shp))];let z36:=z68.map (fun (x:Shp)=>x.fJ.length)=some (x1.fJ.length);let z37:=x1.fJ.length+List.length [z39]≤A7;let z38:=q3.mQ[q2.i]? =some x1;z38∧z65∧z72∧z65∧z72∧z73∧z36∧z73∧z36∧(Fp 221 [.c (.seq .fld x1.fJ),vI z62] [] (.v (vB (Cn x1.fJ z62))) [])∧Bc (!(Cn x1.fJ z62)) (z65∧z72∧z65∧z72∧z73∧z36∧z37∧z65∧z72∧z65∧z72∧z73∧z38∧z73∧z36∧z37∧z65∧z72∧z65∧z72∧z73∧z38∧((z35:List Blk)=z35)∧z66∧(wI z67)∧z71.Nxt q3 [(0,.v (vP 0)),(2,.v (vP 1)),(3,.v (vP 2)),(4,.v z78),(6,.v z74),(7,.v (vI o2.x)),(8,.v (vI z67))] z35) ((x1.fJ.length=x1.fJ.length)∧z38∧(wI z67)∧z71.Nxt q3 [(0,.v (vP 0)),(2,.v (vP 1)),(3,.v (vP 2)),(4,.v z78),(6,.v z74),(7,.v (vI o2.x)),(8,.v (vI z67))] [.cells (B1 o7.c1),.cells [.nil],.cells [.own 3],.tree (List.set q3.mQ q2.i (⟨x1.id,x1.fJ⟩:Shp))]))))) (Bc z59 (In (Aa o6.c1 z79) fun o7=>(El (q3.mQ[Int.toNat o7.x]?) fun x1=>(let z44:=(⟨1+o3.x,1+o4.x,o5.p,false,x1.id⟩:Fld);(Ai o6.c1 z79 o7)∧(o7.x<z69)∧((0:Int)≤o7.x)∧(q3.mQ[Int.toNat o7.x]? =some x1)∧El z68 fun x2=>(let z40:List Blk:=[.cells (B1 o7.c1),.cells [.nil],.cells [.own 3],.tree (List.set q3.mQ q2.i (⟨x2.id,x2.fJ++[z44]⟩:Shp))];let z41:=z68.map (fun (x:Shp)=>x.fJ.length)=some (x2.fJ.length);let z42:=x2.fJ.length+List.length [z44]≤A7;let z43:=q3.mQ[q2.i]? =some x2;z43∧z65∧z72∧z65∧z72∧z73∧z41∧z73∧z41∧(Fp 221 [.c (.seq .fld x2.fJ),vI z62] [] (.v (vB (Cn x2.fJ z62))) [])∧Bc (!(Cn x2.fJ z62)) (z65∧z72∧z65∧z72∧z73∧z41∧z42∧z65∧z72∧z65∧z72∧z73∧z43∧z73∧z41∧z42∧z65∧z72∧z65∧z72∧z73∧z43∧((z40:List Blk)=z40)∧z66∧(wI z67)∧z71.Nxt q3 [(0,.v (vP 0)),(2,.v (vP 1)),(3,.v (vP 2)),(4,.v z78),(6,.v z74),(7,.v (vI o2.x)),(8,.v (vI z67))] z40) ((x2.fJ.length=x2.fJ.length)∧z43∧(wI z67)∧z71.Nxt q3 [(0,.v (vP 0)),(2,.v (vP 1)),(3,.v (vP 2)),(4,.v z78),(6,.v z74),(7,.v (vI o2.x)),(8,.v (vI z67))] [.cells (B1 o7.c1),.cells [.nil],.cells [.own 3],.tree (List.set q3.mQ q2.i (⟨x2.id,x2.fJ⟩:Shp))]))))) (El z68 fun x1=>(let z45:List Blk:=[.cells (B1 o6.c1),.cells [.nil],.cells [.own 3],.tree (List.set q3.mQ q2.i (⟨x1.id,x1.fJ++[z58]⟩:Shp))];let z46:=z68.map (fun (x:Shp)=>x.fJ.length)=some (x1.fJ.length);let z47:=x1.fJ.length+List.length [z58]≤A7;let z48:=q3.mQ[q2.i]? =some x1;z48∧z65∧z72∧z65∧z72∧z73∧z46∧z73∧z46∧(Fp 221 [.c (.seq .fld x1.fJ),vI z62] [] (.v (vB (Cn x1.fJ z62))) [])∧Bc (!(Cn x1.fJ z62)) (z65∧z72∧z65∧z72∧z73∧z46∧z47∧z65∧z72∧z65∧z72∧z73∧z48∧z73∧z46∧z47∧z65∧z72∧z65∧z72∧z73∧z48∧((z45:List Blk)=z45)∧z66∧(wI z67)∧z71.Nxt q3 [(0,.v (vP 0)),(2,.v (vP 1)),(3,.v (vP 2)),(4,.v z78),(6,.v z74),(7,.v (vI o2.x)),(8,.v (vI z67))] z45) ((x1.fJ.length=x1.fJ.length)∧z48∧(wI z67)∧z71.Nxt q3 [(0,.v (vP 0)),(2,.v (vP 1)),(3,.v (vP 2)),(4,.v z78),(6,.v z74),(7,.v (vI o2.x)),(8,.v (vI z67))] [.cells (B1 o6.c1),.cells [.nil],.cells [.own 3],.tree (List.set q3.mQ q2.i (⟨x1.id,x1.fJ⟩:Shp))]))))) (Bc z59 (In (Aa o6.c1 z79) fun o7=>(El (q3.mQ[Int.toNat o7.x]?) fun x1=>(let z53:=(⟨1+o3.x,1+o4.x,o5.p,false,x1.id⟩:Fld);(Ai o6.c1 z79 o7)∧(o7.x<z69)∧((0:Int)≤o7.x)∧(q3.mQ[Int.toNat o7.x]? =some x1)∧El z68 fun x2=>(let z49:List Blk:=[.cells (B1 o7.c1),.cells [.nil],.cells [.own 3],.tree (List.set q3.mQ q2.i (⟨x2.id,x2.fJ++[z53]⟩:Shp))];let z50:=z68.map (fun (x:Shp)=>x.fJ.length)=some (x2.fJ.length);let z51:=x2.fJ.length+List.length [z53]≤A7;let z52:=q3.mQ[q2.i]? =some x2;z52∧z65∧z72∧z65∧z72∧z73∧z50∧z73∧z50∧(Fp 221 [.c (.seq .fld x2.fJ),vI z62] [] (.v (vB (Cn x2.fJ z62))) [])∧Bc (!(Cn x2.fJ z62)) (z65∧z72∧z65∧z72∧z73∧z50∧z51∧z65∧z72∧z65∧z72∧z73∧z52∧z73∧z50∧z51∧z65∧z72∧z65∧z72∧z73∧z52∧((z49:List Blk)=z49)∧z66∧(wI z67)∧z71.Nxt q3 [(0,.v (vP 0)),(2,.v (vP 1)),(3,.v (vP 2)),(4,.v z78),(6,.v z74),(7,.v (vI o2.x)),(8,.v (vI z67))] z49) ((x2.fJ.length=x2.fJ.length)∧z52∧(wI z67)∧z71.Nxt q3 [(0,.v (vP 0)),(2,.v (vP 1)),(3,.v (vP 2)),(4,.v z78),(6,.v z74),(7,.v (vI o2.x)),(8,.v (vI z67))] [.cells (B1 o7.c1),.cells [.nil],.cells [.own 3],.tree (List.set q3.mQ q2.i (⟨x2.id,x2.fJ⟩:Shp))]))))) (El z68 fun x1=>(let z54:List Blk:=[.cells (B1 o6.c1),.cells [.nil],.cells [.own 3],.tree (List.set q3.mQ q2.i (⟨x1.id,x1.fJ++[z58]⟩:Shp))];let z55:=z68.map (fun (x:Shp)=>x.fJ.length)=some (x1.fJ.length);let z56:=x1.fJ.length+List.length [z58]≤A7;let z57:=q3.mQ[q2.i]? =some x1;z57∧z65∧z72∧z65∧z72∧z73∧z55∧z73∧z55∧(Fp 221 [.c (.seq .fld x1.fJ),vI z62] [] (.v (vB (Cn x1.fJ z62))) [])∧Bc (!(Cn x1.fJ z62)) (z65∧z72∧z65∧z72∧z73∧z55∧z56∧z65∧z72∧z65∧z72∧z73∧z57∧z73∧z55∧z56∧z65∧z72∧z65∧z72∧z73∧z57∧((z54:List Blk)=z54)∧z66∧(wI z67)∧z71.Nxt q3 [(0,.v (vP 0)),(2,.v (vP 1)),(3,.v (vP 2)),(4,.v z78),(6,.v z74),(7,.v (vI o2.x)),(8,.v (vI z67))] z54) ((x1.fJ.length=x1.fJ.length)∧z57∧(wI z67)∧z71.Nxt q3 [(0,.v (vP 0)),(2,.v (vP 1)),(3,.v (vP 2)),(4,.v z78),(6,.v z74),(7,.v (vI o2.x)),(8,.v (vI z67))] [.cells (B1 o6.c1),.cells [.nil],.cells [.own 3],.tree (List.set q3.mQ q2.i (⟨x1.id,x1.fJ⟩:Shp))])))))))))) ((wI (z75+1))∧(F0 o1).Nxt q2 [(0,.v (vP 0)),(2,.v (vP 1)),(3,.v (vP 2)),(4,.v z78),(6,.v (vI (z75+1)))] [.cells (B1 q3.c),.cells [.nil],.cells [.own 3],.tree q3.mQ])))) (((RawK (List.length ((⟨q2.mQ⟩:Raw)).mQ) ((⟨q2.mQ⟩:Raw)).mQ)∧(As q2.c))∧Lf (.v (.agg [.own 1])) (.v (.agg [.own 1])) [.cells (B1 q2.c),.tree q2.mQ] [.cells (B1 q2.c),.tree q2.mQ]))))))) Q4 ?_
 refine⟨(Ao c 3 Q0),fun o1 ho_o1=>?_⟩
 obtain ⟨⟨hp_o1_0,hp_o1_1,hp_o1_2,hp_o1_3⟩,hf_o1⟩:=ho_o1
 refine⟨hf_o1,(Ad Q2 Q2),Bm (j:=(⟨o1.c1,([]:List Shp),0⟩:Mg)) Q9 rfl (by dsimp only[Fz];exact⟨by assumption,by omega,rfl,rfl,fun m hm=>by cases hm⟩),fun (q1:Mg) hq_q1=>?_⟩
 have hi_q1:As q1.c∧((q1.i:Nat):Int)≤1+o1.x∧q1.mQ.length=q1.i∧G8 q1.mQ=List.take q1.i [5,1,99]∧∀m∈q1.mQ,m.fJ=[]:=hq_q1
 obtain ⟨v1,v2,v3,v4,v5⟩:=hi_q1
 refine dsp (fun h1 p1=>?_) fun h1 p1=>?_
 refine⟨(Bo (l:=[5,1,99,7]) (i:=q1.i) Q5),fun x1 hx1=>?_⟩
 exact⟨Q5,Q2,hx1,Q5,(Ad Q2 Q2),A4 (j:=(⟨q1.c,q1.mQ++[(⟨x1,([]:List Fld)⟩:Shp)],q1.i+1⟩:Mg)) Q9 rfl (by dsimp only[Fz];exact⟨by assumption,by omega,by simp;omega,Aiy v4 Q2 hx1,fun m hm=>by rcases List.mem_append.1 hm with hm|hm;exact v5 m hm;simp at hm;rw[hm]⟩) (by dsimp only[Fz];omega)⟩
 refine⟨Bm (j:=(⟨q1.c,q1.mQ,0⟩:Jv)) Q9 rfl (by dsimp only[F0];exact⟨by assumption,by omega,Aiz Q2 Q2 (by rw[v4];congr 1;omega) v5,fun j m _ hm=>v5 m (List.mem_of_getElem? hm)⟩),fun (q2:Jv) hq_q2=>?_⟩
 have hi_q2:As q2.c∧q2.i≤Int.toNat (1+o1.x)∧RawK (Int.toNat (1+o1.x)) q2.mQ∧∀j m,q2.i≤j→q2.mQ[j]? =some m→m.fJ=[]:=hq_q2
 obtain ⟨u1,u2,u3,u4⟩:=hi_q2
 have upos:=u3.pos
 have ulen:=u3.len
 refine dsp (fun h2 p2=>?_) fun h2 p2=>?_
 refine⟨(Ao q2.c 6 Q0),fun o2 ho_o2=>?_⟩
 obtain ⟨⟨hp_o2_0,hp_o2_1,hp_o2_2,hp_o2_3⟩,hf_o2⟩:=ho_o2
 refine⟨hf_o2,Bm (j:=(⟨o2.c1,q2.mQ,0⟩:Bq)) Q9 rfl (by dsimp only[Jw];exact⟨by assumption,by omega,u3,fun j m hj hm=>u4 j m Q2 hm,fun m hm=>by rw[u4 _ m (Nat.le_refl _) hm];exact Nat.le_refl _⟩),fun (q3:Bq) hq_q3=>?_⟩
 have hi_q3:As q3.c∧q3.k≤5∧RawK (Int.toNat (1+o1.x)) q3.mQ∧(∀j m,q2.i<j→q3.mQ[j]? =some m→m.fJ=[])∧∀m,q3.mQ[q2.i]? =some m→m.fJ.length≤q3.k:=hq_q3
 obtain ⟨w1,w2,w3,w4,w5⟩:=hi_q3
 have wlen:=w3.len
 refine dsp (fun h3 p3=>?_) fun h3 p3=>?_
 refine⟨(Ao q3.c 12 Q0),fun o3 ho_o3=>?_⟩
 obtain ⟨⟨hp_o3_0,hp_o3_1,hp_o3_2,hp_o3_3⟩,hf_o3⟩:=ho_o3
 refine⟨hf_o3,(Ad Q2 Q2),(Ao o3.c1 8 Q0),fun o4 ho_o4=>?_⟩
 obtain ⟨⟨hp_o4_0,hp_o4_1,hp_o4_2,hp_o4_3⟩,hf_o4⟩:=ho_o4
 refine⟨hf_o4,(Ad Q2 Q2),(Bz o4.c1 2 Q0),fun o5 ho_o5=>?_⟩
 obtain ⟨hp_o5,hf_o5⟩:=ho_o5
 refine⟨hf_o5,(Bz o5.c1 12 Q0),fun o6 ho_o6=>?_⟩
 obtain ⟨hp_o6,hf_o6⟩:=ho_o6
 refine⟨hf_o6,fun h4=>?_,fun h4=>?_⟩
 refine⟨(Cp o6.c1 [16,2047,2048,18999,20000,536870911] Q0 Q5 Q5),fun o7 ho_o7=>?_⟩
 obtain ⟨⟨hp_o7_0,hp_o7_1⟩,hf_o7⟩:=ho_o7
 refine⟨hf_o7,fun h5=>?_,fun h5=>?_⟩
 refine⟨(Mw _),fun h6=>have p6:=Ar h6;?_,fun h6=>have p6:=Ay h6;?_⟩
 refine⟨(Bz o7.c1 2 Q0),fun o8 ho_o8=>?_⟩
 obtain ⟨hp_o8,hf_o8⟩:=ho_o8
 refine⟨hf_o8,dsp (fun h7 p7=>?_) fun h7 p7=>?_⟩
 refine⟨(Ao o8.c1 (1+o1.x) Q0),fun o9 ho_o9=>?_⟩
 obtain ⟨⟨hp_o9_0,hp_o9_1,hp_o9_2,hp_o9_3⟩,hf_o9⟩:=ho_o9
 refine⟨(Bo (l:=q3.mQ) (i:=Int.toNat o9.x) Q2),fun x1 hx1=>?_⟩
 have hri:x1.id∈G8 q3.mQ:=List.mem_map.2 ⟨_,List.mem_of_getElem? hx1,rfl⟩
 refine⟨hf_o9,Q2,Q2,hx1,(Bo (l:=q3.mQ) (i:=q2.i) Q2),fun x2 hx2=>?_⟩
 have hxl:=w5 _ hx2
 have hsame:=Gq hx2
 refine⟨hx2,Q2,Q2,Q2,Q2,rfl,Q52,rfl,Q52,(F8 _ _ Q2),fun h8=>have q8:=An h8;?_,fun h8=>have q8:=Am h8;?_⟩
 exact⟨Q2,Q2,Q2,Q2,rfl,Q52,Q5,Q2,Q2,Q2,Q2,rfl,hx2,rfl,Q52,Q5,Q2,Q2,Q2,Q2,rfl,hx2,rfl,rfl,(Ad Q2 Q2),A4 (j:=(⟨o9.c1,List.set q3.mQ q2.i (⟨x2.id,x2.fJ++[(⟨o7.x,1+o4.x,o5.p,o8.p,x1.id⟩:Fld)]⟩:Shp),q3.k+1⟩:Bq)) Q9 rfl Q1 Q35⟩
 exact⟨Q9,hx2,(Ad Q2 Q2),A4 (j:=(⟨o9.c1,List.set q3.mQ q2.i (⟨x2.id,x2.fJ⟩:Shp),q3.k+1⟩:Bq)) Q9 rfl Q1 Q35⟩
 refine⟨(Bo (l:=q3.mQ) (i:=q2.i) Q2),fun x1 hx1=>?_⟩
 have hxl:=w5 _ hx1
 have hsame:=Gq hx1
 refine⟨hx1,Q2,Q2,Q2,Q2,rfl,Q53,rfl,Q53,(F8 _ _ Q2),fun h8=>have q8:=An h8;?_,fun h8=>have q8:=Am h8;?_⟩
 exact⟨Q2,Q2,Q2,Q2,rfl,Q53,Q5,Q2,Q2,Q2,Q2,rfl,hx1,rfl,Q53,Q5,Q2,Q2,Q2,Q2,rfl,hx1,rfl,rfl,(Ad Q2 Q2),A4 (j:=(⟨o8.c1,List.set q3.mQ q2.i (⟨x1.id,x1.fJ++[(⟨o7.x,1+o4.x,o5.p,o8.p,0⟩:Fld)]⟩:Shp),q3.k+1⟩:Bq)) Q9 rfl Q1 Q35⟩
 exact⟨Q9,hx1,(Ad Q2 Q2),A4 (j:=(⟨o8.c1,List.set q3.mQ q2.i (⟨x1.id,x1.fJ⟩:Shp),q3.k+1⟩:Bq)) Q9 rfl Q1 Q35⟩
 refine dsp (fun h7 p7=>?_) fun h7 p7=>?_
 refine⟨(Ao o7.c1 (1+o1.x) Q0),fun o8 ho_o8=>?_⟩
 obtain ⟨⟨hp_o8_0,hp_o8_1,hp_o8_2,hp_o8_3⟩,hf_o8⟩:=ho_o8
 refine⟨(Bo (l:=q3.mQ) (i:=Int.toNat o8.x) Q2),fun x1 hx1=>?_⟩
 have hri:x1.id∈G8 q3.mQ:=List.mem_map.2 ⟨_,List.mem_of_getElem? hx1,rfl⟩
 refine⟨hf_o8,Q2,Q2,hx1,(Bo (l:=q3.mQ) (i:=q2.i) Q2),fun x2 hx2=>?_⟩
 have hxl:=w5 _ hx2
 have hsame:=Gq hx2
 refine⟨hx2,Q2,Q2,Q2,Q2,rfl,Q52,rfl,Q52,(F8 _ _ Q2),fun h8=>have q8:=An h8;?_,fun h8=>have q8:=Am h8;?_⟩
 exact⟨Q2,Q2,Q2,Q2,rfl,Q52,Q5,Q2,Q2,Q2,Q2,rfl,hx2,rfl,Q52,Q5,Q2,Q2,Q2,Q2,rfl,hx2,rfl,rfl,(Ad Q2 Q2),A4 (j:=(⟨o8.c1,List.set q3.mQ q2.i (⟨x2.id,x2.fJ++[(⟨o7.x,1+o4.x,o5.p,false,x1.id⟩:Fld)]⟩:Shp),q3.k+1⟩:Bq)) Q9 rfl Q1 Q35⟩
 exact⟨Q9,hx2,(Ad Q2 Q2),A4 (j:=(⟨o8.c1,List.set q3.mQ q2.i (⟨x2.id,x2.fJ⟩:Shp),q3.k+1⟩:Bq)) Q9 rfl Q1 Q35⟩
 refine⟨(Bo (l:=q3.mQ) (i:=q2.i) Q2),fun x1 hx1=>?_⟩
 have hxl:=w5 _ hx1
 have hsame:=Gq hx1
 refine⟨hx1,Q2,Q2,Q2,Q2,rfl,Q53,rfl,Q53,(F8 _ _ Q2),fun h8=>have q8:=An h8;?_,fun h8=>have q8:=Am h8;?_⟩
 exact⟨Q2,Q2,Q2,Q2,rfl,Q53,Q5,Q2,Q2,Q2,Q2,rfl,hx1,rfl,Q53,Q5,Q2,Q2,Q2,Q2,rfl,hx1,rfl,rfl,(Ad Q2 Q2),A4 (j:=(⟨o7.c1,List.set q3.mQ q2.i (⟨x1.id,x1.fJ++[(⟨o7.x,1+o4.x,o5.p,false,0⟩:Fld)]⟩:Shp),q3.k+1⟩:Bq)) Q9 rfl Q1 Q35⟩
 exact⟨Q9,hx1,(Ad Q2 Q2),A4 (j:=(⟨o7.c1,List.set q3.mQ q2.i (⟨x1.id,x1.fJ⟩:Shp),q3.k+1⟩:Bq)) Q9 rfl Q1 Q35⟩
 refine dsp (fun h6 p6=>?_) fun h6 p6=>?_
 refine⟨(Ao o7.c1 (1+o1.x) Q0),fun o8 ho_o8=>?_⟩
 obtain ⟨⟨hp_o8_0,hp_o8_1,hp_o8_2,hp_o8_3⟩,hf_o8⟩:=ho_o8
 refine⟨(Bo (l:=q3.mQ) (i:=Int.toNat o8.x) Q2),fun x1 hx1=>?_⟩
 have hri:x1.id∈G8 q3.mQ:=List.mem_map.2 ⟨_,List.mem_of_getElem? hx1,rfl⟩
 refine⟨hf_o8,Q2,Q2,hx1,(Bo (l:=q3.mQ) (i:=q2.i) Q2),fun x2 hx2=>?_⟩
 have hxl:=w5 _ hx2
 have hsame:=Gq hx2
 refine⟨hx2,Q2,Q2,Q2,Q2,rfl,Q52,rfl,Q52,(F8 _ _ Q2),fun h7=>have q7:=An h7;?_,fun h7=>have q7:=Am h7;?_⟩
 exact⟨Q2,Q2,Q2,Q2,rfl,Q52,Q5,Q2,Q2,Q2,Q2,rfl,hx2,rfl,Q52,Q5,Q2,Q2,Q2,Q2,rfl,hx2,rfl,rfl,(Ad Q2 Q2),A4 (j:=(⟨o8.c1,List.set q3.mQ q2.i (⟨x2.id,x2.fJ++[(⟨o7.x,1+o4.x,o5.p,false,x1.id⟩:Fld)]⟩:Shp),q3.k+1⟩:Bq)) Q9 rfl Q1 Q35⟩
 exact⟨Q9,hx2,(Ad Q2 Q2),A4 (j:=(⟨o8.c1,List.set q3.mQ q2.i (⟨x2.id,x2.fJ⟩:Shp),q3.k+1⟩:Bq)) Q9 rfl Q1 Q35⟩
 refine⟨(Bo (l:=q3.mQ) (i:=q2.i) Q2),fun x1 hx1=>?_⟩
 have hxl:=w5 _ hx1
 have hsame:=Gq hx1
 refine⟨hx1,Q2,Q2,Q2,Q2,rfl,Q53,rfl,Q53,(F8 _ _ Q2),fun h7=>have q7:=An h7;?_,fun h7=>have q7:=Am h7;?_⟩
 exact⟨Q2,Q2,Q2,Q2,rfl,Q53,Q5,Q2,Q2,Q2,Q2,rfl,hx1,rfl,Q53,Q5,Q2,Q2,Q2,Q2,rfl,hx1,rfl,rfl,(Ad Q2 Q2),A4 (j:=(⟨o7.c1,List.set q3.mQ q2.i (⟨x1.id,x1.fJ++[(⟨o7.x,1+o4.x,o5.p,false,0⟩:Fld)]⟩:Shp),q3.k+1⟩:Bq)) Q9 rfl Q1 Q35⟩
 exact⟨Q9,hx1,(Ad Q2 Q2),A4 (j:=(⟨o7.c1,List.set q3.mQ q2.i (⟨x1.id,x1.fJ⟩:Shp),q3.k+1⟩:Bq)) Q9 rfl Q1 Q35⟩
 refine⟨fun h5=>?_,fun h5=>?_⟩
 refine⟨(Mw _),fun h6=>have p6:=Ar h6;?_,fun h6=>have p6:=Ay h6;?_⟩
 refine⟨(Bz o6.c1 2 Q0),fun o7 ho_o7=>?_⟩
 obtain ⟨hp_o7,hf_o7⟩:=ho_o7
 refine⟨hf_o7,dsp (fun h7 p7=>?_) fun h7 p7=>?_⟩
 refine⟨(Ao o7.c1 (1+o1.x) Q0),fun o8 ho_o8=>?_⟩
 obtain ⟨⟨hp_o8_0,hp_o8_1,hp_o8_2,hp_o8_3⟩,hf_o8⟩:=ho_o8
 refine⟨(Bo (l:=q3.mQ) (i:=Int.toNat o8.x) Q2),fun x1 hx1=>?_⟩
 have hri:x1.id∈G8 q3.mQ:=List.mem_map.2 ⟨_,List.mem_of_getElem? hx1,rfl⟩
 refine⟨hf_o8,Q2,Q2,hx1,(Bo (l:=q3.mQ) (i:=q2.i) Q2),fun x2 hx2=>?_⟩
 have hxl:=w5 _ hx2
 have hsame:=Gq hx2
 refine⟨hx2,Q2,Q2,Q2,Q2,rfl,Q52,rfl,Q52,(F8 _ _ Q2),fun h8=>have q8:=An h8;?_,fun h8=>have q8:=Am h8;?_⟩
 exact⟨Q2,Q2,Q2,Q2,rfl,Q52,Q5,Q2,Q2,Q2,Q2,rfl,hx2,rfl,Q52,Q5,Q2,Q2,Q2,Q2,rfl,hx2,rfl,rfl,(Ad Q2 Q2),A4 (j:=(⟨o8.c1,List.set q3.mQ q2.i (⟨x2.id,x2.fJ++[(⟨1+o3.x,1+o4.x,o5.p,o7.p,x1.id⟩:Fld)]⟩:Shp),q3.k+1⟩:Bq)) Q9 rfl Q1 Q35⟩
 exact⟨Q9,hx2,(Ad Q2 Q2),A4 (j:=(⟨o8.c1,List.set q3.mQ q2.i (⟨x2.id,x2.fJ⟩:Shp),q3.k+1⟩:Bq)) Q9 rfl Q1 Q35⟩
 refine⟨(Bo (l:=q3.mQ) (i:=q2.i) Q2),fun x1 hx1=>?_⟩
 have hxl:=w5 _ hx1
 have hsame:=Gq hx1
 refine⟨hx1,Q2,Q2,Q2,Q2,rfl,Q53,rfl,Q53,(F8 _ _ Q2),fun h8=>have q8:=An h8;?_,fun h8=>have q8:=Am h8;?_⟩
 exact⟨Q2,Q2,Q2,Q2,rfl,Q53,Q5,Q2,Q2,Q2,Q2,rfl,hx1,rfl,Q53,Q5,Q2,Q2,Q2,Q2,rfl,hx1,rfl,rfl,(Ad Q2 Q2),A4 (j:=(⟨o7.c1,List.set q3.mQ q2.i (⟨x1.id,x1.fJ++[(⟨1+o3.x,1+o4.x,o5.p,o7.p,0⟩:Fld)]⟩:Shp),q3.k+1⟩:Bq)) Q9 rfl Q1 Q35⟩
 exact⟨Q9,hx1,(Ad Q2 Q2),A4 (j:=(⟨o7.c1,List.set q3.mQ q2.i (⟨x1.id,x1.fJ⟩:Shp),q3.k+1⟩:Bq)) Q9 rfl Q1 Q35⟩
 refine dsp (fun h7 p7=>?_) fun h7 p7=>?_
 refine⟨(Ao o6.c1 (1+o1.x) Q0),fun o7 ho_o7=>?_⟩
 obtain ⟨⟨hp_o7_0,hp_o7_1,hp_o7_2,hp_o7_3⟩,hf_o7⟩:=ho_o7
 refine⟨(Bo (l:=q3.mQ) (i:=Int.toNat o7.x) Q2),fun x1 hx1=>?_⟩
 have hri:x1.id∈G8 q3.mQ:=List.mem_map.2 ⟨_,List.mem_of_getElem? hx1,rfl⟩
 refine⟨hf_o7,Q2,Q2,hx1,(Bo (l:=q3.mQ) (i:=q2.i) Q2),fun x2 hx2=>?_⟩
 have hxl:=w5 _ hx2
 have hsame:=Gq hx2
 refine⟨hx2,Q2,Q2,Q2,Q2,rfl,Q52,rfl,Q52,(F8 _ _ Q2),fun h8=>have q8:=An h8;?_,fun h8=>have q8:=Am h8;?_⟩
 exact⟨Q2,Q2,Q2,Q2,rfl,Q52,Q5,Q2,Q2,Q2,Q2,rfl,hx2,rfl,Q52,Q5,Q2,Q2,Q2,Q2,rfl,hx2,rfl,rfl,(Ad Q2 Q2),A4 (j:=(⟨o7.c1,List.set q3.mQ q2.i (⟨x2.id,x2.fJ++[(⟨1+o3.x,1+o4.x,o5.p,false,x1.id⟩:Fld)]⟩:Shp),q3.k+1⟩:Bq)) Q9 rfl Q1 Q35⟩
 exact⟨Q9,hx2,(Ad Q2 Q2),A4 (j:=(⟨o7.c1,List.set q3.mQ q2.i (⟨x2.id,x2.fJ⟩:Shp),q3.k+1⟩:Bq)) Q9 rfl Q1 Q35⟩
 refine⟨(Bo (l:=q3.mQ) (i:=q2.i) Q2),fun x1 hx1=>?_⟩
 have hxl:=w5 _ hx1
 have hsame:=Gq hx1
 refine⟨hx1,Q2,Q2,Q2,Q2,rfl,Q53,rfl,Q53,(F8 _ _ Q2),fun h8=>have q8:=An h8;?_,fun h8=>have q8:=Am h8;?_⟩
 exact⟨Q2,Q2,Q2,Q2,rfl,Q53,Q5,Q2,Q2,Q2,Q2,rfl,hx1,rfl,Q53,Q5,Q2,Q2,Q2,Q2,rfl,hx1,rfl,rfl,(Ad Q2 Q2),A4 (j:=(⟨o6.c1,List.set q3.mQ q2.i (⟨x1.id,x1.fJ++[(⟨1+o3.x,1+o4.x,o5.p,false,0⟩:Fld)]⟩:Shp),q3.k+1⟩:Bq)) Q9 rfl Q1 Q35⟩
 exact⟨Q9,hx1,(Ad Q2 Q2),A4 (j:=(⟨o6.c1,List.set q3.mQ q2.i (⟨x1.id,x1.fJ⟩:Shp),q3.k+1⟩:Bq)) Q9 rfl Q1 Q35⟩
 refine dsp (fun h6 p6=>?_) fun h6 p6=>?_
 refine⟨(Ao o6.c1 (1+o1.x) Q0),fun o7 ho_o7=>?_⟩
 obtain ⟨⟨hp_o7_0,hp_o7_1,hp_o7_2,hp_o7_3⟩,hf_o7⟩:=ho_o7
 refine⟨(Bo (l:=q3.mQ) (i:=Int.toNat o7.x) Q2),fun x1 hx1=>?_⟩
 have hri:x1.id∈G8 q3.mQ:=List.mem_map.2 ⟨_,List.mem_of_getElem? hx1,rfl⟩
 refine⟨hf_o7,Q2,Q2,hx1,(Bo (l:=q3.mQ) (i:=q2.i) Q2),fun x2 hx2=>?_⟩
 have hxl:=w5 _ hx2
 have hsame:=Gq hx2
 refine⟨hx2,Q2,Q2,Q2,Q2,rfl,Q52,rfl,Q52,(F8 _ _ Q2),fun h7=>have q7:=An h7;?_,fun h7=>have q7:=Am h7;?_⟩
 exact⟨Q2,Q2,Q2,Q2,rfl,Q52,Q5,Q2,Q2,Q2,Q2,rfl,hx2,rfl,Q52,Q5,Q2,Q2,Q2,Q2,rfl,hx2,rfl,rfl,(Ad Q2 Q2),A4 (j:=(⟨o7.c1,List.set q3.mQ q2.i (⟨x2.id,x2.fJ++[(⟨1+o3.x,1+o4.x,o5.p,false,x1.id⟩:Fld)]⟩:Shp),q3.k+1⟩:Bq)) Q9 rfl Q1 Q35⟩
 exact⟨Q9,hx2,(Ad Q2 Q2),A4 (j:=(⟨o7.c1,List.set q3.mQ q2.i (⟨x2.id,x2.fJ⟩:Shp),q3.k+1⟩:Bq)) Q9 rfl Q1 Q35⟩
 refine⟨(Bo (l:=q3.mQ) (i:=q2.i) Q2),fun x1 hx1=>?_⟩
 have hxl:=w5 _ hx1
 have hsame:=Gq hx1
 refine⟨hx1,Q2,Q2,Q2,Q2,rfl,Q53,rfl,Q53,(F8 _ _ Q2),fun h7=>have q7:=An h7;?_,fun h7=>have q7:=Am h7;?_⟩
 exact⟨Q2,Q2,Q2,Q2,rfl,Q53,Q5,Q2,Q2,Q2,Q2,rfl,hx1,rfl,Q53,Q5,Q2,Q2,Q2,Q2,rfl,hx1,rfl,rfl,(Ad Q2 Q2),A4 (j:=(⟨o6.c1,List.set q3.mQ q2.i (⟨x1.id,x1.fJ++[(⟨1+o3.x,1+o4.x,o5.p,false,0⟩:Fld)]⟩:Shp),q3.k+1⟩:Bq)) Q9 rfl Q1 Q35⟩
 exact⟨Q9,hx1,(Ad Q2 Q2),A4 (j:=(⟨o6.c1,List.set q3.mQ q2.i (⟨x1.id,x1.fJ⟩:Shp),q3.k+1⟩:Bq)) Q9 rfl Q1 Q35⟩
 exact⟨(Ad Q2 Q2),A4 (j:=(⟨q3.c,q3.mQ,q2.i+1⟩:Jv)) Q9 rfl (by dsimp only[F0];exact⟨by assumption,by omega,w3,fun j m hj hm=>w4 j m Q2 hm⟩) (by dsimp only[F0];omega)⟩
 exact⟨⟨((by dsimp only;rw[ulen];exact u3)),Q0⟩,rfl,rfl⟩
structure Pe where
 l:List Shp
 c1:Cur
def X0 (c:Cur) (o:Pe):Prop:=Fun Tryz.prog 148 [vP 0] [.cells (B1 c)] (.v (.agg [.own 1])) [.cells (B1 o.c1),.tree o.l]
def Ss (c:Cur) (o:Pe):Prop:=((SchG o.l)∧(1≤List.length o.l)∧(List.length o.l≤3)∧(As o.c1))∧X0 c o
theorem Ai2 (c:Cur) (hp1:As c): ∃o:Pe,Ss c o:=by
 have hN:A7=274877906944:=rfl
 refine B4 Tryz.func148 Q4 Q4 (w:=let z1:S:= .v (.agg [.own 1]);(.intro (Sr c) fun o1=> .sZ [.call [0] z1 [.cells (B1 o1.c1),.tree o1.r.mQ]] (.intro (Sq o1.r) fun o2=> .sZ [.call [] (.tup [.agg [.own 0],.agg [.int .i64 0,.int .i64 0,.int .i64 0]]) [.tree o2.l]] (.lJ (⟨o2.l,o1.c1⟩:Pe) [0,3])),In (Sr c) fun o1=>((Xz c o1)∧In (Sq o1.r) fun o2=>((Xy o1.r o2)∧((SchG o2.l)∧(1≤o2.l.length)∧(o2.l.length≤3)∧(As o1.c1))∧Lf z1 z1 [.cells (B1 o1.c1),.tree o2.l] [.cells (B1 o1.c1),.tree o2.l])))) Q4 ?_
 refine⟨(Ai1 c Q0),fun o1 ho_o1=>?_⟩
 obtain ⟨⟨hp_o1_0,hp_o1_1⟩,hf_o1⟩:=ho_o1
 refine⟨hf_o1,(Ai0 o1.r Q2),fun o2 ho_o2=>?_⟩
 obtain ⟨hp_o2,hf_o2⟩:=ho_o2
 exact⟨hf_o2,⟨Q2,(hp_o2.1.1),(hp_o2.1.2),Q0⟩,rfl,rfl⟩
structure Km where
 x:Int
 c1:Cur
def Pf (c:Cur) (l:List Int) (o:Km):Prop:=Fun Tryz.prog 86 [vP 0,vO 1] [.cells (B1 c),.lst .int l] (.v (vI o.x)) [.cells (B1 o.c1),.lst .int l]
def Hp (c:Cur) (l:List Int) (o:Km):Prop:=((o.x∈l)∧(As o.c1))∧Pf c l o
theorem X1 (c:Cur) (l:List Int) (hp1:As c) (hp2:1≤l.length) (hp3:l.length≤1000): ∃o:Km,Hp c l o:=by
 have hN:A7=274877906944:=rfl
 refine B4 Tryz.func86 Q4 Q4 (w:=let z1:=((l.length:Nat):Int);(.intro (Aa c z1) fun o1=> .sZ [.call [0] (.v (vI o1.x)) (Kc o1.c1)] (.intro (Sx (l[Int.toNat o1.x]?)) fun x1=> .sZ [.el .int x1] (.lJ (⟨x1,o1.c1⟩:Km) [0,1])),In (Aa c z1) fun o1=>((Ai c z1 o1)∧El (l[Int.toNat o1.x]?) fun x1=>((o1.x<z1)∧((0:Int)≤o1.x)∧(l[Int.toNat o1.x]? =some x1)∧((x1∈l)∧(As o1.c1))∧Lf (.v (vI x1)) (.v (vI x1)) [.cells (B1 o1.c1),.lst .int l] [.cells (B1 o1.c1),.lst .int l])))) Q4 ?_
 refine⟨(Ao c ((l.length:Nat):Int) Q0),fun o1 ho_o1=>?_⟩
 obtain ⟨⟨hp_o1_0,hp_o1_1,hp_o1_2,hp_o1_3⟩,hf_o1⟩:=ho_o1
 refine⟨hf_o1,(Bo (l:=l) (i:=Int.toNat o1.x) Q2),fun x1 hx1=>?_⟩
 exact⟨Q2,Q2,hx1,⟨(List.mem_of_getElem? hx1),Q0⟩,rfl,rfl⟩
structure Pg where
 p:Pln
 c1:Cur
def St (c:Cur) (o:Pg):Prop:=Fun Tryz.prog 79 [vP 0] [.cells (B1 c)] (.v (.agg (Mp o.p))) [.cells (B1 o.c1)]
def Lc (c:Cur) (o:Pg):Prop:=((PlnG o.p)∧(As o.c1))∧St c o
theorem Ab5 (c:Cur) (hp1:As c): ∃o:Pg,Lc c o:=by
 have hN:A7=274877906944:=rfl
 refine B4 Tryz.func79 Q4 Q4 (w:=let z9:=([(2,.v (vP 1))]:List (Nat×S))=[(2,.v (vP 1))];(.intro (Ss c) fun o1=> .sZ [.call [0] (.v (.agg [.own 1])) [.cells (B1 o1.c1),.tree o1.l]] (.intro (Aa o1.c1 ((o1.l.length:Nat):Int)) fun o2=> .intro (Aa o2.c1 4) fun o3=>let z5:S:= .v (vI (1+o3.x));.intro (Hp o3.c1 [60,60,2000,200,5,0]) fun o4=>let z1:List Blk:=[.cells (B1 o4.c1),.lst .int [60,60,2000,200,5,0]];.sZ [.tree (fr (.first 6 (.first 9 (.two 5 (.two 7 (.first 8 (.one 10 (.one 11 (.first 12 (.one 13 (.done)))))) 10 (.one 7 (.first 8 (.one 11 (.first 12 (.one 13 (.done))))))) 10 (.one 5 (.one 7 (.first 8 (.one 11 (.first 12 (.one 13 (.done)))))))))) 0 5) 13 [0],.call [0] (.v (vI o2.x)) (Kc o2.c1),.call [0] (.v (vI o3.x)) (Kc o3.c1),.as 14 z5,.ty .int,.call [0,4] (.v (vI o4.x)) z1,.at 0,.keep [2],.sel [0,1,2],.ty .int,.call [0] (.v (vI o3.x)) (Kc o3.c1),.as 14 z5,.call [0,4] (.v (vI o4.x)) z1,.at 0,.keep [2],.sel [0,1,2],.ty .int,.call [0] (.v (vI o2.x)) (Kc o2.c1),.call [0] (.v (vI o3.x)) (Kc o3.c1),.as 14 z5,.call [0,4] (.v (vI o4.x)) z1,.at 0,.keep [2],.sel [0,1,2],.at 0,.pub 1 0] (.lJ (⟨(⟨o1.l,o2.x,1+o3.x,o4.x⟩:Pln),o4.c1⟩:Pg) [0])),In (Ss c) fun o1=>(let z8:=((o1.l.length:Nat):Int);(X0 c o1)∧In (Aa o1.c1 z8) fun o2=>(let z7:=Ai o1.c1 z8 o2;In (Aa o2.c1 4) fun o3=>(let z6:=Ai o2.c1 4 o3;In (Hp o3.c1 [60,60,2000,200,5,0]) fun o4=>(let z2:List Blk:=[.cells (B1 o4.c1),.cells [.own 2,.int .i64 o2.x,.int .i64 (1+o3.x),.int .i64 o4.x],.tree o1.l];let z3:=Pf o3.c1 [60,60,2000,200,5,0] o4;let z4:S:= .v (.agg [.seq .shp o1.l,.int .i64 o2.x,.int .i64 (1+o3.x),.int .i64 o4.x]);z7∧z6∧(wI (1+o3.x))∧z3∧z6∧(wI (1+o3.x))∧z3∧((z2:List Blk)=z2)∧z9∧z7∧z6∧(wI (1+o3.x))∧z3∧((z2:List Blk)=z2)∧z9∧((PlnG (⟨o1.l,o2.x,1+o3.x,o4.x⟩:Pln))∧(As o4.c1))∧Lf z4 z4 (Kc o4.c1) (Kc o4.c1))))))) Q4 ?_
 refine⟨(Ai2 c Q0),fun o1 ho_o1=>?_⟩
 obtain ⟨⟨hp_o1_0,hp_o1_1,hp_o1_2,hp_o1_3⟩,hf_o1⟩:=ho_o1
 refine⟨hf_o1,(Ao o1.c1 ((o1.l.length:Nat):Int) Q0),fun o2 ho_o2=>?_⟩
 obtain ⟨⟨hp_o2_0,hp_o2_1,hp_o2_2,hp_o2_3⟩,hf_o2⟩:=ho_o2
 refine⟨(Ao o2.c1 4 Q0),fun o3 ho_o3=>?_⟩
 obtain ⟨⟨hp_o3_0,hp_o3_1,hp_o3_2,hp_o3_3⟩,hf_o3⟩:=ho_o3
 refine⟨(X1 o3.c1 [60,60,2000,200,5,0] Q0 Q5 Q5),fun o4 ho_o4=>?_⟩
 obtain ⟨⟨hp_o4_0,hp_o4_1⟩,hf_o4⟩:=ho_o4
 exact⟨hf_o2,hf_o3,(Ad Q2 Q2),hf_o4,hf_o3,(Ad Q2 Q2),hf_o4,rfl,rfl,hf_o2,hf_o3,(Ad Q2 Q2),hf_o4,rfl,rfl,⟨(⟨by assumption,by dsimp only;have:=hp_o1_0.1;omega,by dsimp only;omega,by have hpk:=hp_o4_0;simp at hpk;dsimp only;omega⟩),Q0⟩,rfl,rfl⟩
theorem Ai3 (x:Int):0≤IntKind.u64.wrap x∧IntKind.u64.wrap x≤18446744073709551615:=by
 rw[IntKind.wrap_u64];omega
theorem Akq {l:List Int} (hl:(l.all fun x=>decide (0≤x)&&decide (x≤18446744073709551615))=true) {i:Nat} {x:Int} (h:l[i]? =some x):0≤x∧x≤18446744073709551615:=by
 have:=List.all_eq_true.1 hl x (List.mem_of_getElem? h)
 simpa using this
theorem X2 {u:Int} (h:0≤u∧u≤18446744073709551615):1≤(Ef u).length∧(Ef u).length≤10:=by
 have:=Ad6 (u:=u) (by omega)
 unfold Lq at this
 omega
theorem Akr (u:Int) (hp1:(0:Int)≤u∧u≤18446744073709551615):Fun Tryz.prog 201 [.c (.int .u64 u)] [] (.v (vI (Lq u))) []:=by
 have hN:A7=274877906944:=rfl
 have hpl:=X2 hp1
 refine Ap Tryz.func201 Q4 Q4 (w:=(.sZ [.call [] (.v (vT (Ef u))) []] (.lJ () []),(Fp 202 [.c (.int .u64 u)] [] (.v (vT (Ef u))) [])∧Lf (.v (vI ((List.length (Ef u):Nat):Int))) (.v (vI (Lq u))) [] [])) Q4 ?_
 exact⟨(Vy _ Q2),(congrArg S.v (congrArg V.c (congrArg (C.int .i64) (by rfl)))),rfl⟩
structure M4 where
 t:List UInt8
def Zn (u:Int) (n:Int) (o:M4):Prop:=Fun Tryz.prog 200 [.c (.int .u64 u),vI n] [] (.v (vT o.t)) []
def Uq (u:Int) (n:Int) (o:M4):Prop:=((List.length (o.t:List UInt8)≤10))∧Zn u n o
structure Ph where
 oJ:List Int
def Pi (n:Int):Fam:=⟨Ph,fun q1=>[(1,.v (vI n)),(5,.v (vO 0))],fun q1=>[.lst .u8 q1.oJ],fun q1=>1≤List.length q1.oJ∧List.length q1.oJ≤10,fun q1=>10-List.length q1.oJ⟩
theorem Aks (u:Int) (n:Int) (hp1:(0:Int)≤u∧u≤18446744073709551615): ∃o:M4,Uq u n o:=by
 have hN:A7=274877906944:=rfl
 have hpl:=X2 hp1
 refine B4 Tryz.func200 Q4 Q4 (w:=let z7:=List.map (fun b=>(UInt8.toNat b:Int)) (Ef u);let z6:=((z7.length:Nat):Int);let z8:=Pi n;(.sZ [.call [] (.v (vT (Ef u))) [],.call [] (.v (vB (Ak n z6 10))) []] (.br (.lJ (⟨[]⟩:M4) []) (.sZ [.at 0,.keep [1,5],.sel [0]] (.loop z8 fun q1=>let z3:=((q1.oJ.length:Nat):Int)-1;.br (.sZ [.as 21 (.v (vI z3)),.as 25 (.v (vI z3))] (.intro (Sx (q1.oJ[Int.toNat z3]?)) fun x1=> .sZ [.el .u8 x1,.el .u8 x1,.ty .u8,.ty .u8,.at 0,.keep [1,5],.sel [2]] (.next))) (.lJ (⟨List.map Bh q1.oJ⟩:M4) [])))),(Fp 202 [.c (.int .u64 u)] [] (.v (vT (Ef u))) [])∧(List.length (Ef u)≤A7)∧(Fp 44 [vI n,vI z6,vI 10] [] (.v (vB (Ak n z6 10))) [])∧Bc (!(Ak n z6 10)) (((List.length ([]:List UInt8)≤10))∧Lf (.v (vT [])) (.v (vT [])) [] []) (z8.Has [(1,.v (vI n)),(5,.v (vO 0))] [.lst .u8 z7]∧∀q1,z8.inv q1→(let z4:=((q1.oJ.length:Nat):Int);let z5:=List.map Bh q1.oJ;Bc (decide (z4<n)) ((wI (z4-1))∧(wI (z4-1))∧El (q1.oJ[Int.toNat (z4-1)]?) fun x1=>(let z1:=List.set q1.oJ (Int.toNat (z4-1)) (IntKind.u8.wrap (x1+128));let z2:=q1.oJ[Int.toNat (z4-1)]? =some x1;(z4-1<z4)∧((0:Int)≤z4-1)∧z2∧(z4-1<z4)∧((0:Int)≤z4-1)∧z2∧(z1.length+List.length [0]≤A7)∧z8.Nxt q1 [(1,.v (vI n)),(5,.v (vO 0))] [.lst .u8 (z1++[0])])) (((List.length (z5:List UInt8)≤10))∧Lf (.v (vT z5)) (.v (vT z5)) [] []))))) Q4 ?_
 refine⟨(Vy _ Q2),Q2,(Bf _ _ _),fun h1=>have q1:=An h1;have p1:=Ay q1;?_,fun h1=>have q1:=Am h1;have p1:=Ar q1;?_⟩
 exact⟨Q5,rfl,rfl⟩
 refine⟨Bm (j:=(⟨List.map (fun b=>(UInt8.toNat b:Int)) (Ef u)⟩:Ph)) rfl rfl (by dsimp only[Pi];exact⟨by simp;omega,by simp;omega⟩),fun (q1:Ph) hq_q1=>?_⟩
 have hi_q1:1≤q1.oJ.length∧q1.oJ.length≤10:=hq_q1
 obtain ⟨v1,v2⟩:=hi_q1
 refine dsp (fun h2 p2=>?_) fun h2 p2=>?_
 refine⟨(Ad Q2 Q2),(Ad Q2 Q2),(Bo (l:=q1.oJ) (i:=Int.toNat (((q1.oJ.length:Nat):Int)-1)) Q2),fun x1 hx1=>?_⟩
 exact⟨Q2,Q2,hx1,Q2,Q2,hx1,Q77,A4 (j:=(⟨(List.set q1.oJ (Int.toNat (((q1.oJ.length:Nat):Int)-1)) (IntKind.u8.wrap (x1+128)))++[0]⟩:Ph)) rfl rfl (by dsimp only[Pi];exact⟨by simp,by simp;omega⟩) (by dsimp only[Pi];simp;omega)⟩
 exact⟨Q20,rfl,rfl⟩
structure Ku where
 x:Int
 c1:Cur
def Ej (c:Cur) (o:Ku):Prop:=Fun Tryz.prog 151 [vP 0] [.cells (B1 c)] (.v (.c (.int .u64 o.x))) [.cells (B1 o.c1)]
def Ch (c:Cur) (o:Ku):Prop:=(((0:Int)≤o.x∧o.x≤18446744073709551615)∧(As o.c1))∧Ej c o
structure Pj where
 c:Cur
 u:Int
 i:Nat
def Pk  :Fam:=⟨Pj,fun q1=>[(0,.v (vP 0)),(3,.v (.c (.int .u64 q1.u))),(4,.v (vI ((q1.i:Nat):Int)))],fun q1=>[.cells (B1 q1.c)],fun q1=>As q1.c∧q1.i≤8∧((0:Int)≤q1.u∧q1.u≤18446744073709551615),fun q1=>8-q1.i⟩
theorem Hq (c:Cur) (hp1:As c): ∃o:Ku,Ch c o:=by
 have hN:A7=274877906944:=rfl
 refine B4 Tryz.func151 Q4 Q4 (w:=let z2:=Pk;(.intro (Aa c 4) fun o1=> .sZ [.call [0] (.v (vI o1.x)) (Kc o1.c1)] (.br (.sZ [.ty .u64] (.intro (Aa o1.c1 12) fun o2=> .sZ [.call [0] (.v (vI o2.x)) (Kc o2.c1)] (.intro (Sx ([0,1,127,128,16383,16384,2147483647,4294967295,4294967296,9223372036854775807,9223372036854775808,18446744073709551615][Int.toNat o2.x]?)) fun x1=> .sZ [.el .u64 x1] (.lJ (⟨x1,o2.c1⟩:Ku) [0])))) (.br (.sZ [.at 0,.keep [0,3,4],.sel [0]] (.loop z2 fun q1=> .br (.intro (Ei q1.c) fun o2=> .sZ [.call [0] (.v (vI o2.x)) (Kc o2.c1),.as 24 (.v (.c (.int .u64 o2.x))),.as 19 (.v (vI (((q1.i:Nat):Int)+1))),.at 0,.keep [0,3,4],.sel [0]] (.next)) (.lJ (⟨q1.u,q1.c⟩:Ku) [0]))) (.intro (Aa o1.c1 300) fun o2=> .sZ [.call [0] (.v (vI o2.x)) (Kc o2.c1),.as 29 (.v (.c (.int .u64 o2.x)))] (.lJ (⟨o2.x,o2.c1⟩:Ku) [0])))),In (Aa c 4) fun o1=>((Ai c 4 o1)∧Bc (decide (o1.x=0)) (In (Aa o1.c1 12) fun o2=>((Ai o1.c1 12 o2)∧El ([0,1,127,128,16383,16384,2147483647,4294967295,4294967296,9223372036854775807,9223372036854775808,18446744073709551615][Int.toNat o2.x]?) fun x1=>((o2.x<((List.length [0,1,127,128,16383,16384,2147483647,4294967295,4294967296,9223372036854775807,9223372036854775808,18446744073709551615]:Nat):Int))∧((0:Int)≤o2.x)∧([0,1,127,128,16383,16384,2147483647,4294967295,4294967296,9223372036854775807,9223372036854775808,18446744073709551615][Int.toNat o2.x]? =some x1)∧(((0:Int)≤x1∧x1≤18446744073709551615)∧(As o2.c1))∧Lf (.v (.c (.int .u64 x1))) (.v (.c (.int .u64 x1))) (Kc o2.c1) (Kc o2.c1)))) (Bc (decide (o1.x=1)) (z2.Has [(0,.v (vP 0)),(3,.v (.c (.int .u64 0))),(4,.v (vI 0))] (Kc o1.c1)∧∀q1,z2.inv q1→(let z1:=((q1.i:Nat):Int);Bc (decide (z1<8)) (In (Ei q1.c) fun o2=>((G5 q1.c o2)∧(wU (o2.x))∧(wI (z1+1))∧z2.Nxt q1 [(0,.v (vP 0)),(3,.v (.c (.int .u64 (IntKind.u64.wrap ((IntKind.u64.wrap (256*q1.u))+o2.x))))),(4,.v (vI (z1+1)))] (Kc o2.c1))) ((((0:Int)≤q1.u∧q1.u≤18446744073709551615)∧(As q1.c))∧Lf (.v (.c (.int .u64 q1.u))) (.v (.c (.int .u64 q1.u))) (Kc q1.c) (Kc q1.c)))) (In (Aa o1.c1 300) fun o2=>((Ai o1.c1 300 o2)∧(wU (o2.x))∧(((0:Int)≤o2.x∧o2.x≤18446744073709551615)∧(As o2.c1))∧Lf (.v (.c (.int .u64 o2.x))) (.v (.c (.int .u64 o2.x))) (Kc o2.c1) (Kc o2.c1))))))) Q4 ?_
 refine⟨(Ao c 4 Q0),fun o1 ho_o1=>?_⟩
 obtain ⟨⟨hp_o1_0,hp_o1_1,hp_o1_2,hp_o1_3⟩,hf_o1⟩:=ho_o1
 refine⟨hf_o1,dsp (fun h1 p1=>?_) fun h1 p1=>?_⟩
 refine⟨(Ao o1.c1 12 Q0),fun o2 ho_o2=>?_⟩
 obtain ⟨⟨hp_o2_0,hp_o2_1,hp_o2_2,hp_o2_3⟩,hf_o2⟩:=ho_o2
 refine⟨hf_o2,(Bo (l:=[0,1,127,128,16383,16384,2147483647,4294967295,4294967296,9223372036854775807,9223372036854775808,18446744073709551615]) (i:=Int.toNat o2.x) Q5),fun x1 hx1=>?_⟩
 refine⟨Q5,Q2,?_⟩
 have hwx:=Akq (by decide) hx1
 exact⟨hx1,⟨Q2,Q0⟩,rfl,rfl⟩
 refine dsp (fun h2 p2=>?_) fun h2 p2=>?_
 refine⟨Bm (j:=(⟨o1.c1,0,0⟩:Pj)) Q9 rfl (by dsimp only[Pk];exact⟨by assumption,by omega,by omega⟩),fun (q1:Pj) hq_q1=>?_⟩
 have hi_q1:As q1.c∧q1.i≤8∧((0:Int)≤q1.u∧q1.u≤18446744073709551615):=hq_q1
 obtain ⟨v1,v2,v3⟩:=hi_q1
 refine dsp (fun h3 p3=>?_) fun h3 p3=>?_
 refine⟨(N7 q1.c Q0),fun o2 ho_o2=>?_⟩
 obtain ⟨⟨hp_o2_0,hp_o2_1⟩,hf_o2⟩:=ho_o2
 exact⟨hf_o2,(B3 Q2 Q2),(Ad Q2 Q2),A4 (j:=(⟨o2.c1,IntKind.u64.wrap ((IntKind.u64.wrap (256*q1.u))+o2.x),q1.i+1⟩:Pj)) Q9 rfl (by dsimp only[Pk];exact⟨by assumption,by omega,Ai3 _⟩) (by dsimp only[Pk];omega)⟩
 exact⟨⟨Q2,Q0⟩,rfl,rfl⟩
 refine⟨(Ao o1.c1 300 Q0),fun o2 ho_o2=>?_⟩
 obtain ⟨⟨hp_o2_0,hp_o2_1,hp_o2_2,hp_o2_3⟩,hf_o2⟩:=ho_o2
 exact⟨hf_o2,(B3 Q2 Q2),⟨Q2,Q0⟩,rfl,rfl⟩
structure M5 where
 t:List UInt8
 c1:Cur
def Aw (c:Cur) (u:Int) (o:M5):Prop:=Fun Tryz.prog 150 [vP 0,.c (.int .u64 u)] [.cells (B1 c)] (.v (vT o.t)) [.cells (B1 o.c1)]
def Ag (c:Cur) (u:Int) (o:M5):Prop:=((List.length (o.t:List UInt8)≤10)∧(As o.c1))∧Aw c u o
theorem Be (c:Cur) (u:Int) (hp1:As c) (hp2:(0:Int)≤u∧u≤18446744073709551615): ∃o:M5,Ag c u o:=by
 have hN:A7=274877906944:=rfl
 have hpl:=X2 hp2
 have hvl:Lq u=(((Ef u).length:Nat):Int):=rfl
 refine B4 Tryz.func150 Q4 Q4 (w:=let z3:S:= .v (vT (Ef u));let z4:=List.length ((Ef u):List UInt8)≤10;(.intro (Aq c 4) fun o1=> .sZ [.call [0] (.v (vB o1.p)) (Kc o1.c1)] (.br (.sZ [.call [] (.v (vI (Lq u))) []] (.intro (Aa o1.c1 3) fun o2=> .sZ [.call [0] (.v (vI o2.x)) (Kc o2.c1),.as 13 (.v (vI ((Lq u)+o2.x)))] (.intro (Uq u ((Lq u)+o2.x)) fun o3=> .sZ [.call [] (.v (vT o3.t)) []] (.br (.lJ (⟨o3.t,o2.c1⟩:M5) [0]) (.sZ [.call [] z3 []] (.lJ (⟨Ef u,o2.c1⟩:M5) [0])))))) (.sZ [.call [] z3 []] (.lJ (⟨Ef u,o1.c1⟩:M5) [0]))),In (Aq c 4) fun o1=>((Ba c 4 o1)∧Bc o1.p ((Fp 201 [.c (.int .u64 u)] [] (.v (vI (Lq u))) [])∧In (Aa o1.c1 3) fun o2=>(let z1:List Blk:=(Kc o2.c1);let z2:=(Lq u)+o2.x;(Ai o1.c1 3 o2)∧(wI z2)∧In (Uq u z2) fun o3=>((Zn u z2 o3)∧Bc (!decide (o3.t=[])) (((List.length (o3.t:List UInt8)≤10)∧(As o2.c1))∧Lf (.v (vT o3.t)) (.v (vT o3.t)) z1 z1) ((Fp 202 [.c (.int .u64 u)] [] z3 [])∧(z4∧(As o2.c1))∧Lf z3 z3 z1 z1)))) ((Fp 202 [.c (.int .u64 u)] [] z3 [])∧(z4∧(As o1.c1))∧Lf z3 z3 (Kc o1.c1) (Kc o1.c1))))) Q4 ?_
 refine⟨(Bz c 4 Q0),fun o1 ho_o1=>?_⟩
 obtain ⟨hp_o1,hf_o1⟩:=ho_o1
 refine⟨hf_o1,fun h1=>?_,fun h1=>?_⟩
 refine⟨(Akr _ Q2),(Ao o1.c1 3 Q0),fun o2 ho_o2=>?_⟩
 obtain ⟨⟨hp_o2_0,hp_o2_1,hp_o2_2,hp_o2_3⟩,hf_o2⟩:=ho_o2
 refine⟨hf_o2,(Ad Q2 Q2),(Aks u ((Lq u)+o2.x) Q2),fun o3 ho_o3=>?_⟩
 obtain ⟨hp_o3,hf_o3⟩:=ho_o3
 refine⟨hf_o3,fun h2=>have q2:=An h2;have p2:=of_decide_eq_false q2;?_,fun h2=>have q2:=Am h2;have p2:=of_decide_eq_true q2;?_⟩
 exact⟨⟨Q2,Q0⟩,rfl,rfl⟩
 exact⟨(Vy _ Q2),⟨Q2,Q0⟩,rfl,rfl⟩
 exact⟨(Vy _ Q2),⟨Q2,Q0⟩,rfl,rfl⟩
structure Jx where
 x:Int
 c1:Cur
def Vd (c:Cur) (o:Jx):Prop:=Fun Tryz.prog 176 [vP 0] [.cells (B1 c)] (.v (vI o.x)) [.cells (B1 o.c1)]
def Qp (c:Cur) (o:Jx):Prop:=((As o.c1))∧Vd c o
theorem Af5 (c:Cur) (hp1:As c): ∃o:Jx,Qp c o:=by
 have hN:A7=274877906944:=rfl
 refine B4 Tryz.func176 Q4 Q4 (w:=(.intro (Aq c 4) fun o1=> .sZ [.call [0] (.v (vB o1.p)) (Kc o1.c1)] (.br (.sZ [.ty .int,.pubS 6] (.intro (A0 o1.c1 [0,1,(-1),18999,19000,19999,20000,536870911,536870912,9223372036854775807]) fun o2=> .sZ [.call [0] (.v (vI o2.x)) (Kc o2.c1)] (.lJ (⟨o2.x,o2.c1⟩:Jx) [0]))) (.intro (Aa o1.c1 20) fun o2=> .sZ [.call [0] (.v (vI o2.x)) (Kc o2.c1),.as 10 (.v (vI (1+o2.x)))] (.lJ (⟨1+o2.x,o2.c1⟩:Jx) [0]))),In (Aq c 4) fun o1=>((Ba c 4 o1)∧Bc o1.p (In (A0 o1.c1 [0,1,(-1),18999,19000,19999,20000,536870911,536870912,9223372036854775807]) fun o2=>((B7 o1.c1 [0,1,(-1),18999,19000,19999,20000,536870911,536870912,9223372036854775807] o2)∧((As o2.c1))∧Lf (.v (vI o2.x)) (.v (vI o2.x)) (Kc o2.c1) (Kc o2.c1))) (In (Aa o1.c1 20) fun o2=>((Ai o1.c1 20 o2)∧(wI (1+o2.x))∧((As o2.c1))∧Lf (.v (vI (1+o2.x))) (.v (vI (1+o2.x))) (Kc o2.c1) (Kc o2.c1)))))) Q4 ?_
 refine⟨(Bz c 4 Q0),fun o1 ho_o1=>?_⟩
 obtain ⟨hp_o1,hf_o1⟩:=ho_o1
 refine⟨hf_o1,fun h1=>?_,fun h1=>?_⟩
 refine⟨(Cp o1.c1 [0,1,(-1),18999,19000,19999,20000,536870911,536870912,9223372036854775807] Q0 Q5 Q5),fun o2 ho_o2=>?_⟩
 obtain ⟨⟨hp_o2_0,hp_o2_1⟩,hf_o2⟩:=ho_o2
 exact⟨hf_o2,Q0,rfl,rfl⟩
 refine⟨(Ao o1.c1 20 Q0),fun o2 ho_o2=>?_⟩
 obtain ⟨⟨hp_o2_0,hp_o2_1,hp_o2_2,hp_o2_3⟩,hf_o2⟩:=ho_o2
 exact⟨hf_o2,(Ad Q2 Q2),Q0,rfl,rfl⟩
theorem Rq {t:List UInt8} {l:List (List UInt8)} {n:Nat} (h:t∈l) (hl:(l.all fun x=>decide (x.length≤n))=true):t.length≤n:=by
 have:=List.all_eq_true.1 hl t h
 simpa using this
structure Rr where
 t:List UInt8
 c1:Cur
def Rs (c:Cur) (l:List (List UInt8)) (o:Rr):Prop:=Fun Tryz.prog 178 [vP 0,.c (.seq .str l)] [.cells (B1 c)] (.v (vT o.t)) [.cells (B1 o.c1)]
def Jd (c:Cur) (l:List (List UInt8)) (o:Rr):Prop:=((o.t∈l)∧(As o.c1))∧Rs c l o
theorem Aav (c:Cur) (l:List (List UInt8)) (hp1:As c) (hp2:1≤l.length) (hp3:l.length≤1000): ∃o:Rr,Jd c l o:=by
 have hN:A7=274877906944:=rfl
 refine B4 Tryz.func178 Q4 Q4 (w:=let z1:=((l.length:Nat):Int);(.intro (Aa c z1) fun o1=> .sZ [.call [0] (.v (vI o1.x)) (Kc o1.c1)] (.intro (Sx (l[Int.toNat o1.x]?)) fun x1=> .sZ [.el .str x1] (.lJ (⟨x1,o1.c1⟩:Rr) [0])),In (Aa c z1) fun o1=>((Ai c z1 o1)∧El (l[Int.toNat o1.x]?) fun x1=>((l[Int.toNat o1.x]? =some x1)∧((0:Int)≤o1.x)∧((x1∈l)∧(As o1.c1))∧Lf (.v (vT x1)) (.v (vT x1)) (Kc o1.c1) (Kc o1.c1))))) Q4 ?_
 refine⟨(Ao c ((l.length:Nat):Int) Q0),fun o1 ho_o1=>?_⟩
 obtain ⟨⟨hp_o1_0,hp_o1_1,hp_o1_2,hp_o1_3⟩,hf_o1⟩:=ho_o1
 refine⟨hf_o1,(Bo (l:=l) (i:=Int.toNat o1.x) Q2),fun x1 hx1=>?_⟩
 exact⟨hx1,Q2,⟨(List.mem_of_getElem? hx1),Q0⟩,rfl,rfl⟩
structure Ld where
 t:List UInt8
 c1:Cur
def Su (c:Cur) (s:List UInt8) (o:Ld):Prop:=Fun Tryz.prog 203 [vP 0,vT s] [.cells (B1 c)] (.v (vT o.t)) [.cells (B1 o.c1)]
def Le (c:Cur) (s:List UInt8) (o:Ld):Prop:=((List.length (o.t:List UInt8)≤List.length s+2)∧(As o.c1))∧Su c s o
theorem Ab6 (c:Cur) (s:List UInt8) (hp1:As c) (hp2:s.length≤1000000): ∃o:Ld,Le c s o:=by
 have hN:A7=274877906944:=rfl
 have hml:List.length (List.map (fun b=>(UInt8.toNat b:Int)) s)=s.length:=by simp
 refine B4 Tryz.func203 Q4 Q4 (w:=let z6:=List.map (fun b=>(UInt8.toNat b:Int)) s;let z7:=((z6.length:Nat):Int);(.br (.intro (Br c 2) fun o1=> .sZ [.call [0] (.v (vO 1)) [.cells (B1 o1.c1),.lst .u8 o1.l]] (.lJ (⟨List.map Bh o1.l,o1.c1⟩:Ld) [0])) (.intro (Aa c z7) fun o1=> .sZ [.call [0] (.v (vI o1.x)) (Kc o1.c1)] (.intro (Sx (z6[Int.toNat o1.x]?)) fun x1=> .intro (Aa o1.c1 255) fun o2=> .sZ [.ord (os 13 [7,12]) [0],.el .u8 x1,.call [0] (.v (vI o2.x)) (Kc o2.c1),.as 26 (.v (vI (1+o2.x))),.as 27 (.v (.c (.int .u8 (1+o2.x)))),.el .u8 x1] (.lJ (⟨List.map Bh (List.set z6 (Int.toNat o1.x) (IntKind.u8.wrap (((BitVec.ofInt 8 x1 ^^^ BitVec.ofInt 8 (1+o2.x)).toNat:Nat)))),o2.c1⟩:Ld) [0]))),Bc (decide (s=[])) (In (Br c 2) fun o1=>(let z1:=List.map Bh o1.l;(C7 c 2 o1)∧((List.length (z1:List UInt8)≤s.length+2)∧(As o1.c1))∧Lf (.v (vT z1)) (.v (vT z1)) (Kc o1.c1) (Kc o1.c1))) (In (Aa c z7) fun o1=>(let z4:=o1.x<z7;let z5:=(0:Int)≤o1.x;(s.length≤A7)∧(Ai c z7 o1)∧El (z6[Int.toNat o1.x]?) fun x1=>(let z3:=z6[Int.toNat o1.x]? =some x1;In (Aa o1.c1 255) fun o2=>(let z2:=List.map Bh (List.set z6 (Int.toNat o1.x) (IntKind.u8.wrap (((BitVec.ofInt 8 x1 ^^^ BitVec.ofInt 8 (1+o2.x)).toNat:Nat))));z4∧z5∧z4∧z5∧z3∧z3∧(Ai o1.c1 255 o2)∧(wI (1+o2.x))∧((.v (.c (.int .u8 (IntKind.u8.wrap (1+o2.x)))):S)= .v (.c (.int .u8 (1+o2.x))))∧z4∧z5∧z4∧z5∧z3∧((List.length (z2:List UInt8)≤s.length+2)∧(As o2.c1))∧Lf (.v (vT z2)) (.v (vT z2)) (Kc o2.c1) (Kc o2.c1))))))) Q4 ?_
 refine dsp (fun h1 p1=>?_) fun h1 p1=>?_
 refine⟨(Et c 2 Q0 Q2),fun o1 ho_o1=>?_⟩
 obtain ⟨⟨hp_o1_0,hp_o1_1⟩,hf_o1⟩:=ho_o1
 exact⟨hf_o1,⟨Q20,Q0⟩,rfl,rfl⟩
 have hne:1≤s.length:=List.length_pos_iff.2 (by simpa using p1)
 refine⟨(Ao c ((List.length (List.map (fun b=>(UInt8.toNat b:Int)) s):Nat):Int) Q0),fun o1 ho_o1=>?_⟩
 refine⟨Q2,?_⟩
 obtain ⟨⟨hp_o1_0,hp_o1_1,hp_o1_2,hp_o1_3⟩,hf_o1⟩:=ho_o1
 refine⟨hf_o1,(Bo (l:=List.map (fun b=>(UInt8.toNat b:Int)) s) (i:=Int.toNat o1.x) Q20),fun x1 hx1=>?_⟩
 refine⟨(Ao o1.c1 255 Q0),fun o2 ho_o2=>?_⟩
 obtain ⟨⟨hp_o2_0,hp_o2_1,hp_o2_2,hp_o2_3⟩,hf_o2⟩:=ho_o2
 exact⟨Q20,Q2,Q20,Q2,hx1,hx1,hf_o2,(Ad Q2 Q2),(Mt Q2 Q2),Q20,Q2,Q20,Q2,hx1,⟨(by simp only[List.length_set,List.length_map];omega),Q0⟩,rfl,rfl⟩
structure Eu where
 t:List UInt8
def Ve (n:Int) (o:Eu):Prop:=Fun Tryz.prog 227 [vI n] [] (.v (vT o.t)) []
def Qq (n:Int) (o:Eu):Prop:=((List.length (o.t:List UInt8)≤4))∧Ve n o
theorem Af6 (n:Int): ∃o:Eu,Qq n o:=by
 have hN:A7=274877906944:=rfl
 have t64:0≤n→Int.tdiv n 64=n / 64:=fun h=>Int.tdiv_eq_ediv_of_nonneg h
 have t4096:0≤n→Int.tdiv n 4096=n / 4096:=fun h=>Int.tdiv_eq_ediv_of_nonneg h
 have t262144:0≤n→Int.tdiv n 262144=n / 262144:=fun h=>Int.tdiv_eq_ediv_of_nonneg h
 refine B4 Tryz.func227 Q4 Q4 (w:=let z2:=Int.tmod n 64;let z3:=Int.tdiv n 4096;let z4:=Int.tdiv n 64;let z1:=Int.tmod z4 64;let z7:=Int.tdiv n 262144;let z5:=List.map Bh [240+z7,128+(Int.tmod z3 64),128+z1,128+z2];let z8:=(64:Int)≠0;let z9:=List.map Bh [224+z3,128+z1,128+z2];let z10:=128+(Int.tmod z3 64);let z12:=((List.length ([]:List UInt8)≤4))∧Lf (.v (vT [])) (.v (vT [])) [] [];let z13:=128+z2;let z6:=(.v (.c (.int .u8 (IntKind.u8.wrap z13))):S)= .v (.c (.int .u8 z13));let z14:=List.map Bh [192+z4,128+z2];let z15:=128+z1;let z11:=(.v (.c (.int .u8 (IntKind.u8.wrap z15))):S)= .v (.c (.int .u8 z15));let z16:S:= .v (.c (.int .u8 z13));let z17:=Ak n 55296 57343;let z18:=List.map Bh [n];let z19:=Ak n 0 1114111;(.sZ [.call [] (.v (vB z19)) []] (.br (.lJ (⟨[]⟩:Eu) []) (.sZ [.call [] (.v (vB z17)) []] (.br (.lJ (⟨[]⟩:Eu) []) (.br (.sZ [.as 15 (.v (.c (.int .u8 n))),.ty .u8] (.lJ (⟨List.map Bh [n]⟩:Eu) [])) (.br (.sZ [.as 22 (.v (vI z4)),.as 23 (.v (vI (192+z4))),.as 24 (.v (.c (.int .u8 (192+z4)))),.as 27 (.v (vI z13)),.as 28 z16,.ty .u8] (.lJ (⟨List.map Bh [192+z4,128+z2]⟩:Eu) [])) (.br (.sZ [.as 35 (.v (vI z3)),.as 36 (.v (vI (224+z3))),.as 37 (.v (.c (.int .u8 (224+z3)))),.as 39 (.v (vI z4)),.as 41 (.v (vI z15)),.as 42 (.v (.c (.int .u8 z15))),.as 45 (.v (vI z13)),.as 46 z16,.ty .u8] (.lJ (⟨List.map Bh [224+z3,128+z1,128+z2]⟩:Eu) [])) (.sZ [.as 50 (.v (vI z7)),.as 51 (.v (vI (240+z7))),.as 52 (.v (.c (.int .u8 (240+z7)))),.as 54 (.v (vI z3)),.as 56 (.v (vI z10)),.as 57 (.v (.c (.int .u8 z10))),.as 59 (.v (vI z4)),.as 61 (.v (vI z15)),.as 62 (.v (.c (.int .u8 z15))),.as 65 (.v (vI z13)),.as 66 z16,.ty .u8] (.lJ (⟨List.map Bh [240+z7,128+(Int.tmod z3 64),128+z1,128+z2]⟩:Eu) [])))))))),(Fp 44 [vI n,vI 0,vI 1114111] [] (.v (vB z19)) [])∧Bc (!z19) z12 ((Fp 44 [vI n,vI 55296,vI 57343] [] (.v (vB z17)) [])∧Bc z17 z12 (Bc (decide (n<128)) (((.v (.c (.int .u8 (IntKind.u8.wrap (n)))):S)= .v (.c (.int .u8 n)))∧((List.length (z18:List UInt8)≤4))∧Lf (.v (vT z18)) (.v (vT z18)) [] []) (Bc (decide (n<2048)) (z8∧(wI z4)∧(wI (192+z4))∧((.v (.c (.int .u8 (IntKind.u8.wrap (192+z4)))):S)= .v (.c (.int .u8 (192+z4))))∧z8∧(wI z13)∧z6∧((List.length (z14:List UInt8)≤4))∧Lf (.v (vT z14)) (.v (vT z14)) [] []) (Bc (decide (n<65536)) (((4096:Int)≠0)∧(wI z3)∧(wI (224+z3))∧((.v (.c (.int .u8 (IntKind.u8.wrap (224+z3)))):S)= .v (.c (.int .u8 (224+z3))))∧z8∧(wI z4)∧z8∧(wI z15)∧z11∧z8∧(wI z13)∧z6∧((List.length (z9:List UInt8)≤4))∧Lf (.v (vT z9)) (.v (vT z9)) [] []) (((262144:Int)≠0)∧(wI z7)∧(wI (240+z7))∧((.v (.c (.int .u8 (IntKind.u8.wrap (240+z7)))):S)= .v (.c (.int .u8 (240+z7))))∧((4096:Int)≠0)∧(wI z3)∧z8∧(wI z10)∧((.v (.c (.int .u8 (IntKind.u8.wrap z10))):S)= .v (.c (.int .u8 z10)))∧z8∧(wI z4)∧z8∧(wI z15)∧z11∧z8∧(wI z13)∧z6∧((List.length (z5:List UInt8)≤4))∧Lf (.v (vT z5)) (.v (vT z5)) [] []))))))) Q4 ?_
 refine⟨(Bf _ _ _),fun h1=>have q1:=An h1;have p1:=Ay q1;?_,fun h1=>have q1:=Am h1;have p1:=Ar q1;?_⟩
 exact⟨(by simp),rfl,rfl⟩
 refine⟨(Bf _ _ _),fun h2=>have p2:=Ar h2;?_,fun h2=>have p2:=Ay h2;?_⟩
 exact⟨(by simp),rfl,rfl⟩
 refine dsp (fun h3 p3=>?_) fun h3 p3=>?_
 exact⟨(Mt Q2 Q2),(by simp),rfl,rfl⟩
 refine dsp (fun h4 p4=>?_) fun h4 p4=>?_
 exact⟨Q30,(Ad Q2 Q2),(Ad Q2 Q2),(Mt Q2 Q2),Q30,(Ad Q56 Q56),(Mt Q56 Q56),(by simp),rfl,rfl⟩
 refine dsp (fun h5 p5=>?_) fun h5 p5=>?_
 exact⟨Q30,(Ad Q2 Q2),(Ad Q2 Q2),(Mt Q2 Q2),Q30,(Ad Q2 Q2),Q30,(Ad Q57 Q57),(Mt Q57 Q57),Q30,(Ad Q56 Q56),(Mt Q56 Q56),(by simp),rfl,rfl⟩
 exact⟨Q30,(Ad Q2 Q2),(Ad Q2 Q2),(Mt Q2 Q2),Q30,(Ad Q2 Q2),Q30,(Ad Q78 Q78),(Mt Q78 Q78),Q30,(Ad Q2 Q2),Q30,(Ad Q57 Q57),(Mt Q57 Q57),Q30,(Ad Q56 Q56),(Mt Q56 Q56),(by simp),rfl,rfl⟩
structure Rt where
 x:Int
 c1:Cur
def Zo (c:Cur) (o:Rt):Prop:=Fun Tryz.prog 228 [vP 0] [.cells (B1 c)] (.v (vI o.x)) [.cells (B1 o.c1)]
def Ur (c:Cur) (o:Rt):Prop:=((As o.c1))∧Zo c o
theorem Akt (c:Cur) (hp1:As c): ∃o:Rt,Ur c o:=by
 have hN:A7=274877906944:=rfl
 refine B4 Tryz.func228 Q4 Q4 (w:=(.intro (Aa c 1114112) fun o1=> .sZ [.call [0] (.v (vI o1.x)) (Kc o1.c1),.ty .int,.pubS 6] (.intro (A0 o1.c1 [0,65,127,128,2047,2048,4095,55295,57344,65535,65536,1114111,o1.x]) fun o2=> .sZ [.call [0] (.v (vI o2.x)) (Kc o2.c1)] (.lJ (⟨o2.x,o2.c1⟩:Rt) [0])),In (Aa c 1114112) fun o1=>((Ai c 1114112 o1)∧In (A0 o1.c1 [0,65,127,128,2047,2048,4095,55295,57344,65535,65536,1114111,o1.x]) fun o2=>((B7 o1.c1 [0,65,127,128,2047,2048,4095,55295,57344,65535,65536,1114111,o1.x] o2)∧((As o2.c1))∧Lf (.v (vI o2.x)) (.v (vI o2.x)) (Kc o2.c1) (Kc o2.c1))))) Q4 ?_
 refine⟨(Ao c 1114112 Q0),fun o1 ho_o1=>?_⟩
 obtain ⟨⟨hp_o1_0,hp_o1_1,hp_o1_2,hp_o1_3⟩,hf_o1⟩:=ho_o1
 refine⟨hf_o1,(Cp o1.c1 [0,65,127,128,2047,2048,4095,55295,57344,65535,65536,1114111,o1.x] Q0 Q5 Q5),fun o2 ho_o2=>?_⟩
 obtain ⟨⟨hp_o2_0,hp_o2_1⟩,hf_o2⟩:=ho_o2
 exact⟨hf_o2,Q0,rfl,rfl⟩
structure Ru where
 t:List UInt8
 c1:Cur
def Us (c:Cur) (n:Int) (o:Ru):Prop:=Fun Tryz.prog 213 [vP 0,vI n] [.cells (B1 c)] (.v (vT o.t)) [.cells (B1 o.c1)]
def M6 (c:Cur) (n:Int) (o:Ru):Prop:=((List.length (o.t:List UInt8)≤4*Int.toNat n)∧(As o.c1))∧Us c n o
structure Pm where
 c:Cur
 s:List UInt8
 i:Nat
def Pn (n:Int):Fam:=⟨Pm,fun q1=>[(0,.v (vP 0)),(1,.v (vI n)),(5,.v (vT q1.s)),(6,.v (vI ((q1.i:Nat):Int)))],fun q1=>[.cells (B1 q1.c)],fun q1=>As q1.c∧(q1.i=0∨((q1.i:Nat):Int)≤n)∧List.length q1.s≤4*q1.i,fun q1=>Int.toNat n-q1.i⟩
theorem Aew (c:Cur) (n:Int) (hp1:As c) (hp2:n≤1000): ∃o:Ru,M6 c n o:=by
 have hN:A7=274877906944:=rfl
 refine B4 Tryz.func213 Q4 Q4 (w:=let z2:=Pn n;(.sZ [.at 0,.keep [0,1,5,6],.sel [0]] (.loop z2 fun q1=> .br (.intro (Ur q1.c) fun o1=> .sZ [.call [0] (.v (vI o1.x)) (Kc o1.c1)] (.intro (Qq o1.x) fun o2=> .sZ [.call [] (.v (vT o2.t)) [],.as 11 (.v (vI (((q1.i:Nat):Int)+1))),.at 0,.keep [0,1,5,6],.sel [0]] (.next))) (.lJ (⟨q1.s,q1.c⟩:Ru) [0])),z2.Has [(0,.v (vP 0)),(1,.v (vI n)),(5,.v (vT [])),(6,.v (vI 0))] (Kc c)∧∀q1,z2.inv q1→(let z1:=((q1.i:Nat):Int);Bc (decide (z1<n)) (In (Ur q1.c) fun o1=>((Zo q1.c o1)∧In (Qq o1.x) fun o2=>((Ve o1.x o2)∧(((q1.s.length+o2.t.length:Nat):Int)≤Bg)∧(wI (z1+1))∧z2.Nxt q1 [(0,.v (vP 0)),(1,.v (vI n)),(5,.v (vT (q1.s++o2.t))),(6,.v (vI (z1+1)))] (Kc o1.c1)))) (((List.length (q1.s:List UInt8)≤4*Int.toNat n)∧(As q1.c))∧Lf (.v (vT q1.s)) (.v (vT q1.s)) (Kc q1.c) (Kc q1.c))))) Q4 ?_
 refine⟨Bm (j:=(⟨c,[],0⟩:Pm)) Q9 rfl (by dsimp only[Pn];exact⟨by assumption,.inl rfl,by simp⟩),fun (q1:Pm) hq_q1=>?_⟩
 have hi_q1:As q1.c∧(q1.i=0∨((q1.i:Nat):Int)≤n)∧q1.s.length≤4*q1.i:=hq_q1
 obtain ⟨v1,v2,v3⟩:=hi_q1
 refine dsp (fun h1 p1=>?_) fun h1 p1=>?_
 refine⟨(Akt q1.c Q0),fun o1 ho_o1=>?_⟩
 obtain ⟨hp_o1,hf_o1⟩:=ho_o1
 refine⟨hf_o1,(Af6 o1.x),fun o2 ho_o2=>?_⟩
 obtain ⟨hp_o2,hf_o2⟩:=ho_o2
 exact⟨hf_o2,(by simp only[Bg];omega),(Ad Q2 Q2),A4 (j:=(⟨o1.c1,q1.s++o2.t,q1.i+1⟩:Pm)) Q9 rfl (by dsimp only[Pn];exact⟨by assumption,by omega,by simp;omega⟩) (by dsimp only[Pn];omega)⟩
 exact⟨⟨Q2,Q0⟩,rfl,rfl⟩
structure Je where
 t:List UInt8
 c1:Cur
def Ut (c:Cur) (o:Je):Prop:=Fun Tryz.prog 174 [vP 0] [.cells (B1 c)] (.v (vT o.t)) [.cells (B1 o.c1)]
def M7 (c:Cur) (o:Je):Prop:=((List.length (o.t:List UInt8)≤16)∧(As o.c1))∧Ut c o
theorem Aex (c:Cur) (hp1:As c): ∃o:Je,M7 c o:=by
 have hN:A7=274877906944:=rfl
 refine B4 Tryz.func174 Q4 Q4 (w:=(.intro (Aa c 4) fun o1=> .sZ [.call [0] (.v (vI o1.x)) (Kc o1.c1)] (.intro (M6 o1.c1 o1.x) fun o2=>let z2:=((o2.t.length:Nat):Int)+1;.sZ [.call [0] (.v (vT o2.t)) (Kc o2.c1)] (.intro (Aa o2.c1 4) fun o3=> .sZ [.call [0] (.v (vI o3.x)) (Kc o3.c1)] (.br (.intro (Le o3.c1 o2.t) fun o4=> .sZ [.call [0] (.v (vT o4.t)) (Kc o4.c1)] (.lJ (⟨o4.t,o4.c1⟩:Je) [0])) (.br (.sZ [.as 21 (.v (vI z2))] (.intro (Aa o3.c1 z2) fun o4=> .sZ [.call [0] (.v (vI o4.x)) (Kc o4.c1)] (.lJ (⟨List.take (Int.toNat o4.x) o2.t,o4.c1⟩:Je) [0]))) (.br (.sZ [.ty .str,.pubS 28] (.intro (Jd o3.c1 [[128],[192,128],[224,159,191],[237,160,128],[240,143,191,191],[244,144,128,128],[245],[255],[226,130],[193,191]]) fun o4=> .sZ [.call [0] (.v (vT o4.t)) (Kc o4.c1)] (.lJ (⟨o2.t++o4.t,o4.c1⟩:Je) [0]))) (.lJ (⟨o2.t,o3.c1⟩:Je) [0])))))),In (Aa c 4) fun o1=>((Ai c 4 o1)∧In (M6 o1.c1 o1.x) fun o2=>(let z3:=((o2.t.length:Nat):Int);(Us o1.c1 o1.x o2)∧In (Aa o2.c1 4) fun o3=>((Ai o2.c1 4 o3)∧Bc (decide (o3.x=0)) (In (Le o3.c1 o2.t) fun o4=>((Su o3.c1 o2.t o4)∧((List.length (o4.t:List UInt8)≤16)∧(As o4.c1))∧Lf (.v (vT o4.t)) (.v (vT o4.t)) (Kc o4.c1) (Kc o4.c1))) (Bc (decide (o3.x=1)) ((wI (z3+1))∧In (Aa o3.c1 (z3+1)) fun o4=>(let z1:=List.take (Int.toNat o4.x) o2.t;(Ai o3.c1 (z3+1) o4)∧(o4.x≤z3)∧((0:Int)≤o4.x)∧((List.length (z1:List UInt8)≤16)∧(As o4.c1))∧Lf (.v (vT z1)) (.v (vT z1)) (Kc o4.c1) (Kc o4.c1))) (Bc (decide (o3.x=2)) (In (Jd o3.c1 [[128],[192,128],[224,159,191],[237,160,128],[240,143,191,191],[244,144,128,128],[245],[255],[226,130],[193,191]]) fun o4=>((Rs o3.c1 [[128],[192,128],[224,159,191],[237,160,128],[240,143,191,191],[244,144,128,128],[245],[255],[226,130],[193,191]] o4)∧(((o2.t.length+o4.t.length:Nat):Int)≤Bg)∧((List.length ((o2.t++o4.t):List UInt8)≤16)∧(As o4.c1))∧Lf (.v (vT (o2.t++o4.t))) (.v (vT (o2.t++o4.t))) (Kc o4.c1) (Kc o4.c1))) (((List.length (o2.t:List UInt8)≤16)∧(As o3.c1))∧Lf (.v (vT o2.t)) (.v (vT o2.t)) (Kc o3.c1) (Kc o3.c1))))))))) Q4 ?_
 refine⟨(Ao c 4 Q0),fun o1 ho_o1=>?_⟩
 obtain ⟨⟨hp_o1_0,hp_o1_1,hp_o1_2,hp_o1_3⟩,hf_o1⟩:=ho_o1
 refine⟨hf_o1,(Aew o1.c1 o1.x Q0 Q2),fun o2 ho_o2=>?_⟩
 obtain ⟨⟨hp_o2_0,hp_o2_1⟩,hf_o2⟩:=ho_o2
 refine⟨hf_o2,(Ao o2.c1 4 Q0),fun o3 ho_o3=>?_⟩
 obtain ⟨⟨hp_o3_0,hp_o3_1,hp_o3_2,hp_o3_3⟩,hf_o3⟩:=ho_o3
 refine⟨hf_o3,dsp (fun h1 p1=>?_) fun h1 p1=>?_⟩
 refine⟨(Ab6 o3.c1 o2.t Q0 Q2),fun o4 ho_o4=>?_⟩
 obtain ⟨⟨hp_o4_0,hp_o4_1⟩,hf_o4⟩:=ho_o4
 exact⟨hf_o4,⟨Q2,Q0⟩,rfl,rfl⟩
 refine dsp (fun h2 p2=>?_) fun h2 p2=>?_
 refine⟨(Ad Q2 Q2),(Ao o3.c1 (((o2.t.length:Nat):Int)+1) Q0),fun o4 ho_o4=>?_⟩
 obtain ⟨⟨hp_o4_0,hp_o4_1,hp_o4_2,hp_o4_3⟩,hf_o4⟩:=ho_o4
 exact⟨hf_o4,Q2,Q2,⟨(by simp only[List.length_take];omega),Q0⟩,rfl,rfl⟩
 refine dsp (fun h3 p3=>?_) fun h3 p3=>?_
 refine⟨(Aav o3.c1 [[128],[192,128],[224,159,191],[237,160,128],[240,143,191,191],[244,144,128,128],[245],[255],[226,130],[193,191]] Q0 Q5 Q5),fun o4 ho_o4=>?_⟩
 obtain ⟨⟨hp_o4_0,hp_o4_1⟩,hf_o4⟩:=ho_o4
 exact⟨hf_o4,(by have:=Rq (n:=4) hp_o4_0 Q30;simp only[Bg];omega),⟨(by have:=Rq (n:=4) hp_o4_0 Q30;simp;omega),Q0⟩,rfl,rfl⟩
 exact⟨⟨Q2,Q0⟩,rfl,rfl⟩
end Go.Proofs.YtphecbmdhbphgaaGreat.Ax
