/- Drawn descriptions. Drawn plans. Drawn numbers. Drawn texts. -/
import Derived.Test.YtcmnedgnppnhoaaGreatKS2
set_option linter.unusedSimpArgs false
set_option linter.unusedVariables false
namespace Go.Proofs.YtcmnedgnppnhoaaGreat.Ax
open Go.RowKit
theorem Ab3 {n:Int} (h:1≤n∧n≤18999∨20000≤n∧n≤536870911):D9 n=true:=by
 simp only[D9,Aq,Bool.and_eq_true,Bool.not_eq_true',Bool.and_eq_false_iff,decide_eq_true_eq,decide_eq_false_iff_not]
 omega
theorem Aqz {x:Int} (h:x∈([16,2047,2048,18999,20000,536870911]:List Int)):1≤x∧x≤18999∨20000≤x∧x≤536870911:=by
 simp at h
 omega
theorem Af3 {k:Int} (h:Cy k=true):k≤5:=by
 simp only[Cy,Aq,Bool.and_eq_true,decide_eq_true_eq] at h
 omega
theorem Aku {l:List Shp} {i:Nat} {x m:Shp} {k:Nat} (hx:x.fields.length≤k) (hm:(l.set i x)[i]? =some m):m.fields.length≤k:=by
 rw[List.getElem?_set] at hm
 simp at hm
 obtain ⟨_,rfl⟩:=hm
 exact hx
structure N9 where
 r:Raw
 c1:Cur
def Xr (c:Cur) (o:N9):Prop:=Fun Tryz.prog 193 [vP 0] [.cells (Au c)] (.v (.agg [.own 1])) [.cells (Au o.c1),.tree o.r.msgs]
def Sz (c:Cur) (o:N9):Prop:=((RawK (List.length (o.r).msgs) (o.r).msgs)∧(A6 o.c1))∧Xr c o
structure Mc where
 c:Cur
 msgs:List Shp
 i:Nat
def Ga (o1:Du):Fam:=⟨Mc,fun q1=>[(0,.v (vP 0)),(2,.v (vP 1)),(3,.v (vP 2)),(4,.v (vI (1+o1.x))),(5,.v (vI ((q1.i:Nat):Int)))],fun q1=>[.cells (Au q1.c),.cells [.nil],.cells [.own 3],.tree q1.msgs],fun q1=>A6 q1.c∧((q1.i:Nat):Int)≤1+o1.x∧List.length q1.msgs=q1.i∧Hw q1.msgs=List.take q1.i [5,1,99]∧∀m∈q1.msgs,m.fields=[],fun q1=>3-q1.i⟩
structure J7 where
 c:Cur
 msgs:List Shp
 i:Nat
def Gb (o1:Du):Fam:=⟨J7,fun q2=>[(0,.v (vP 0)),(2,.v (vP 1)),(3,.v (vP 2)),(4,.v (vI (1+o1.x))),(6,.v (vI ((q2.i:Nat):Int)))],fun q2=>[.cells (Au q2.c),.cells [.nil],.cells [.own 3],.tree q2.msgs],fun q2=>A6 q2.c∧q2.i≤Int.toNat (1+o1.x)∧RawK (Int.toNat (1+o1.x)) q2.msgs∧∀j m,q2.i≤j→q2.msgs[j]? =some m→m.fields=[],fun q2=>3-q2.i⟩
structure Bw where
 c:Cur
 msgs:List Shp
 k:Nat
def J8 (o1:Du) (q2:J7) (o2:Du):Fam:=⟨Bw,fun q3=>[(0,.v (vP 0)),(2,.v (vP 1)),(3,.v (vP 2)),(4,.v (vI (1+o1.x))),(6,.v (vI ((q2.i:Nat):Int))),(7,.v (vI o2.x)),(8,.v (vI ((q3.k:Nat):Int)))],fun q3=>[.cells (Au q3.c),.cells [.nil],.cells [.own 3],.tree q3.msgs],fun q3=>A6 q3.c∧q3.k≤5∧RawK (Int.toNat (1+o1.x)) q3.msgs∧(∀j m,q2.i<j→q3.msgs[j]? =some m→m.fields=[])∧∀m,q3.msgs[q2.i]? =some m→List.length m.fields≤q3.k,fun q3=>5-q3.k⟩
theorem Aig (c:Cur) (hp1:A6 c): ∃o:N9,Sz c o:=by
 have hN:Be=274877906944:=rfl
 refine Cc Tryz.func193 Q4 Q4 (w:=let z94:=fr (.first 9 (.two 8 (.one 10 (.one 11 (.first 12 (.first 13 (.one 14 (.done)))))) 10 (.one 8 (.one 11 (.first 12 (.first 13 (.one 14 (.done)))))))) 0 8;let z95:=fr (.one 4 (.first 5 (.first 6 (.one 7 (.first 8 (.one 9 (.done))))))) 0 4;let z96:=os 10 [8];(.intro (Ad c 3) fun o1=>let z91:=1+o1.x;.seg [.call [0] (.v (vI o1.x)) [.cells (Au o1.c1)],.as 13 (.v (vI z91)),.at 0,.mkT 2 0,.keep [0,2,3,4,5],.sel [0,1,2,3]] (.loop (Ga o1) fun q1=> .br (.intro (fun (x1:Int)=>[5,1,99,7][q1.i]? =some x1) fun x1=> .seg [.tree (.first 0 (.first 1 (.first 3 (.one 2 (.first 4 (.one 5 (.first 6 (.one 7 (.one 8 (.first 9 (.one 10 (.done)))))))))))) 10 [3],.ty .int,.el .int x1,.tyT,.tyT,.at 0,.keep [0,2,3,4,5],.sel [0,1,2,6],.as 18 (.v (vI (((q1.i:Nat):Int)+1))),.at 0,.keep [0,2,3,4,5],.sel [0,1,2,3]] (.next)) (.seg [.at 0,.keep [0,2,3,4,6],.sel [0,1,2,3]] (.loop (Gb o1) fun q2=> .br (.intro (Ad q2.c 6) fun o2=> .seg [.call [0] (.v (vI o2.x)) [.cells (Au o2.c1)],.at 0,.keep [0,2,3,4,6,7,8],.sel [0,1,2,3]] (.loop (J8 o1 q2 o2) fun q3=>let z75:=vI (((q3.k:Nat):Int)+1);.br (.intro (Ad q3.c 12) fun o3=>let z73:=1+o3.x;.seg [.call [0] (.v (vI o3.x)) [.cells (Au o3.c1)],.as 43 (.v (vI z73))] (.intro (Ad o3.c1 8) fun o4=> .seg [.call [0] (.v (vI o4.x)) [.cells (Au o4.c1)],.as 46 (.v (vI (1+o4.x)))] (.intro (Ay o4.c1 2) fun o5=> .seg [.call [0] (.v (vB o5.p)) [.cells (Au o5.c1)]] (.intro (Ay o5.c1 12) fun o6=> .seg [.call [0] (.v (vB o6.p)) [.cells (Au o6.c1)]] (.br (.seg [.ty .int,.pubS 53] (.intro (Ci o6.c1 [16,2047,2048,18999,20000,536870911]) fun o7=> .seg [.call [0] (.v (vI o7.x)) [.cells (Au o7.c1)]] (.br (.seg [.call [] (.v (vB (Cy (1+o4.x)))) []] (.br (.intro (Ay o7.c1 2) fun o8=> .seg [.call [0] (.v (vB o8.p)) [.cells (Au o8.c1)]] (.br (.intro (Ad o8.c1 z91) fun o9=> .intro (fun (x1:Shp)=>q3.msgs[Int.toNat o9.x]? =some x1) fun x1=> .seg [.tree z95 9 [0],.call [0] (.v (vI o9.x)) [.cells (Au o9.c1)],.el .shp x1,.at 0,.keep [0,2,3,4,6,7,8,9],.sel [0,1,2,3,4]] (.intro (fun (x2:Shp)=>q3.msgs[q2.i]? =some x2) fun x2=> .take 20 3 q2.i x2 (.seg [.ord z96 [],.call [] (.v (vB (Dd x2.fields o7.x))) []] (.br (.seg [.tree z94 14 [5],.ty .fld,.ty .fld,.el .shp x2,.at 0,.keep [0,2,3,4,6,7,8],.sel [0,1,2,3],.ty .fld,.ty .fld,.el .shp x2,.at 0,.keep [0,2,3,4,6,7,8],.sel [0,1,2,3],.as 40 (.v z75),.at 0,.keep [0,2,3,4,6,7,8],.sel [0,1,2,3]] (.next)) (.give 13 3 x2 (.seg [.as 40 (.v z75),.at 0,.keep [0,2,3,4,6,7,8],.sel [0,1,2,3]] (.next))))))) (.intro (fun (x1:Shp)=>q3.msgs[q2.i]? =some x1) fun x1=> .take 20 3 q2.i x1 (.seg [.ord z96 [],.call [] (.v (vB (Dd x1.fields o7.x))) []] (.br (.seg [.tree z94 14 [6],.ty .fld,.ty .fld,.el .shp x1,.at 0,.keep [0,2,3,4,6,7,8],.sel [0,1,2,3],.ty .fld,.ty .fld,.el .shp x1,.at 0,.keep [0,2,3,4,6,7,8],.sel [0,1,2,3],.as 40 (.v z75),.at 0,.keep [0,2,3,4,6,7,8],.sel [0,1,2,3]] (.next)) (.give 13 3 x1 (.seg [.as 40 (.v z75),.at 0,.keep [0,2,3,4,6,7,8],.sel [0,1,2,3]] (.next)))))))) (.br (.intro (Ad o7.c1 z91) fun o8=> .intro (fun (x1:Shp)=>q3.msgs[Int.toNat o8.x]? =some x1) fun x1=> .seg [.tree z95 9 [0],.call [0] (.v (vI o8.x)) [.cells (Au o8.c1)],.el .shp x1,.at 0,.keep [0,2,3,4,6,7,8,9],.sel [0,1,2,3,4]] (.intro (fun (x2:Shp)=>q3.msgs[q2.i]? =some x2) fun x2=> .take 20 3 q2.i x2 (.seg [.ord z96 [],.call [] (.v (vB (Dd x2.fields o7.x))) []] (.br (.seg [.tree z94 14 [5],.ty .fld,.ty .fld,.el .shp x2,.at 0,.keep [0,2,3,4,6,7,8],.sel [0,1,2,3],.ty .fld,.ty .fld,.el .shp x2,.at 0,.keep [0,2,3,4,6,7,8],.sel [0,1,2,3],.as 40 (.v z75),.at 0,.keep [0,2,3,4,6,7,8],.sel [0,1,2,3]] (.next)) (.give 13 3 x2 (.seg [.as 40 (.v z75),.at 0,.keep [0,2,3,4,6,7,8],.sel [0,1,2,3]] (.next))))))) (.intro (fun (x1:Shp)=>q3.msgs[q2.i]? =some x1) fun x1=> .take 20 3 q2.i x1 (.seg [.ord z96 [],.call [] (.v (vB (Dd x1.fields o7.x))) []] (.br (.seg [.tree z94 14 [6],.ty .fld,.ty .fld,.el .shp x1,.at 0,.keep [0,2,3,4,6,7,8],.sel [0,1,2,3],.ty .fld,.ty .fld,.el .shp x1,.at 0,.keep [0,2,3,4,6,7,8],.sel [0,1,2,3],.as 40 (.v z75),.at 0,.keep [0,2,3,4,6,7,8],.sel [0,1,2,3]] (.next)) (.give 13 3 x1 (.seg [.as 40 (.v z75),.at 0,.keep [0,2,3,4,6,7,8],.sel [0,1,2,3]] (.next))))))))) (.br (.intro (Ad o7.c1 z91) fun o8=> .intro (fun (x1:Shp)=>q3.msgs[Int.toNat o8.x]? =some x1) fun x1=> .seg [.tree z95 9 [0],.call [0] (.v (vI o8.x)) [.cells (Au o8.c1)],.el .shp x1,.at 0,.keep [0,2,3,4,6,7,8,9],.sel [0,1,2,3,4]] (.intro (fun (x2:Shp)=>q3.msgs[q2.i]? =some x2) fun x2=> .take 20 3 q2.i x2 (.seg [.ord z96 [],.call [] (.v (vB (Dd x2.fields o7.x))) []] (.br (.seg [.tree z94 14 [5],.ty .fld,.ty .fld,.el .shp x2,.at 0,.keep [0,2,3,4,6,7,8],.sel [0,1,2,3],.ty .fld,.ty .fld,.el .shp x2,.at 0,.keep [0,2,3,4,6,7,8],.sel [0,1,2,3],.as 40 (.v z75),.at 0,.keep [0,2,3,4,6,7,8],.sel [0,1,2,3]] (.next)) (.give 13 3 x2 (.seg [.as 40 (.v z75),.at 0,.keep [0,2,3,4,6,7,8],.sel [0,1,2,3]] (.next))))))) (.intro (fun (x1:Shp)=>q3.msgs[q2.i]? =some x1) fun x1=> .take 20 3 q2.i x1 (.seg [.ord z96 [],.call [] (.v (vB (Dd x1.fields o7.x))) []] (.br (.seg [.tree z94 14 [6],.ty .fld,.ty .fld,.el .shp x1,.at 0,.keep [0,2,3,4,6,7,8],.sel [0,1,2,3],.ty .fld,.ty .fld,.el .shp x1,.at 0,.keep [0,2,3,4,6,7,8],.sel [0,1,2,3],.as 40 (.v z75),.at 0,.keep [0,2,3,4,6,7,8],.sel [0,1,2,3]] (.next)) (.give 13 3 x1 (.seg [.as 40 (.v z75),.at 0,.keep [0,2,3,4,6,7,8],.sel [0,1,2,3]] (.next)))))))))) (.br (.seg [.call [] (.v (vB (Cy (1+o4.x)))) []] (.br (.intro (Ay o6.c1 2) fun o7=> .seg [.call [0] (.v (vB o7.p)) [.cells (Au o7.c1)]] (.br (.intro (Ad o7.c1 z91) fun o8=> .intro (fun (x1:Shp)=>q3.msgs[Int.toNat o8.x]? =some x1) fun x1=> .seg [.tree z95 9 [0],.call [0] (.v (vI o8.x)) [.cells (Au o8.c1)],.el .shp x1,.at 0,.keep [0,2,3,4,6,7,8,9],.sel [0,1,2,3,4]] (.intro (fun (x2:Shp)=>q3.msgs[q2.i]? =some x2) fun x2=> .take 20 3 q2.i x2 (.seg [.ord z96 [],.call [] (.v (vB (Dd x2.fields z73))) []] (.br (.seg [.tree z94 14 [5],.ty .fld,.ty .fld,.el .shp x2,.at 0,.keep [0,2,3,4,6,7,8],.sel [0,1,2,3],.ty .fld,.ty .fld,.el .shp x2,.at 0,.keep [0,2,3,4,6,7,8],.sel [0,1,2,3],.as 40 (.v z75),.at 0,.keep [0,2,3,4,6,7,8],.sel [0,1,2,3]] (.next)) (.give 13 3 x2 (.seg [.as 40 (.v z75),.at 0,.keep [0,2,3,4,6,7,8],.sel [0,1,2,3]] (.next))))))) (.intro (fun (x1:Shp)=>q3.msgs[q2.i]? =some x1) fun x1=> .take 20 3 q2.i x1 (.seg [.ord z96 [],.call [] (.v (vB (Dd x1.fields z73))) []] (.br (.seg [.tree z94 14 [5],.ty .fld,.ty .fld,.el .shp x1,.at 0,.keep [0,2,3,4,6,7,8],.sel [0,1,2,3],.ty .fld,.ty .fld,.el .shp x1,.at 0,.keep [0,2,3,4,6,7,8],.sel [0,1,2,3],.as 40 (.v z75),.at 0,.keep [0,2,3,4,6,7,8],.sel [0,1,2,3]] (.next)) (.give 13 3 x1 (.seg [.as 40 (.v z75),.at 0,.keep [0,2,3,4,6,7,8],.sel [0,1,2,3]] (.next)))))))) (.br (.intro (Ad o6.c1 z91) fun o7=> .intro (fun (x1:Shp)=>q3.msgs[Int.toNat o7.x]? =some x1) fun x1=> .seg [.tree z95 9 [0],.call [0] (.v (vI o7.x)) [.cells (Au o7.c1)],.el .shp x1,.at 0,.keep [0,2,3,4,6,7,8,9],.sel [0,1,2,3,4]] (.intro (fun (x2:Shp)=>q3.msgs[q2.i]? =some x2) fun x2=> .take 20 3 q2.i x2 (.seg [.ord z96 [],.call [] (.v (vB (Dd x2.fields z73))) []] (.br (.seg [.tree z94 14 [5],.ty .fld,.ty .fld,.el .shp x2,.at 0,.keep [0,2,3,4,6,7,8],.sel [0,1,2,3],.ty .fld,.ty .fld,.el .shp x2,.at 0,.keep [0,2,3,4,6,7,8],.sel [0,1,2,3],.as 40 (.v z75),.at 0,.keep [0,2,3,4,6,7,8],.sel [0,1,2,3]] (.next)) (.give 13 3 x2 (.seg [.as 40 (.v z75),.at 0,.keep [0,2,3,4,6,7,8],.sel [0,1,2,3]] (.next))))))) (.intro (fun (x1:Shp)=>q3.msgs[q2.i]? =some x1) fun x1=> .take 20 3 q2.i x1 (.seg [.ord z96 [],.call [] (.v (vB (Dd x1.fields z73))) []] (.br (.seg [.tree z94 14 [5],.ty .fld,.ty .fld,.el .shp x1,.at 0,.keep [0,2,3,4,6,7,8],.sel [0,1,2,3],.ty .fld,.ty .fld,.el .shp x1,.at 0,.keep [0,2,3,4,6,7,8],.sel [0,1,2,3],.as 40 (.v z75),.at 0,.keep [0,2,3,4,6,7,8],.sel [0,1,2,3]] (.next)) (.give 13 3 x1 (.seg [.as 40 (.v z75),.at 0,.keep [0,2,3,4,6,7,8],.sel [0,1,2,3]] (.next))))))))) (.br (.intro (Ad o6.c1 z91) fun o7=> .intro (fun (x1:Shp)=>q3.msgs[Int.toNat o7.x]? =some x1) fun x1=> .seg [.tree z95 9 [0],.call [0] (.v (vI o7.x)) [.cells (Au o7.c1)],.el .shp x1,.at 0,.keep [0,2,3,4,6,7,8,9],.sel [0,1,2,3,4]] (.intro (fun (x2:Shp)=>q3.msgs[q2.i]? =some x2) fun x2=> .take 20 3 q2.i x2 (.seg [.ord z96 [],.call [] (.v (vB (Dd x2.fields z73))) []] (.br (.seg [.tree z94 14 [5],.ty .fld,.ty .fld,.el .shp x2,.at 0,.keep [0,2,3,4,6,7,8],.sel [0,1,2,3],.ty .fld,.ty .fld,.el .shp x2,.at 0,.keep [0,2,3,4,6,7,8],.sel [0,1,2,3],.as 40 (.v z75),.at 0,.keep [0,2,3,4,6,7,8],.sel [0,1,2,3]] (.next)) (.give 13 3 x2 (.seg [.as 40 (.v z75),.at 0,.keep [0,2,3,4,6,7,8],.sel [0,1,2,3]] (.next))))))) (.intro (fun (x1:Shp)=>q3.msgs[q2.i]? =some x1) fun x1=> .take 20 3 q2.i x1 (.seg [.ord z96 [],.call [] (.v (vB (Dd x1.fields z73))) []] (.br (.seg [.tree z94 14 [5],.ty .fld,.ty .fld,.el .shp x1,.at 0,.keep [0,2,3,4,6,7,8],.sel [0,1,2,3],.ty .fld,.ty .fld,.el .shp x1,.at 0,.keep [0,2,3,4,6,7,8],.sel [0,1,2,3],.as 40 (.v z75),.at 0,.keep [0,2,3,4,6,7,8],.sel [0,1,2,3]] (.next)) (.give 13 3 x1 (.seg [.as 40 (.v z75),.at 0,.keep [0,2,3,4,6,7,8],.sel [0,1,2,3]] (.next))))))))))))) (.seg [.as 33 (.v (vI (((q2.i:Nat):Int)+1))),.at 0,.keep [0,2,3,4,6],.sel [0,1,2,3]] (.next)))) (.leaf (⟨(⟨q2.msgs⟩:Raw),q2.c⟩:N9) [0,3])))),In (Ad c 3) fun o1=>(let z93:=1+o1.x;let z92:=vI z93;(As c 3 o1)∧((.v (vI (IntKind.i64.wrap z93)):S)= .v z92)∧(Ga o1).Has [(0,.v (vP 0)),(2,.v (vP 1)),(3,.v (vP 2)),(4,.v z92),(5,.v (vI 0))] [.cells (Au o1.c1),.cells [.nil],.cells [.own 3],.tree ([]:List Shp)]∧∀q1,(Ga o1).inv q1→(let z90:=((q1.i:Nat):Int);((decide (z90<1+o1.x))=true→(∃(x1:Int),[5,1,99,7][q1.i]? =some x1)∧∀(x1:Int),([5,1,99,7][q1.i]? =some x1)→((z90<((List.length [5,1,99,7]:Nat):Int))∧((0:Int)≤z90)∧([5,1,99,7][q1.i]? =some x1)∧(List.length q1.msgs+List.length [(⟨x1,([]:List Fld)⟩:Shp)]≤Be)∧((.v (vI (IntKind.i64.wrap (z90+1))):S)= .v (vI (z90+1)))∧(Ga o1).Nxt q1 [(0,.v (vP 0)),(2,.v (vP 1)),(3,.v (vP 2)),(4,.v z92),(5,.v (vI (z90+1)))] [.cells (Au q1.c),.cells [.nil],.cells [.own 3],.tree (q1.msgs++[(⟨x1,([]:List Fld)⟩:Shp)])]))∧((decide (z90<1+o1.x))=false→(Gb o1).Has [(0,.v (vP 0)),(2,.v (vP 1)),(3,.v (vP 2)),(4,.v z92),(6,.v (vI 0))] [.cells (Au q1.c),.cells [.nil],.cells [.own 3],.tree q1.msgs]∧∀q2,(Gb o1).inv q2→(let z87:=q2.i=q2.i;let z89:=((q2.i:Nat):Int);let z86:=(0:Int)≤z89;let z88:=vI z89;((decide (z89<1+o1.x))=true→In (Ad q2.c 6) fun o2=>(let z85:=J8 o1 q2 o2;(As q2.c 6 o2)∧z85.Has [(0,.v (vP 0)),(2,.v (vP 1)),(3,.v (vP 2)),(4,.v z92),(6,.v z88),(7,.v (vI o2.x)),(8,.v (vI 0))] [.cells (Au o2.c1),.cells [.nil],.cells [.own 3],.tree q2.msgs]∧∀q3,z85.inv q3→(let z80:=((List.length q3.msgs:Nat):Int);let z76:=z89<z80;let z81:= ∃(x2:Shp),q3.msgs[q2.i]? =some x2;let z82:= ∃(x1:Shp),q3.msgs[q2.i]? =some x1;let z83:=q3.msgs[q2.i]?;let z84:=((q3.k:Nat):Int);let z77:=([(0,.v (vP 0)),(2,.v (vP 1)),(3,.v (vP 2)),(4,.v z92),(6,.v z88),(7,.v (vI o2.x)),(8,.v (vI z84))]:List (Nat×S))=[(0,.v (vP 0)),(2,.v (vP 1)),(3,.v (vP 2)),(4,.v z92),(6,.v z88),(7,.v (vI o2.x)),(8,.v (vI z84))];let z79:=vI (z84+1);let z78:=(.v (vI (IntKind.i64.wrap (z84+1))):S)= .v z79;((decide (z84<o2.x))=true→In (Ad q3.c 12) fun o3=>(let z74:=1+o3.x;(As q3.c 12 o3)∧((.v (vI (IntKind.i64.wrap z74)):S)= .v (vI z74))∧In (Ad o3.c1 8) fun o4=>(let z71:=decide (1+o4.x=8);let z72:=Cy (1+o4.x);(As o3.c1 8 o4)∧((.v (vI (IntKind.i64.wrap (1+o4.x))):S)= .v (vI (1+o4.x)))∧In (Ay o4.c1 2) fun o5=>(let z70:=(⟨1+o3.x,1+o4.x,o5.p,false,0⟩:Fld);(Bt o4.c1 2 o5)∧In (Ay o5.c1 12) fun o6=>((Bt o5.c1 12 o6)∧(o6.p=true→In (Ci o6.c1 [16,2047,2048,18999,20000,536870911]) fun o7=>(let z35:=(⟨o7.x,1+o4.x,o5.p,false,0⟩:Fld);(Eb o6.c1 [16,2047,2048,18999,20000,536870911] o7)∧(o5.p=true→(Fun Tryz.prog 135 [vI (1+o4.x)] [] (.v (vB z72)) [])∧(z72=true→In (Ay o7.c1 2) fun o8=>(let z12:=(⟨o7.x,1+o4.x,o5.p,o8.p,0⟩:Fld);(Bt o7.c1 2 o8)∧(z71=true→In (Ad o8.c1 z93) fun o9=>((∃(x1:Shp),q3.msgs[Int.toNat o9.x]? =some x1)∧∀(x1:Shp),(q3.msgs[Int.toNat o9.x]? =some x1)→(let z6:=(⟨o7.x,1+o4.x,o5.p,o8.p,x1.id⟩:Fld);(As o8.c1 z93 o9)∧(o9.x<z80)∧((0:Int)≤o9.x)∧(q3.msgs[Int.toNat o9.x]? =some x1)∧z81∧∀(x2:Shp),(q3.msgs[q2.i]? =some x2)→(let z1:List Blk:=[.cells (Au o9.c1),.cells [.nil],.cells [.own 3],.tree (List.set q3.msgs q2.i (⟨x2.id,x2.fields++[z6]⟩:Shp))];let z2:=z83.map (fun (x:Shp)=>x.fields.length)=some (List.length x2.fields);let z3:=List.length x2.fields+List.length [z6]≤Be;let z4:=q3.msgs[q2.i]? =some x2;let z5:=Dd x2.fields o7.x;z4∧z76∧z86∧z76∧z86∧z87∧z2∧z87∧z2∧(Fun Tryz.prog 212 [.c (.seq .fld x2.fields),vI o7.x] [] (.v (vB z5)) [])∧((!z5)=true→z76∧z86∧z76∧z86∧z87∧z2∧z3∧z76∧z86∧z76∧z86∧z87∧z4∧z87∧z2∧z3∧z76∧z86∧z76∧z86∧z87∧z4∧((z1:List Blk)=z1)∧z77∧z78∧z85.Nxt q3 [(0,.v (vP 0)),(2,.v (vP 1)),(3,.v (vP 2)),(4,.v z92),(6,.v z88),(7,.v (vI o2.x)),(8,.v z79)] z1)∧((!z5)=false→(List.length x2.fields=List.length x2.fields)∧z4∧z78∧z85.Nxt q3 [(0,.v (vP 0)),(2,.v (vP 1)),(3,.v (vP 2)),(4,.v z92),(6,.v z88),(7,.v (vI o2.x)),(8,.v z79)] [.cells (Au o9.c1),.cells [.nil],.cells [.own 3],.tree (List.set q3.msgs q2.i (⟨x2.id,x2.fields⟩:Shp))])))))∧(z71=false→z82∧∀(x1:Shp),(q3.msgs[q2.i]? =some x1)→(let z7:List Blk:=[.cells (Au o8.c1),.cells [.nil],.cells [.own 3],.tree (List.set q3.msgs q2.i (⟨x1.id,x1.fields++[z12]⟩:Shp))];let z8:=z83.map (fun (x:Shp)=>x.fields.length)=some (List.length x1.fields);let z9:=List.length x1.fields+List.length [z12]≤Be;let z10:=q3.msgs[q2.i]? =some x1;let z11:=Dd x1.fields o7.x;z10∧z76∧z86∧z76∧z86∧z87∧z8∧z87∧z8∧(Fun Tryz.prog 212 [.c (.seq .fld x1.fields),vI o7.x] [] (.v (vB z11)) [])∧((!z11)=true→z76∧z86∧z76∧z86∧z87∧z8∧z9∧z76∧z86∧z76∧z86∧z87∧z10∧z87∧z8∧z9∧z76∧z86∧z76∧z86∧z87∧z10∧((z7:List Blk)=z7)∧z77∧z78∧z85.Nxt q3 [(0,.v (vP 0)),(2,.v (vP 1)),(3,.v (vP 2)),(4,.v z92),(6,.v z88),(7,.v (vI o2.x)),(8,.v z79)] z7)∧((!z11)=false→(List.length x1.fields=List.length x1.fields)∧z10∧z78∧z85.Nxt q3 [(0,.v (vP 0)),(2,.v (vP 1)),(3,.v (vP 2)),(4,.v z92),(6,.v z88),(7,.v (vI o2.x)),(8,.v z79)] [.cells (Au o8.c1),.cells [.nil],.cells [.own 3],.tree (List.set q3.msgs q2.i (⟨x1.id,x1.fields⟩:Shp))])))))∧(z72=false→(z71=true→In (Ad o7.c1 z93) fun o8=>((∃(x1:Shp),q3.msgs[Int.toNat o8.x]? =some x1)∧∀(x1:Shp),(q3.msgs[Int.toNat o8.x]? =some x1)→(let z18:=(⟨o7.x,1+o4.x,o5.p,false,x1.id⟩:Fld);(As o7.c1 z93 o8)∧(o8.x<z80)∧((0:Int)≤o8.x)∧(q3.msgs[Int.toNat o8.x]? =some x1)∧z81∧∀(x2:Shp),(q3.msgs[q2.i]? =some x2)→(let z13:List Blk:=[.cells (Au o8.c1),.cells [.nil],.cells [.own 3],.tree (List.set q3.msgs q2.i (⟨x2.id,x2.fields++[z18]⟩:Shp))];let z14:=z83.map (fun (x:Shp)=>x.fields.length)=some (List.length x2.fields);let z15:=List.length x2.fields+List.length [z18]≤Be;let z16:=q3.msgs[q2.i]? =some x2;let z17:=Dd x2.fields o7.x;z16∧z76∧z86∧z76∧z86∧z87∧z14∧z87∧z14∧(Fun Tryz.prog 212 [.c (.seq .fld x2.fields),vI o7.x] [] (.v (vB z17)) [])∧((!z17)=true→z76∧z86∧z76∧z86∧z87∧z14∧z15∧z76∧z86∧z76∧z86∧z87∧z16∧z87∧z14∧z15∧z76∧z86∧z76∧z86∧z87∧z16∧((z13:List Blk)=z13)∧z77∧z78∧z85.Nxt q3 [(0,.v (vP 0)),(2,.v (vP 1)),(3,.v (vP 2)),(4,.v z92),(6,.v z88),(7,.v (vI o2.x)),(8,.v z79)] z13)∧((!z17)=false→(List.length x2.fields=List.length x2.fields)∧z16∧z78∧z85.Nxt q3 [(0,.v (vP 0)),(2,.v (vP 1)),(3,.v (vP 2)),(4,.v z92),(6,.v z88),(7,.v (vI o2.x)),(8,.v z79)] [.cells (Au o8.c1),.cells [.nil],.cells [.own 3],.tree (List.set q3.msgs q2.i (⟨x2.id,x2.fields⟩:Shp))])))))∧(z71=false→z82∧∀(x1:Shp),(q3.msgs[q2.i]? =some x1)→(let z19:List Blk:=[.cells (Au o7.c1),.cells [.nil],.cells [.own 3],.tree (List.set q3.msgs q2.i (⟨x1.id,x1.fields++[z35]⟩:Shp))];let z20:=z83.map (fun (x:Shp)=>x.fields.length)=some (List.length x1.fields);let z21:=List.length x1.fields+List.length [z35]≤Be;let z22:=q3.msgs[q2.i]? =some x1;let z23:=Dd x1.fields o7.x;z22∧z76∧z86∧z76∧z86∧z87∧z20∧z87∧z20∧(Fun Tryz.prog 212 [.c (.seq .fld x1.fields),vI o7.x] [] (.v (vB z23)) [])∧((!z23)=true→z76∧z86∧z76∧z86∧z87∧z20∧z21∧z76∧z86∧z76∧z86∧z87∧z22∧z87∧z20∧z21∧z76∧z86∧z76∧z86∧z87∧z22∧((z19:List Blk)=z19)∧z77∧z78∧z85.Nxt q3 [(0,.v (vP 0)),(2,.v (vP 1)),(3,.v (vP 2)),(4,.v z92),(6,.v z88),(7,.v (vI o2.x)),(8,.v z79)] z19)∧((!z23)=false→(List.length x1.fields=List.length x1.fields)∧z22∧z78∧z85.Nxt q3 [(0,.v (vP 0)),(2,.v (vP 1)),(3,.v (vP 2)),(4,.v z92),(6,.v z88),(7,.v (vI o2.x)),(8,.v z79)] [.cells (Au o7.c1),.cells [.nil],.cells [.own 3],.tree (List.set q3.msgs q2.i (⟨x1.id,x1.fields⟩:Shp))])))))∧(o5.p=false→(z71=true→In (Ad o7.c1 z93) fun o8=>((∃(x1:Shp),q3.msgs[Int.toNat o8.x]? =some x1)∧∀(x1:Shp),(q3.msgs[Int.toNat o8.x]? =some x1)→(let z29:=(⟨o7.x,1+o4.x,o5.p,false,x1.id⟩:Fld);(As o7.c1 z93 o8)∧(o8.x<z80)∧((0:Int)≤o8.x)∧(q3.msgs[Int.toNat o8.x]? =some x1)∧z81∧∀(x2:Shp),(q3.msgs[q2.i]? =some x2)→(let z24:List Blk:=[.cells (Au o8.c1),.cells [.nil],.cells [.own 3],.tree (List.set q3.msgs q2.i (⟨x2.id,x2.fields++[z29]⟩:Shp))];let z25:=z83.map (fun (x:Shp)=>x.fields.length)=some (List.length x2.fields);let z26:=List.length x2.fields+List.length [z29]≤Be;let z27:=q3.msgs[q2.i]? =some x2;let z28:=Dd x2.fields o7.x;z27∧z76∧z86∧z76∧z86∧z87∧z25∧z87∧z25∧(Fun Tryz.prog 212 [.c (.seq .fld x2.fields),vI o7.x] [] (.v (vB z28)) [])∧((!z28)=true→z76∧z86∧z76∧z86∧z87∧z25∧z26∧z76∧z86∧z76∧z86∧z87∧z27∧z87∧z25∧z26∧z76∧z86∧z76∧z86∧z87∧z27∧((z24:List Blk)=z24)∧z77∧z78∧z85.Nxt q3 [(0,.v (vP 0)),(2,.v (vP 1)),(3,.v (vP 2)),(4,.v z92),(6,.v z88),(7,.v (vI o2.x)),(8,.v z79)] z24)∧((!z28)=false→(List.length x2.fields=List.length x2.fields)∧z27∧z78∧z85.Nxt q3 [(0,.v (vP 0)),(2,.v (vP 1)),(3,.v (vP 2)),(4,.v z92),(6,.v z88),(7,.v (vI o2.x)),(8,.v z79)] [.cells (Au o8.c1),.cells [.nil],.cells [.own 3],.tree (List.set q3.msgs q2.i (⟨x2.id,x2.fields⟩:Shp))])))))∧(z71=false→z82∧∀(x1:Shp),(q3.msgs[q2.i]? =some x1)→(let z30:List Blk:=[.cells (Au o7.c1),.cells [.nil],.cells [.own 3],.tree (List.set q3.msgs q2.i (⟨x1.id,x1.fields++[z35]⟩:Shp))];let z31:=z83.map (fun (x:Shp)=>x.fields.length)=some (List.length x1.fields);let z32:=List.length x1.fields+List.length [z35]≤Be;let z33:=q3.msgs[q2.i]? =some x1;let z34:=Dd x1.fields o7.x;z33∧z76∧z86∧z76∧z86∧z87∧z31∧z87∧z31∧(Fun Tryz.prog 212 [.c (.seq .fld x1.fields),vI o7.x] [] (.v (vB z34)) [])∧((!z34)=true→z76∧z86∧z76∧z86∧z87∧z31∧z32∧z76∧z86∧z76∧z86∧z87∧z33∧z87∧z31∧z32∧z76∧z86∧z76∧z86∧z87∧z33∧((z30:List Blk)=z30)∧z77∧z78∧z85.Nxt q3 [(0,.v (vP 0)),(2,.v (vP 1)),(3,.v (vP 2)),(4,.v z92),(6,.v z88),(7,.v (vI o2.x)),(8,.v z79)] z30)∧((!z34)=false→(List.length x1.fields=List.length x1.fields)∧z33∧z78∧z85.Nxt q3 [(0,.v (vP 0)),(2,.v (vP 1)),(3,.v (vP 2)),(4,.v z92),(6,.v z88),(7,.v (vI o2.x)),(8,.v z79)] [.cells (Au o7.c1),.cells [.nil],.cells [.own 3],.tree (List.set q3.msgs q2.i (⟨x1.id,x1.fields⟩:Shp))]))))))∧(o6.p=false→(o5.p=true→(Fun Tryz.prog 135 [vI (1+o4.x)] [] (.v (vB z72)) [])∧(z72=true→In (Ay o6.c1 2) fun o7=>(let z47:=(⟨1+o3.x,1+o4.x,o5.p,o7.p,0⟩:Fld);(Bt o6.c1 2 o7)∧(z71=true→In (Ad o7.c1 z93) fun o8=>((∃(x1:Shp),q3.msgs[Int.toNat o8.x]? =some x1)∧∀(x1:Shp),(q3.msgs[Int.toNat o8.x]? =some x1)→(let z41:=(⟨1+o3.x,1+o4.x,o5.p,o7.p,x1.id⟩:Fld);(As o7.c1 z93 o8)∧(o8.x<z80)∧((0:Int)≤o8.x)∧(q3.msgs[Int.toNat o8.x]? =some x1)∧z81∧∀(x2:Shp),(q3.msgs[q2.i]? =some x2)→(let z36:List Blk:=[.cells (Au o8.c1),.cells [.nil],.cells [.own 3],.tree (List.set q3.msgs q2.i (⟨x2.id,x2.fields++[z41]⟩:Shp))];let z37:=z83.map (fun (x:Shp)=>x.fields.length)=some (List.length x2.fields);let z38:=List.length x2.fields+List.length [z41]≤Be;let z39:=q3.msgs[q2.i]? =some x2;let z40:=Dd x2.fields z74;z39∧z76∧z86∧z76∧z86∧z87∧z37∧z87∧z37∧(Fun Tryz.prog 212 [.c (.seq .fld x2.fields),vI z74] [] (.v (vB z40)) [])∧((!z40)=true→z76∧z86∧z76∧z86∧z87∧z37∧z38∧z76∧z86∧z76∧z86∧z87∧z39∧z87∧z37∧z38∧z76∧z86∧z76∧z86∧z87∧z39∧((z36:List Blk)=z36)∧z77∧z78∧z85.Nxt q3 [(0,.v (vP 0)),(2,.v (vP 1)),(3,.v (vP 2)),(4,.v z92),(6,.v z88),(7,.v (vI o2.x)),(8,.v z79)] z36)∧((!z40)=false→(List.length x2.fields=List.length x2.fields)∧z39∧z78∧z85.Nxt q3 [(0,.v (vP 0)),(2,.v (vP 1)),(3,.v (vP 2)),(4,.v z92),(6,.v z88),(7,.v (vI o2.x)),(8,.v z79)] [.cells (Au o8.c1),.cells [.nil],.cells [.own 3],.tree (List.set q3.msgs q2.i (⟨x2.id,x2.fields⟩:Shp))])))))∧(z71=false→z82∧∀(x1:Shp),(q3.msgs[q2.i]? =some x1)→(let z42:List Blk:=[.cells (Au o7.c1),.cells [.nil],.cells [.own 3],.tree (List.set q3.msgs q2.i (⟨x1.id,x1.fields++[z47]⟩:Shp))];let z43:=z83.map (fun (x:Shp)=>x.fields.length)=some (List.length x1.fields);let z44:=List.length x1.fields+List.length [z47]≤Be;let z45:=q3.msgs[q2.i]? =some x1;let z46:=Dd x1.fields z74;z45∧z76∧z86∧z76∧z86∧z87∧z43∧z87∧z43∧(Fun Tryz.prog 212 [.c (.seq .fld x1.fields),vI z74] [] (.v (vB z46)) [])∧((!z46)=true→z76∧z86∧z76∧z86∧z87∧z43∧z44∧z76∧z86∧z76∧z86∧z87∧z45∧z87∧z43∧z44∧z76∧z86∧z76∧z86∧z87∧z45∧((z42:List Blk)=z42)∧z77∧z78∧z85.Nxt q3 [(0,.v (vP 0)),(2,.v (vP 1)),(3,.v (vP 2)),(4,.v z92),(6,.v z88),(7,.v (vI o2.x)),(8,.v z79)] z42)∧((!z46)=false→(List.length x1.fields=List.length x1.fields)∧z45∧z78∧z85.Nxt q3 [(0,.v (vP 0)),(2,.v (vP 1)),(3,.v (vP 2)),(4,.v z92),(6,.v z88),(7,.v (vI o2.x)),(8,.v z79)] [.cells (Au o7.c1),.cells [.nil],.cells [.own 3],.tree (List.set q3.msgs q2.i (⟨x1.id,x1.fields⟩:Shp))])))))∧(z72=false→(z71=true→In (Ad o6.c1 z93) fun o7=>((∃(x1:Shp),q3.msgs[Int.toNat o7.x]? =some x1)∧∀(x1:Shp),(q3.msgs[Int.toNat o7.x]? =some x1)→(let z53:=(⟨1+o3.x,1+o4.x,o5.p,false,x1.id⟩:Fld);(As o6.c1 z93 o7)∧(o7.x<z80)∧((0:Int)≤o7.x)∧(q3.msgs[Int.toNat o7.x]? =some x1)∧z81∧∀(x2:Shp),(q3.msgs[q2.i]? =some x2)→(let z48:List Blk:=[.cells (Au o7.c1),.cells [.nil],.cells [.own 3],.tree (List.set q3.msgs q2.i (⟨x2.id,x2.fields++[z53]⟩:Shp))];let z49:=z83.map (fun (x:Shp)=>x.fields.length)=some (List.length x2.fields);let z50:=List.length x2.fields+List.length [z53]≤Be;let z51:=q3.msgs[q2.i]? =some x2;let z52:=Dd x2.fields z74;z51∧z76∧z86∧z76∧z86∧z87∧z49∧z87∧z49∧(Fun Tryz.prog 212 [.c (.seq .fld x2.fields),vI z74] [] (.v (vB z52)) [])∧((!z52)=true→z76∧z86∧z76∧z86∧z87∧z49∧z50∧z76∧z86∧z76∧z86∧z87∧z51∧z87∧z49∧z50∧z76∧z86∧z76∧z86∧z87∧z51∧((z48:List Blk)=z48)∧z77∧z78∧z85.Nxt q3 [(0,.v (vP 0)),(2,.v (vP 1)),(3,.v (vP 2)),(4,.v z92),(6,.v z88),(7,.v (vI o2.x)),(8,.v z79)] z48)∧((!z52)=false→(List.length x2.fields=List.length x2.fields)∧z51∧z78∧z85.Nxt q3 [(0,.v (vP 0)),(2,.v (vP 1)),(3,.v (vP 2)),(4,.v z92),(6,.v z88),(7,.v (vI o2.x)),(8,.v z79)] [.cells (Au o7.c1),.cells [.nil],.cells [.own 3],.tree (List.set q3.msgs q2.i (⟨x2.id,x2.fields⟩:Shp))])))))∧(z71=false→z82∧∀(x1:Shp),(q3.msgs[q2.i]? =some x1)→(let z54:List Blk:=[.cells (Au o6.c1),.cells [.nil],.cells [.own 3],.tree (List.set q3.msgs q2.i (⟨x1.id,x1.fields++[z70]⟩:Shp))];let z55:=z83.map (fun (x:Shp)=>x.fields.length)=some (List.length x1.fields);let z56:=List.length x1.fields+List.length [z70]≤Be;let z57:=q3.msgs[q2.i]? =some x1;let z58:=Dd x1.fields z74;z57∧z76∧z86∧z76∧z86∧z87∧z55∧z87∧z55∧(Fun Tryz.prog 212 [.c (.seq .fld x1.fields),vI z74] [] (.v (vB z58)) [])∧((!z58)=true→z76∧z86∧z76∧z86∧z87∧z55∧z56∧z76∧z86∧z76∧z86∧z87∧z57∧z87∧z55∧z56∧z76∧z86∧z76∧z86∧z87∧z57∧((z54:List Blk)=z54)∧z77∧z78∧z85.Nxt q3 [(0,.v (vP 0)),(2,.v (vP 1)),(3,.v (vP 2)),(4,.v z92),(6,.v z88),(7,.v (vI o2.x)),(8,.v z79)] z54)∧((!z58)=false→(List.length x1.fields=List.length x1.fields)∧z57∧z78∧z85.Nxt q3 [(0,.v (vP 0)),(2,.v (vP 1)),(3,.v (vP 2)),(4,.v z92),(6,.v z88),(7,.v (vI o2.x)),(8,.v z79)] [.cells (Au o6.c1),.cells [.nil],.cells [.own 3],.tree (List.set q3.msgs q2.i (⟨x1.id,x1.fields⟩:Shp))])))))∧(o5.p=false→(z71=true→In (Ad o6.c1 z93) fun o7=>((∃(x1:Shp),q3.msgs[Int.toNat o7.x]? =some x1)∧∀(x1:Shp),(q3.msgs[Int.toNat o7.x]? =some x1)→(let z64:=(⟨1+o3.x,1+o4.x,o5.p,false,x1.id⟩:Fld);(As o6.c1 z93 o7)∧(o7.x<z80)∧((0:Int)≤o7.x)∧(q3.msgs[Int.toNat o7.x]? =some x1)∧z81∧∀(x2:Shp),(q3.msgs[q2.i]? =some x2)→(let z59:List Blk:=[.cells (Au o7.c1),.cells [.nil],.cells [.own 3],.tree (List.set q3.msgs q2.i (⟨x2.id,x2.fields++[z64]⟩:Shp))];let z60:=z83.map (fun (x:Shp)=>x.fields.length)=some (List.length x2.fields);let z61:=List.length x2.fields+List.length [z64]≤Be;let z62:=q3.msgs[q2.i]? =some x2;let z63:=Dd x2.fields z74;z62∧z76∧z86∧z76∧z86∧z87∧z60∧z87∧z60∧(Fun Tryz.prog 212 [.c (.seq .fld x2.fields),vI z74] [] (.v (vB z63)) [])∧((!z63)=true→z76∧z86∧z76∧z86∧z87∧z60∧z61∧z76∧z86∧z76∧z86∧z87∧z62∧z87∧z60∧z61∧z76∧z86∧z76∧z86∧z87∧z62∧((z59:List Blk)=z59)∧z77∧z78∧z85.Nxt q3 [(0,.v (vP 0)),(2,.v (vP 1)),(3,.v (vP 2)),(4,.v z92),(6,.v z88),(7,.v (vI o2.x)),(8,.v z79)] z59)∧((!z63)=false→(List.length x2.fields=List.length x2.fields)∧z62∧z78∧z85.Nxt q3 [(0,.v (vP 0)),(2,.v (vP 1)),(3,.v (vP 2)),(4,.v z92),(6,.v z88),(7,.v (vI o2.x)),(8,.v z79)] [.cells (Au o7.c1),.cells [.nil],.cells [.own 3],.tree (List.set q3.msgs q2.i (⟨x2.id,x2.fields⟩:Shp))])))))∧(z71=false→z82∧∀(x1:Shp),(q3.msgs[q2.i]? =some x1)→(let z65:List Blk:=[.cells (Au o6.c1),.cells [.nil],.cells [.own 3],.tree (List.set q3.msgs q2.i (⟨x1.id,x1.fields++[z70]⟩:Shp))];let z66:=z83.map (fun (x:Shp)=>x.fields.length)=some (List.length x1.fields);let z67:=List.length x1.fields+List.length [z70]≤Be;let z68:=q3.msgs[q2.i]? =some x1;let z69:=Dd x1.fields z74;z68∧z76∧z86∧z76∧z86∧z87∧z66∧z87∧z66∧(Fun Tryz.prog 212 [.c (.seq .fld x1.fields),vI z74] [] (.v (vB z69)) [])∧((!z69)=true→z76∧z86∧z76∧z86∧z87∧z66∧z67∧z76∧z86∧z76∧z86∧z87∧z68∧z87∧z66∧z67∧z76∧z86∧z76∧z86∧z87∧z68∧((z65:List Blk)=z65)∧z77∧z78∧z85.Nxt q3 [(0,.v (vP 0)),(2,.v (vP 1)),(3,.v (vP 2)),(4,.v z92),(6,.v z88),(7,.v (vI o2.x)),(8,.v z79)] z65)∧((!z69)=false→(List.length x1.fields=List.length x1.fields)∧z68∧z78∧z85.Nxt q3 [(0,.v (vP 0)),(2,.v (vP 1)),(3,.v (vP 2)),(4,.v z92),(6,.v z88),(7,.v (vI o2.x)),(8,.v z79)] [.cells (Au o6.c1),.cells [.nil],.cells [.own 3],.tree (List.set q3.msgs q2.i (⟨x1.id,x1.fields⟩:Shp))]))))))))))∧((decide (z84<o2.x))=false→((.v (vI (IntKind.i64.wrap (z89+1))):S)= .v (vI (z89+1)))∧(Gb o1).Nxt q2 [(0,.v (vP 0)),(2,.v (vP 1)),(3,.v (vP 2)),(4,.v z92),(6,.v (vI (z89+1)))] [.cells (Au q3.c),.cells [.nil],.cells [.own 3],.tree q3.msgs]))))∧((decide (z89<1+o1.x))=false→((RawK (List.length ((⟨q2.msgs⟩:Raw)).msgs) ((⟨q2.msgs⟩:Raw)).msgs)∧(A6 q2.c))∧(.v (.agg [.own 1]):S)= .v (.agg [.own 1])∧([.cells (Au q2.c),.tree q2.msgs]:List Blk)=[.cells (Au q2.c),.tree q2.msgs]))))))) Q4 ?_
 refine⟨(A3 c 3 Q0),fun o1 ho_o1=>?_⟩
 obtain ⟨⟨hp_o1_0,hp_o1_1,hp_o1_2,hp_o1_3⟩,hf_o1⟩:=ho_o1
 refine⟨hf_o1,(Ac Q2 Q2),Bs (j:=(⟨o1.c1,([]:List Shp),0⟩:Mc)) Q9 rfl (by dsimp only[Ga];exact⟨by assumption,by omega,rfl,rfl,fun m hm=>by cases hm⟩),fun (q1:Mc) hq_q1=>?_⟩
 have hi_q1:A6 q1.c∧((q1.i:Nat):Int)≤1+o1.x∧List.length q1.msgs=q1.i∧Hw q1.msgs=List.take q1.i [5,1,99]∧∀m∈q1.msgs,m.fields=[]:=hq_q1
 obtain ⟨v1,v2,v3,v4,v5⟩:=hi_q1
 refine dsp (fun h1 p1=>?_) fun h1 p1=>?_
 refine⟨(Bq (l:=[5,1,99,7]) (i:=q1.i) Q6),fun x1 hx1=>?_⟩
 exact⟨Q6,Q2,hx1,Q6,(Ac Q2 Q2),Bc (j:=(⟨q1.c,q1.msgs++[(⟨x1,([]:List Fld)⟩:Shp)],q1.i+1⟩:Mc)) Q9 rfl (by dsimp only[Ga];exact⟨by assumption,by omega,by simp;omega,Aid v4 Q2 hx1,fun m hm=>by rcases List.mem_append.1 hm with hm|hm;exact v5 m hm;simp at hm;rw[hm]⟩) (by dsimp only[Ga];omega)⟩
 refine⟨Bs (j:=(⟨q1.c,q1.msgs,0⟩:J7)) Q9 rfl (by dsimp only[Gb];exact⟨by assumption,by omega,Aie Q2 Q2 (by rw[v4];congr 1;omega) v5,fun j m _ hm=>v5 m (List.mem_of_getElem? hm)⟩),fun (q2:J7) hq_q2=>?_⟩
 have hi_q2:A6 q2.c∧q2.i≤Int.toNat (1+o1.x)∧RawK (Int.toNat (1+o1.x)) q2.msgs∧∀j m,q2.i≤j→q2.msgs[j]? =some m→m.fields=[]:=hq_q2
 obtain ⟨u1,u2,u3,u4⟩:=hi_q2
 have upos:=u3.pos
 have ulen:=u3.len
 refine dsp (fun h2 p2=>?_) fun h2 p2=>?_
 refine⟨(A3 q2.c 6 Q0),fun o2 ho_o2=>?_⟩
 obtain ⟨⟨hp_o2_0,hp_o2_1,hp_o2_2,hp_o2_3⟩,hf_o2⟩:=ho_o2
 refine⟨hf_o2,Bs (j:=(⟨o2.c1,q2.msgs,0⟩:Bw)) Q9 rfl (by dsimp only[J8];exact⟨by assumption,by omega,u3,fun j m hj hm=>u4 j m Q2 hm,fun m hm=>by rw[u4 _ m (Nat.le_refl _) hm];exact Nat.le_refl _⟩),fun (q3:Bw) hq_q3=>?_⟩
 have hi_q3:A6 q3.c∧q3.k≤5∧RawK (Int.toNat (1+o1.x)) q3.msgs∧(∀j m,q2.i<j→q3.msgs[j]? =some m→m.fields=[])∧∀m,q3.msgs[q2.i]? =some m→List.length m.fields≤q3.k:=hq_q3
 obtain ⟨w1,w2,w3,w4,w5⟩:=hi_q3
 have wlen:=w3.len
 refine dsp (fun h3 p3=>?_) fun h3 p3=>?_
 refine⟨(A3 q3.c 12 Q0),fun o3 ho_o3=>?_⟩
 obtain ⟨⟨hp_o3_0,hp_o3_1,hp_o3_2,hp_o3_3⟩,hf_o3⟩:=ho_o3
 refine⟨hf_o3,(Ac Q2 Q2),(A3 o3.c1 8 Q0),fun o4 ho_o4=>?_⟩
 obtain ⟨⟨hp_o4_0,hp_o4_1,hp_o4_2,hp_o4_3⟩,hf_o4⟩:=ho_o4
 refine⟨hf_o4,(Ac Q2 Q2),(B9 o4.c1 2 Q0),fun o5 ho_o5=>?_⟩
 obtain ⟨hp_o5,hf_o5⟩:=ho_o5
 refine⟨hf_o5,(B9 o5.c1 12 Q0),fun o6 ho_o6=>?_⟩
 obtain ⟨hp_o6,hf_o6⟩:=ho_o6
 refine⟨hf_o6,fun h4=>?_,fun h4=>?_⟩
 refine⟨(F8 o6.c1 [16,2047,2048,18999,20000,536870911] Q0 Q6 Q6),fun o7 ho_o7=>?_⟩
 obtain ⟨⟨hp_o7_0,hp_o7_1⟩,hf_o7⟩:=ho_o7
 refine⟨hf_o7,fun h5=>?_,fun h5=>?_⟩
 refine⟨(M0 _),fun h6=>have p6:=Av h6;?_,fun h6=>have p6:=A4 h6;?_⟩
 refine⟨(B9 o7.c1 2 Q0),fun o8 ho_o8=>?_⟩
 obtain ⟨hp_o8,hf_o8⟩:=ho_o8
 refine⟨hf_o8,dsp (fun h7 p7=>?_) fun h7 p7=>?_⟩
 refine⟨(A3 o8.c1 (1+o1.x) Q0),fun o9 ho_o9=>?_⟩
 obtain ⟨⟨hp_o9_0,hp_o9_1,hp_o9_2,hp_o9_3⟩,hf_o9⟩:=ho_o9
 refine⟨(Bq (l:=q3.msgs) (i:=Int.toNat o9.x) Q2),fun x1 hx1=>?_⟩
 have hri:x1.id∈Hw q3.msgs:=List.mem_map.2 ⟨_,List.mem_of_getElem? hx1,rfl⟩
 refine⟨hf_o9,Q2,Q2,hx1,(Bq (l:=q3.msgs) (i:=q2.i) Q2),fun x2 hx2=>?_⟩
 have hxl:=w5 _ hx2
 have hsame:=G7 hx2
 refine⟨hx2,Q2,Q2,Q2,Q2,rfl,Q50,rfl,Q50,(Gk _ _ Q2),fun h8=>have q8:=Ap h8;?_,fun h8=>have q8:=Ao h8;?_⟩
 exact⟨Q2,Q2,Q2,Q2,rfl,Q50,Q6,Q2,Q2,Q2,Q2,rfl,hx2,rfl,Q50,Q6,Q2,Q2,Q2,Q2,rfl,hx2,rfl,rfl,(Ac Q2 Q2),Bc (j:=(⟨o9.c1,List.set q3.msgs q2.i (⟨x2.id,x2.fields++[(⟨o7.x,1+o4.x,o5.p,o8.p,x1.id⟩:Fld)]⟩:Shp),q3.k+1⟩:Bw)) Q9 rfl Q1 Q30⟩
 exact⟨Q9,hx2,(Ac Q2 Q2),Bc (j:=(⟨o9.c1,List.set q3.msgs q2.i (⟨x2.id,x2.fields⟩:Shp),q3.k+1⟩:Bw)) Q9 rfl Q1 Q30⟩
 refine⟨(Bq (l:=q3.msgs) (i:=q2.i) Q2),fun x1 hx1=>?_⟩
 have hxl:=w5 _ hx1
 have hsame:=G7 hx1
 refine⟨hx1,Q2,Q2,Q2,Q2,rfl,Q41,rfl,Q41,(Gk _ _ Q2),fun h8=>have q8:=Ap h8;?_,fun h8=>have q8:=Ao h8;?_⟩
 exact⟨Q2,Q2,Q2,Q2,rfl,Q41,Q6,Q2,Q2,Q2,Q2,rfl,hx1,rfl,Q41,Q6,Q2,Q2,Q2,Q2,rfl,hx1,rfl,rfl,(Ac Q2 Q2),Bc (j:=(⟨o8.c1,List.set q3.msgs q2.i (⟨x1.id,x1.fields++[(⟨o7.x,1+o4.x,o5.p,o8.p,0⟩:Fld)]⟩:Shp),q3.k+1⟩:Bw)) Q9 rfl Q1 Q30⟩
 exact⟨Q9,hx1,(Ac Q2 Q2),Bc (j:=(⟨o8.c1,List.set q3.msgs q2.i (⟨x1.id,x1.fields⟩:Shp),q3.k+1⟩:Bw)) Q9 rfl Q1 Q30⟩
 refine dsp (fun h7 p7=>?_) fun h7 p7=>?_
 refine⟨(A3 o7.c1 (1+o1.x) Q0),fun o8 ho_o8=>?_⟩
 obtain ⟨⟨hp_o8_0,hp_o8_1,hp_o8_2,hp_o8_3⟩,hf_o8⟩:=ho_o8
 refine⟨(Bq (l:=q3.msgs) (i:=Int.toNat o8.x) Q2),fun x1 hx1=>?_⟩
 have hri:x1.id∈Hw q3.msgs:=List.mem_map.2 ⟨_,List.mem_of_getElem? hx1,rfl⟩
 refine⟨hf_o8,Q2,Q2,hx1,(Bq (l:=q3.msgs) (i:=q2.i) Q2),fun x2 hx2=>?_⟩
 have hxl:=w5 _ hx2
 have hsame:=G7 hx2
 refine⟨hx2,Q2,Q2,Q2,Q2,rfl,Q50,rfl,Q50,(Gk _ _ Q2),fun h8=>have q8:=Ap h8;?_,fun h8=>have q8:=Ao h8;?_⟩
 exact⟨Q2,Q2,Q2,Q2,rfl,Q50,Q6,Q2,Q2,Q2,Q2,rfl,hx2,rfl,Q50,Q6,Q2,Q2,Q2,Q2,rfl,hx2,rfl,rfl,(Ac Q2 Q2),Bc (j:=(⟨o8.c1,List.set q3.msgs q2.i (⟨x2.id,x2.fields++[(⟨o7.x,1+o4.x,o5.p,false,x1.id⟩:Fld)]⟩:Shp),q3.k+1⟩:Bw)) Q9 rfl Q1 Q30⟩
 exact⟨Q9,hx2,(Ac Q2 Q2),Bc (j:=(⟨o8.c1,List.set q3.msgs q2.i (⟨x2.id,x2.fields⟩:Shp),q3.k+1⟩:Bw)) Q9 rfl Q1 Q30⟩
 refine⟨(Bq (l:=q3.msgs) (i:=q2.i) Q2),fun x1 hx1=>?_⟩
 have hxl:=w5 _ hx1
 have hsame:=G7 hx1
 refine⟨hx1,Q2,Q2,Q2,Q2,rfl,Q41,rfl,Q41,(Gk _ _ Q2),fun h8=>have q8:=Ap h8;?_,fun h8=>have q8:=Ao h8;?_⟩
 exact⟨Q2,Q2,Q2,Q2,rfl,Q41,Q6,Q2,Q2,Q2,Q2,rfl,hx1,rfl,Q41,Q6,Q2,Q2,Q2,Q2,rfl,hx1,rfl,rfl,(Ac Q2 Q2),Bc (j:=(⟨o7.c1,List.set q3.msgs q2.i (⟨x1.id,x1.fields++[(⟨o7.x,1+o4.x,o5.p,false,0⟩:Fld)]⟩:Shp),q3.k+1⟩:Bw)) Q9 rfl Q1 Q30⟩
 exact⟨Q9,hx1,(Ac Q2 Q2),Bc (j:=(⟨o7.c1,List.set q3.msgs q2.i (⟨x1.id,x1.fields⟩:Shp),q3.k+1⟩:Bw)) Q9 rfl Q1 Q30⟩
 refine dsp (fun h6 p6=>?_) fun h6 p6=>?_
 refine⟨(A3 o7.c1 (1+o1.x) Q0),fun o8 ho_o8=>?_⟩
 obtain ⟨⟨hp_o8_0,hp_o8_1,hp_o8_2,hp_o8_3⟩,hf_o8⟩:=ho_o8
 refine⟨(Bq (l:=q3.msgs) (i:=Int.toNat o8.x) Q2),fun x1 hx1=>?_⟩
 have hri:x1.id∈Hw q3.msgs:=List.mem_map.2 ⟨_,List.mem_of_getElem? hx1,rfl⟩
 refine⟨hf_o8,Q2,Q2,hx1,(Bq (l:=q3.msgs) (i:=q2.i) Q2),fun x2 hx2=>?_⟩
 have hxl:=w5 _ hx2
 have hsame:=G7 hx2
 refine⟨hx2,Q2,Q2,Q2,Q2,rfl,Q50,rfl,Q50,(Gk _ _ Q2),fun h7=>have q7:=Ap h7;?_,fun h7=>have q7:=Ao h7;?_⟩
 exact⟨Q2,Q2,Q2,Q2,rfl,Q50,Q6,Q2,Q2,Q2,Q2,rfl,hx2,rfl,Q50,Q6,Q2,Q2,Q2,Q2,rfl,hx2,rfl,rfl,(Ac Q2 Q2),Bc (j:=(⟨o8.c1,List.set q3.msgs q2.i (⟨x2.id,x2.fields++[(⟨o7.x,1+o4.x,o5.p,false,x1.id⟩:Fld)]⟩:Shp),q3.k+1⟩:Bw)) Q9 rfl Q1 Q30⟩
 exact⟨Q9,hx2,(Ac Q2 Q2),Bc (j:=(⟨o8.c1,List.set q3.msgs q2.i (⟨x2.id,x2.fields⟩:Shp),q3.k+1⟩:Bw)) Q9 rfl Q1 Q30⟩
 refine⟨(Bq (l:=q3.msgs) (i:=q2.i) Q2),fun x1 hx1=>?_⟩
 have hxl:=w5 _ hx1
 have hsame:=G7 hx1
 refine⟨hx1,Q2,Q2,Q2,Q2,rfl,Q41,rfl,Q41,(Gk _ _ Q2),fun h7=>have q7:=Ap h7;?_,fun h7=>have q7:=Ao h7;?_⟩
 exact⟨Q2,Q2,Q2,Q2,rfl,Q41,Q6,Q2,Q2,Q2,Q2,rfl,hx1,rfl,Q41,Q6,Q2,Q2,Q2,Q2,rfl,hx1,rfl,rfl,(Ac Q2 Q2),Bc (j:=(⟨o7.c1,List.set q3.msgs q2.i (⟨x1.id,x1.fields++[(⟨o7.x,1+o4.x,o5.p,false,0⟩:Fld)]⟩:Shp),q3.k+1⟩:Bw)) Q9 rfl Q1 Q30⟩
 exact⟨Q9,hx1,(Ac Q2 Q2),Bc (j:=(⟨o7.c1,List.set q3.msgs q2.i (⟨x1.id,x1.fields⟩:Shp),q3.k+1⟩:Bw)) Q9 rfl Q1 Q30⟩
 refine⟨fun h5=>?_,fun h5=>?_⟩
 refine⟨(M0 _),fun h6=>have p6:=Av h6;?_,fun h6=>have p6:=A4 h6;?_⟩
 refine⟨(B9 o6.c1 2 Q0),fun o7 ho_o7=>?_⟩
 obtain ⟨hp_o7,hf_o7⟩:=ho_o7
 refine⟨hf_o7,dsp (fun h7 p7=>?_) fun h7 p7=>?_⟩
 refine⟨(A3 o7.c1 (1+o1.x) Q0),fun o8 ho_o8=>?_⟩
 obtain ⟨⟨hp_o8_0,hp_o8_1,hp_o8_2,hp_o8_3⟩,hf_o8⟩:=ho_o8
 refine⟨(Bq (l:=q3.msgs) (i:=Int.toNat o8.x) Q2),fun x1 hx1=>?_⟩
 have hri:x1.id∈Hw q3.msgs:=List.mem_map.2 ⟨_,List.mem_of_getElem? hx1,rfl⟩
 refine⟨hf_o8,Q2,Q2,hx1,(Bq (l:=q3.msgs) (i:=q2.i) Q2),fun x2 hx2=>?_⟩
 have hxl:=w5 _ hx2
 have hsame:=G7 hx2
 refine⟨hx2,Q2,Q2,Q2,Q2,rfl,Q50,rfl,Q50,(Gk _ _ Q2),fun h8=>have q8:=Ap h8;?_,fun h8=>have q8:=Ao h8;?_⟩
 exact⟨Q2,Q2,Q2,Q2,rfl,Q50,Q6,Q2,Q2,Q2,Q2,rfl,hx2,rfl,Q50,Q6,Q2,Q2,Q2,Q2,rfl,hx2,rfl,rfl,(Ac Q2 Q2),Bc (j:=(⟨o8.c1,List.set q3.msgs q2.i (⟨x2.id,x2.fields++[(⟨1+o3.x,1+o4.x,o5.p,o7.p,x1.id⟩:Fld)]⟩:Shp),q3.k+1⟩:Bw)) Q9 rfl Q1 Q30⟩
 exact⟨Q9,hx2,(Ac Q2 Q2),Bc (j:=(⟨o8.c1,List.set q3.msgs q2.i (⟨x2.id,x2.fields⟩:Shp),q3.k+1⟩:Bw)) Q9 rfl Q1 Q30⟩
 refine⟨(Bq (l:=q3.msgs) (i:=q2.i) Q2),fun x1 hx1=>?_⟩
 have hxl:=w5 _ hx1
 have hsame:=G7 hx1
 refine⟨hx1,Q2,Q2,Q2,Q2,rfl,Q41,rfl,Q41,(Gk _ _ Q2),fun h8=>have q8:=Ap h8;?_,fun h8=>have q8:=Ao h8;?_⟩
 exact⟨Q2,Q2,Q2,Q2,rfl,Q41,Q6,Q2,Q2,Q2,Q2,rfl,hx1,rfl,Q41,Q6,Q2,Q2,Q2,Q2,rfl,hx1,rfl,rfl,(Ac Q2 Q2),Bc (j:=(⟨o7.c1,List.set q3.msgs q2.i (⟨x1.id,x1.fields++[(⟨1+o3.x,1+o4.x,o5.p,o7.p,0⟩:Fld)]⟩:Shp),q3.k+1⟩:Bw)) Q9 rfl Q1 Q30⟩
 exact⟨Q9,hx1,(Ac Q2 Q2),Bc (j:=(⟨o7.c1,List.set q3.msgs q2.i (⟨x1.id,x1.fields⟩:Shp),q3.k+1⟩:Bw)) Q9 rfl Q1 Q30⟩
 refine dsp (fun h7 p7=>?_) fun h7 p7=>?_
 refine⟨(A3 o6.c1 (1+o1.x) Q0),fun o7 ho_o7=>?_⟩
 obtain ⟨⟨hp_o7_0,hp_o7_1,hp_o7_2,hp_o7_3⟩,hf_o7⟩:=ho_o7
 refine⟨(Bq (l:=q3.msgs) (i:=Int.toNat o7.x) Q2),fun x1 hx1=>?_⟩
 have hri:x1.id∈Hw q3.msgs:=List.mem_map.2 ⟨_,List.mem_of_getElem? hx1,rfl⟩
 refine⟨hf_o7,Q2,Q2,hx1,(Bq (l:=q3.msgs) (i:=q2.i) Q2),fun x2 hx2=>?_⟩
 have hxl:=w5 _ hx2
 have hsame:=G7 hx2
 refine⟨hx2,Q2,Q2,Q2,Q2,rfl,Q50,rfl,Q50,(Gk _ _ Q2),fun h8=>have q8:=Ap h8;?_,fun h8=>have q8:=Ao h8;?_⟩
 exact⟨Q2,Q2,Q2,Q2,rfl,Q50,Q6,Q2,Q2,Q2,Q2,rfl,hx2,rfl,Q50,Q6,Q2,Q2,Q2,Q2,rfl,hx2,rfl,rfl,(Ac Q2 Q2),Bc (j:=(⟨o7.c1,List.set q3.msgs q2.i (⟨x2.id,x2.fields++[(⟨1+o3.x,1+o4.x,o5.p,false,x1.id⟩:Fld)]⟩:Shp),q3.k+1⟩:Bw)) Q9 rfl Q1 Q30⟩
 exact⟨Q9,hx2,(Ac Q2 Q2),Bc (j:=(⟨o7.c1,List.set q3.msgs q2.i (⟨x2.id,x2.fields⟩:Shp),q3.k+1⟩:Bw)) Q9 rfl Q1 Q30⟩
 refine⟨(Bq (l:=q3.msgs) (i:=q2.i) Q2),fun x1 hx1=>?_⟩
 have hxl:=w5 _ hx1
 have hsame:=G7 hx1
 refine⟨hx1,Q2,Q2,Q2,Q2,rfl,Q41,rfl,Q41,(Gk _ _ Q2),fun h8=>have q8:=Ap h8;?_,fun h8=>have q8:=Ao h8;?_⟩
 exact⟨Q2,Q2,Q2,Q2,rfl,Q41,Q6,Q2,Q2,Q2,Q2,rfl,hx1,rfl,Q41,Q6,Q2,Q2,Q2,Q2,rfl,hx1,rfl,rfl,(Ac Q2 Q2),Bc (j:=(⟨o6.c1,List.set q3.msgs q2.i (⟨x1.id,x1.fields++[(⟨1+o3.x,1+o4.x,o5.p,false,0⟩:Fld)]⟩:Shp),q3.k+1⟩:Bw)) Q9 rfl Q1 Q30⟩
 exact⟨Q9,hx1,(Ac Q2 Q2),Bc (j:=(⟨o6.c1,List.set q3.msgs q2.i (⟨x1.id,x1.fields⟩:Shp),q3.k+1⟩:Bw)) Q9 rfl Q1 Q30⟩
 refine dsp (fun h6 p6=>?_) fun h6 p6=>?_
 refine⟨(A3 o6.c1 (1+o1.x) Q0),fun o7 ho_o7=>?_⟩
 obtain ⟨⟨hp_o7_0,hp_o7_1,hp_o7_2,hp_o7_3⟩,hf_o7⟩:=ho_o7
 refine⟨(Bq (l:=q3.msgs) (i:=Int.toNat o7.x) Q2),fun x1 hx1=>?_⟩
 have hri:x1.id∈Hw q3.msgs:=List.mem_map.2 ⟨_,List.mem_of_getElem? hx1,rfl⟩
 refine⟨hf_o7,Q2,Q2,hx1,(Bq (l:=q3.msgs) (i:=q2.i) Q2),fun x2 hx2=>?_⟩
 have hxl:=w5 _ hx2
 have hsame:=G7 hx2
 refine⟨hx2,Q2,Q2,Q2,Q2,rfl,Q50,rfl,Q50,(Gk _ _ Q2),fun h7=>have q7:=Ap h7;?_,fun h7=>have q7:=Ao h7;?_⟩
 exact⟨Q2,Q2,Q2,Q2,rfl,Q50,Q6,Q2,Q2,Q2,Q2,rfl,hx2,rfl,Q50,Q6,Q2,Q2,Q2,Q2,rfl,hx2,rfl,rfl,(Ac Q2 Q2),Bc (j:=(⟨o7.c1,List.set q3.msgs q2.i (⟨x2.id,x2.fields++[(⟨1+o3.x,1+o4.x,o5.p,false,x1.id⟩:Fld)]⟩:Shp),q3.k+1⟩:Bw)) Q9 rfl Q1 Q30⟩
 exact⟨Q9,hx2,(Ac Q2 Q2),Bc (j:=(⟨o7.c1,List.set q3.msgs q2.i (⟨x2.id,x2.fields⟩:Shp),q3.k+1⟩:Bw)) Q9 rfl Q1 Q30⟩
 refine⟨(Bq (l:=q3.msgs) (i:=q2.i) Q2),fun x1 hx1=>?_⟩
 have hxl:=w5 _ hx1
 have hsame:=G7 hx1
 refine⟨hx1,Q2,Q2,Q2,Q2,rfl,Q41,rfl,Q41,(Gk _ _ Q2),fun h7=>have q7:=Ap h7;?_,fun h7=>have q7:=Ao h7;?_⟩
 exact⟨Q2,Q2,Q2,Q2,rfl,Q41,Q6,Q2,Q2,Q2,Q2,rfl,hx1,rfl,Q41,Q6,Q2,Q2,Q2,Q2,rfl,hx1,rfl,rfl,(Ac Q2 Q2),Bc (j:=(⟨o6.c1,List.set q3.msgs q2.i (⟨x1.id,x1.fields++[(⟨1+o3.x,1+o4.x,o5.p,false,0⟩:Fld)]⟩:Shp),q3.k+1⟩:Bw)) Q9 rfl Q1 Q30⟩
 exact⟨Q9,hx1,(Ac Q2 Q2),Bc (j:=(⟨o6.c1,List.set q3.msgs q2.i (⟨x1.id,x1.fields⟩:Shp),q3.k+1⟩:Bw)) Q9 rfl Q1 Q30⟩
 exact⟨(Ac Q2 Q2),Bc (j:=(⟨q3.c,q3.msgs,q2.i+1⟩:J7)) Q9 rfl (by dsimp only[Gb];exact⟨by assumption,by omega,w3,fun j m hj hm=>w4 j m Q2 hm⟩) (by dsimp only[Gb];omega)⟩
 exact⟨⟨((by dsimp only;rw[ulen];exact u3)),Q0⟩,rfl,rfl⟩
structure Pa where
 l:List Shp
 c1:Cur
def S0 (c:Cur) (o:Pa):Prop:=Fun Tryz.prog 156 [vP 0] [.cells (Au c)] (.v (.agg [.own 1])) [.cells (Au o.c1),.tree o.l]
def Li (c:Cur) (o:Pa):Prop:=((SchG o.l)∧(1≤List.length o.l)∧(List.length o.l≤3)∧(A6 o.c1))∧S0 c o
theorem Ab4 (c:Cur) (hp1:A6 c): ∃o:Pa,Li c o:=by
 have hN:Be=274877906944:=rfl
 refine Cc Tryz.func156 Q4 Q4 (w:=(.intro (Sz c) fun o1=> .seg [.call [0] (.v (.agg [.own 1])) [.cells (Au o1.c1),.tree o1.r.msgs]] (.intro (Sy o1.r) fun o2=> .seg [.call [] (.tup [.agg [.own 0],.agg [.int .i64 0,.int .i64 0,.int .i64 0]]) [.tree o2.l]] (.leaf (⟨o2.l,o1.c1⟩:Pa) [0,3])),In (Sz c) fun o1=>((Xr c o1)∧In (Sy o1.r) fun o2=>((Xq o1.r o2)∧((SchG o2.l)∧(1≤List.length o2.l)∧(List.length o2.l≤3)∧(A6 o1.c1))∧(.v (.agg [.own 1]):S)= .v (.agg [.own 1])∧([.cells (Au o1.c1),.tree o2.l]:List Blk)=[.cells (Au o1.c1),.tree o2.l])))) Q4 ?_
 refine⟨(Aig c Q0),fun o1 ho_o1=>?_⟩
 obtain ⟨⟨hp_o1_0,hp_o1_1⟩,hf_o1⟩:=ho_o1
 refine⟨hf_o1,(Aif o1.r Q2),fun o2 ho_o2=>?_⟩
 obtain ⟨hp_o2,hf_o2⟩:=ho_o2
 exact⟨hf_o2,⟨Q2,(hp_o2.1.1),(hp_o2.1.2),Q0⟩,rfl,rfl⟩
structure Kt where
 x:Int
 c1:Cur
def Pb (c:Cur) (l:List Int) (o:Kt):Prop:=Fun Tryz.prog 113 [vP 0,vO 1] [.cells (Au c),.lst .int l] (.v (vI o.x)) [.cells (Au o.c1),.lst .int l]
def Hx (c:Cur) (l:List Int) (o:Kt):Prop:=((o.x∈l)∧(A6 o.c1))∧Pb c l o
theorem Xs (c:Cur) (l:List Int) (hp1:A6 c) (hp2:1≤List.length l) (hp3:List.length l≤1000): ∃o:Kt,Hx c l o:=by
 have hN:Be=274877906944:=rfl
 refine Cc Tryz.func113 Q4 Q4 (w:=let z1:=((List.length l:Nat):Int);(.intro (Ad c z1) fun o1=> .seg [.call [0] (.v (vI o1.x)) [.cells (Au o1.c1)]] (.intro (fun (x1:Int)=>l[Int.toNat o1.x]? =some x1) fun x1=> .seg [.el .int x1] (.leaf (⟨x1,o1.c1⟩:Kt) [0,1])),In (Ad c z1) fun o1=>((As c z1 o1)∧(∃(x1:Int),l[Int.toNat o1.x]? =some x1)∧∀(x1:Int),(l[Int.toNat o1.x]? =some x1)→((o1.x<z1)∧((0:Int)≤o1.x)∧(l[Int.toNat o1.x]? =some x1)∧((x1∈l)∧(A6 o1.c1))∧(.v (vI x1):S)= .v (vI x1)∧([.cells (Au o1.c1),.lst .int l]:List Blk)=[.cells (Au o1.c1),.lst .int l])))) Q4 ?_
 refine⟨(A3 c ((List.length l:Nat):Int) Q0),fun o1 ho_o1=>?_⟩
 obtain ⟨⟨hp_o1_0,hp_o1_1,hp_o1_2,hp_o1_3⟩,hf_o1⟩:=ho_o1
 refine⟨hf_o1,(Bq (l:=l) (i:=Int.toNat o1.x) Q2),fun x1 hx1=>?_⟩
 exact⟨Q2,Q2,hx1,⟨(List.mem_of_getElem? hx1),Q0⟩,rfl,rfl⟩
structure Pc where
 p:Pln
 c1:Cur
def S3 (c:Cur) (o:Pc):Prop:=Fun Tryz.prog 101 [vP 0] [.cells (Au c)] (.v (.agg (Ex o.p))) [.cells (Au o.c1)]
def Lj (c:Cur) (o:Pc):Prop:=((PlnG o.p)∧(A6 o.c1))∧S3 c o
theorem Ab5 (c:Cur) (hp1:A6 c): ∃o:Pc,Lj c o:=by
 have hN:Be=274877906944:=rfl
 refine Cc Tryz.func101 Q4 Q4 (w:=let zi:Int→C:= .int .i64;let z8:=([(2,.v (vP 1))]:List (Nat×S))=[(2,.v (vP 1))];(.intro (Li c) fun o1=> .seg [.call [0] (.v (.agg [.own 1])) [.cells (Au o1.c1),.tree o1.l]] (.intro (Ad o1.c1 ((List.length o1.l:Nat):Int)) fun o2=> .intro (Ad o2.c1 4) fun o3=> .intro (Hx o3.c1 [60,60,2000,200,5,0]) fun o4=>let z1:List Blk:=[.cells (Au o4.c1),.lst .int [60,60,2000,200,5,0]];.seg [.tree (fr (.first 6 (.first 9 (.two 5 (.two 7 (.first 8 (.one 10 (.one 11 (.first 12 (.one 13 (.done)))))) 10 (.one 7 (.first 8 (.one 11 (.first 12 (.one 13 (.done))))))) 10 (.one 5 (.one 7 (.first 8 (.one 11 (.first 12 (.one 13 (.done)))))))))) 0 5) 13 [0],.call [0] (.v (vI o2.x)) [.cells (Au o2.c1)],.call [0] (.v (vI o3.x)) [.cells (Au o3.c1)],.as 14 (.v (vI (1+o3.x))),.ty .int,.call [0,4] (.v (vI o4.x)) z1,.at 0,.keep [2],.sel [0,1,2],.ty .int,.call [0] (.v (vI o3.x)) [.cells (Au o3.c1)],.as 14 (.v (vI (1+o3.x))),.call [0,4] (.v (vI o4.x)) z1,.at 0,.keep [2],.sel [0,1,2],.ty .int,.call [0] (.v (vI o2.x)) [.cells (Au o2.c1)],.call [0] (.v (vI o3.x)) [.cells (Au o3.c1)],.as 14 (.v (vI (1+o3.x))),.call [0,4] (.v (vI o4.x)) z1,.at 0,.keep [2],.sel [0,1,2],.at 0,.pub 1 0] (.leaf (⟨(⟨o1.l,o2.x,1+o3.x,o4.x⟩:Pln),o4.c1⟩:Pc) [0])),In (Li c) fun o1=>(let z7:=((List.length o1.l:Nat):Int);(S0 c o1)∧In (Ad o1.c1 z7) fun o2=>(let z6:=As o1.c1 z7 o2;In (Ad o2.c1 4) fun o3=>(let z4:=(.v (vI (IntKind.i64.wrap (1+o3.x))):S)= .v (vI (1+o3.x));let z5:=As o2.c1 4 o3;In (Hx o3.c1 [60,60,2000,200,5,0]) fun o4=>(let z2:List Blk:=[.cells (Au o4.c1),.cells [.own 2,zi o2.x,zi (1+o3.x),zi o4.x],.tree o1.l];let z3:=Pb o3.c1 [60,60,2000,200,5,0] o4;z6∧z5∧z4∧z3∧z5∧z4∧z3∧((z2:List Blk)=z2)∧z8∧z6∧z5∧z4∧z3∧((z2:List Blk)=z2)∧z8∧((PlnG (⟨o1.l,o2.x,1+o3.x,o4.x⟩:Pln))∧(A6 o4.c1))∧(.v (.agg [.seq .shp o1.l,zi o2.x,zi (1+o3.x),zi o4.x]):S)= .v (.agg [.seq .shp o1.l,zi o2.x,zi (1+o3.x),zi o4.x])∧([.cells (Au o4.c1)]:List Blk)=[.cells (Au o4.c1)])))))) Q4 ?_
 refine⟨(Ab4 c Q0),fun o1 ho_o1=>?_⟩
 obtain ⟨⟨hp_o1_0,hp_o1_1,hp_o1_2,hp_o1_3⟩,hf_o1⟩:=ho_o1
 refine⟨hf_o1,(A3 o1.c1 ((List.length o1.l:Nat):Int) Q0),fun o2 ho_o2=>?_⟩
 obtain ⟨⟨hp_o2_0,hp_o2_1,hp_o2_2,hp_o2_3⟩,hf_o2⟩:=ho_o2
 refine⟨(A3 o2.c1 4 Q0),fun o3 ho_o3=>?_⟩
 obtain ⟨⟨hp_o3_0,hp_o3_1,hp_o3_2,hp_o3_3⟩,hf_o3⟩:=ho_o3
 refine⟨(Xs o3.c1 [60,60,2000,200,5,0] Q0 Q6 Q6),fun o4 ho_o4=>?_⟩
 obtain ⟨⟨hp_o4_0,hp_o4_1⟩,hf_o4⟩:=ho_o4
 exact⟨hf_o2,hf_o3,(Ac Q2 Q2),hf_o4,hf_o3,(Ac Q2 Q2),hf_o4,rfl,rfl,hf_o2,hf_o3,(Ac Q2 Q2),hf_o4,rfl,rfl,⟨(⟨by assumption,by dsimp only;have:=hp_o1_0.1;omega,by dsimp only;omega,by have hpk:=hp_o4_0;simp at hpk;dsimp only;omega⟩),Q0⟩,rfl,rfl⟩
theorem Aih (x:Int):0≤IntKind.u64.wrap x∧IntKind.u64.wrap x≤18446744073709551615:=by
 rw[IntKind.wrap_u64];omega
theorem Akv {l:List Int} (hl:(l.all fun x=>decide (0≤x)&&decide (x≤18446744073709551615))=true) {i:Nat} {x:Int} (h:l[i]? =some x):0≤x∧x≤18446744073709551615:=by
 have:=List.all_eq_true.1 hl x (List.mem_of_getElem? h)
 simpa using this
theorem Xt {u:Int} (h:0≤u∧u≤18446744073709551615):1≤(Dw u).length∧(Dw u).length≤10:=by
 have:=Aem (u:=u) (by omega)
 unfold L0 at this
 omega
theorem Akw (u:Int) (hp1:(0:Int)≤u∧u≤18446744073709551615):Fun Tryz.prog 189 [.c (.int .u64 u)] [] (.v (vI (L0 u))) []:=by
 have hN:Be=274877906944:=rfl
 have hpl:=Xt hp1
 refine Ar Tryz.func189 Q4 Q4 (w:=(.seg [.call [] (.v (vT (Dw u))) []] (.leaf () []),(Fun Tryz.prog 103 [.c (.int .u64 u)] [] (.v (vT (Dw u))) [])∧(.v (vI ((List.length (Dw u):Nat):Int)):S)= .v (vI (L0 u))∧([]:List Blk)=[])) Q4 ?_
 exact⟨(Tk _ Q2),(congrArg S.v (congrArg V.c (congrArg (C.int .i64) (by rfl)))),rfl⟩
structure M6 where
 t:List UInt8
def Zj (u:Int) (n:Int) (o:M6):Prop:=Fun Tryz.prog 188 [.c (.int .u64 u),vI n] [] (.v (vT o.t)) []
def Uw (u:Int) (n:Int) (o:M6):Prop:=((List.length (o.t:List UInt8)≤10))∧Zj u n o
structure Pd where
 out:List Int
def Pe (n:Int):Fam:=⟨Pd,fun q1=>[(1,.v (vI n)),(5,.v (vO 0))],fun q1=>[.lst .u8 q1.out],fun q1=>1≤List.length q1.out∧List.length q1.out≤10,fun q1=>10-List.length q1.out⟩
theorem Akx (u:Int) (n:Int) (hp1:(0:Int)≤u∧u≤18446744073709551615): ∃o:M6,Uw u n o:=by
 have hN:Be=274877906944:=rfl
 have hpl:=Xt hp1
 refine Cc Tryz.func188 Q4 Q4 (w:=let z7:=List.map (fun b=>(UInt8.toNat b:Int)) (Dw u);let z6:=((List.length z7:Nat):Int);let z8:=Aq n z6 10;let z9:=Pe n;(.seg [.call [] (.v (vT (Dw u))) [],.call [] (.v (vB z8)) []] (.br (.leaf (⟨[]⟩:M6) []) (.seg [.at 0,.keep [1,5],.sel [0]] (.loop z9 fun q1=>let z3:=((List.length q1.out:Nat):Int)-1;.br (.seg [.as 21 (.v (vI z3)),.as 25 (.v (vI z3))] (.intro (fun (x1:Int)=>q1.out[Int.toNat z3]? =some x1) fun x1=> .seg [.el .u8 x1,.el .u8 x1,.ty .u8,.ty .u8,.at 0,.keep [1,5],.sel [2]] (.next))) (.leaf (⟨List.map Bv q1.out⟩:M6) [])))),(Fun Tryz.prog 103 [.c (.int .u64 u)] [] (.v (vT (Dw u))) [])∧(List.length (Dw u)≤Be)∧(Fun Tryz.prog 59 [vI n,vI z6,vI 10] [] (.v (vB z8)) [])∧((!z8)=true→((List.length ([]:List UInt8)≤10))∧(.v (vT []):S)= .v (vT [])∧([]:List Blk)=[])∧((!z8)=false→z9.Has [(1,.v (vI n)),(5,.v (vO 0))] [.lst .u8 z7]∧∀q1,z9.inv q1→(let z4:=((List.length q1.out:Nat):Int);let z5:=List.map Bv q1.out;((decide (z4<n))=true→((.v (vI (IntKind.i64.wrap (z4-1))):S)= .v (vI (z4-1)))∧((.v (vI (IntKind.i64.wrap (z4-1))):S)= .v (vI (z4-1)))∧(∃(x1:Int),q1.out[Int.toNat (z4-1)]? =some x1)∧∀(x1:Int),(q1.out[Int.toNat (z4-1)]? =some x1)→(let z1:=List.set q1.out (Int.toNat (z4-1)) (IntKind.u8.wrap (x1+128));let z2:=q1.out[Int.toNat (z4-1)]? =some x1;(z4-1<z4)∧((0:Int)≤z4-1)∧z2∧(z4-1<z4)∧((0:Int)≤z4-1)∧z2∧(List.length z1+List.length [0]≤Be)∧z9.Nxt q1 [(1,.v (vI n)),(5,.v (vO 0))] [.lst .u8 (z1++[0])]))∧((decide (z4<n))=false→((List.length (z5:List UInt8)≤10))∧(.v (vT z5):S)= .v (vT z5)∧([]:List Blk)=[]))))) Q4 ?_
 refine⟨(Tk _ Q2),Q2,(Bh _ _ _),fun h1=>have q1:=Ap h1;have p1:=A4 q1;?_,fun h1=>have q1:=Ao h1;have p1:=Av q1;?_⟩
 exact⟨Q6,rfl,rfl⟩
 refine⟨Bs (j:=(⟨List.map (fun b=>(UInt8.toNat b:Int)) (Dw u)⟩:Pd)) rfl rfl (by dsimp only[Pe];exact⟨by simp;omega,by simp;omega⟩),fun (q1:Pd) hq_q1=>?_⟩
 have hi_q1:1≤List.length q1.out∧List.length q1.out≤10:=hq_q1
 obtain ⟨v1,v2⟩:=hi_q1
 refine dsp (fun h2 p2=>?_) fun h2 p2=>?_
 refine⟨(Ac Q2 Q2),(Ac Q2 Q2),(Bq (l:=q1.out) (i:=Int.toNat (((List.length q1.out:Nat):Int)-1)) Q2),fun x1 hx1=>?_⟩
 exact⟨Q2,Q2,hx1,Q2,Q2,hx1,Q80,Bc (j:=(⟨(List.set q1.out (Int.toNat (((List.length q1.out:Nat):Int)-1)) (IntKind.u8.wrap (x1+128)))++[0]⟩:Pd)) rfl rfl (by dsimp only[Pe];exact⟨by simp,by simp;omega⟩) (by dsimp only[Pe];simp;omega)⟩
 exact⟨Q18,rfl,rfl⟩
structure K5 where
 x:Int
 c1:Cur
def Gm (c:Cur) (o:K5):Prop:=Fun Tryz.prog 150 [vP 0] [.cells (Au c)] (.v (.c (.int .u64 o.x))) [.cells (Au o.c1)]
def C9 (c:Cur) (o:K5):Prop:=(((0:Int)≤o.x∧o.x≤18446744073709551615)∧(A6 o.c1))∧Gm c o
structure Pf where
 c:Cur
 u:Int
 i:Nat
def Pg  :Fam:=⟨Pf,fun q1=>[(0,.v (vP 0)),(3,.v (.c (.int .u64 q1.u))),(4,.v (vI ((q1.i:Nat):Int)))],fun q1=>[.cells (Au q1.c)],fun q1=>A6 q1.c∧q1.i≤8∧((0:Int)≤q1.u∧q1.u≤18446744073709551615),fun q1=>8-q1.i⟩
theorem Md (c:Cur) (hp1:A6 c): ∃o:K5,C9 c o:=by
 have hN:Be=274877906944:=rfl
 refine Cc Tryz.func150 Q4 Q4 (w:=let z2:=Pg;(.intro (Ad c 4) fun o1=> .seg [.call [0] (.v (vI o1.x)) [.cells (Au o1.c1)]] (.br (.seg [.ty .u64] (.intro (Ad o1.c1 12) fun o2=> .seg [.call [0] (.v (vI o2.x)) [.cells (Au o2.c1)]] (.intro (fun (x1:Int)=>[0,1,127,128,16383,16384,2147483647,4294967295,4294967296,9223372036854775807,9223372036854775808,18446744073709551615][Int.toNat o2.x]? =some x1) fun x1=> .seg [.el .u64 x1] (.leaf (⟨x1,o2.c1⟩:K5) [0])))) (.br (.seg [.at 0,.keep [0,3,4],.sel [0]] (.loop z2 fun q1=> .br (.intro (Ey q1.c) fun o2=> .seg [.call [0] (.v (vI o2.x)) [.cells (Au o2.c1)],.as 24 (.v (.c (.int .u64 o2.x))),.as 19 (.v (vI (((q1.i:Nat):Int)+1))),.at 0,.keep [0,3,4],.sel [0]] (.next)) (.leaf (⟨q1.u,q1.c⟩:K5) [0]))) (.intro (Ad o1.c1 300) fun o2=> .seg [.call [0] (.v (vI o2.x)) [.cells (Au o2.c1)],.as 29 (.v (.c (.int .u64 o2.x)))] (.leaf (⟨o2.x,o2.c1⟩:K5) [0])))),In (Ad c 4) fun o1=>((As c 4 o1)∧((decide (o1.x=0))=true→In (Ad o1.c1 12) fun o2=>((As o1.c1 12 o2)∧(∃(x1:Int),[0,1,127,128,16383,16384,2147483647,4294967295,4294967296,9223372036854775807,9223372036854775808,18446744073709551615][Int.toNat o2.x]? =some x1)∧∀(x1:Int),([0,1,127,128,16383,16384,2147483647,4294967295,4294967296,9223372036854775807,9223372036854775808,18446744073709551615][Int.toNat o2.x]? =some x1)→((o2.x<((List.length [0,1,127,128,16383,16384,2147483647,4294967295,4294967296,9223372036854775807,9223372036854775808,18446744073709551615]:Nat):Int))∧((0:Int)≤o2.x)∧([0,1,127,128,16383,16384,2147483647,4294967295,4294967296,9223372036854775807,9223372036854775808,18446744073709551615][Int.toNat o2.x]? =some x1)∧(((0:Int)≤x1∧x1≤18446744073709551615)∧(A6 o2.c1))∧(.v (.c (.int .u64 x1)):S)= .v (.c (.int .u64 x1))∧([.cells (Au o2.c1)]:List Blk)=[.cells (Au o2.c1)])))∧((decide (o1.x=0))=false→((decide (o1.x=1))=true→z2.Has [(0,.v (vP 0)),(3,.v (.c (.int .u64 0))),(4,.v (vI 0))] [.cells (Au o1.c1)]∧∀q1,z2.inv q1→(let z1:=((q1.i:Nat):Int);((decide (z1<8))=true→In (Ey q1.c) fun o2=>((Hj q1.c o2)∧((.v (.c (.int .u64 (IntKind.u64.wrap (o2.x)))):S)= .v (.c (.int .u64 o2.x)))∧((.v (vI (IntKind.i64.wrap (z1+1))):S)= .v (vI (z1+1)))∧z2.Nxt q1 [(0,.v (vP 0)),(3,.v (.c (.int .u64 (IntKind.u64.wrap ((IntKind.u64.wrap (256*q1.u))+o2.x))))),(4,.v (vI (z1+1)))] [.cells (Au o2.c1)]))∧((decide (z1<8))=false→(((0:Int)≤q1.u∧q1.u≤18446744073709551615)∧(A6 q1.c))∧(.v (.c (.int .u64 q1.u)):S)= .v (.c (.int .u64 q1.u))∧([.cells (Au q1.c)]:List Blk)=[.cells (Au q1.c)])))∧((decide (o1.x=1))=false→In (Ad o1.c1 300) fun o2=>((As o1.c1 300 o2)∧((.v (.c (.int .u64 (IntKind.u64.wrap (o2.x)))):S)= .v (.c (.int .u64 o2.x)))∧(((0:Int)≤o2.x∧o2.x≤18446744073709551615)∧(A6 o2.c1))∧(.v (.c (.int .u64 o2.x)):S)= .v (.c (.int .u64 o2.x))∧([.cells (Au o2.c1)]:List Blk)=[.cells (Au o2.c1)])))))) Q4 ?_
 refine⟨(A3 c 4 Q0),fun o1 ho_o1=>?_⟩
 obtain ⟨⟨hp_o1_0,hp_o1_1,hp_o1_2,hp_o1_3⟩,hf_o1⟩:=ho_o1
 refine⟨hf_o1,dsp (fun h1 p1=>?_) fun h1 p1=>?_⟩
 refine⟨(A3 o1.c1 12 Q0),fun o2 ho_o2=>?_⟩
 obtain ⟨⟨hp_o2_0,hp_o2_1,hp_o2_2,hp_o2_3⟩,hf_o2⟩:=ho_o2
 refine⟨hf_o2,(Bq (l:=[0,1,127,128,16383,16384,2147483647,4294967295,4294967296,9223372036854775807,9223372036854775808,18446744073709551615]) (i:=Int.toNat o2.x) Q6),fun x1 hx1=>?_⟩
 refine⟨Q6,Q2,?_⟩
 have hwx:=Akv (by decide) hx1
 exact⟨hx1,⟨Q2,Q0⟩,rfl,rfl⟩
 refine dsp (fun h2 p2=>?_) fun h2 p2=>?_
 refine⟨Bs (j:=(⟨o1.c1,0,0⟩:Pf)) Q9 rfl (by dsimp only[Pg];exact⟨by assumption,by omega,by omega⟩),fun (q1:Pf) hq_q1=>?_⟩
 have hi_q1:A6 q1.c∧q1.i≤8∧((0:Int)≤q1.u∧q1.u≤18446744073709551615):=hq_q1
 obtain ⟨v1,v2,v3⟩:=hi_q1
 refine dsp (fun h3 p3=>?_) fun h3 p3=>?_
 refine⟨(N4 q1.c Q0),fun o2 ho_o2=>?_⟩
 obtain ⟨⟨hp_o2_0,hp_o2_1⟩,hf_o2⟩:=ho_o2
 exact⟨hf_o2,(Bp Q2 Q2),(Ac Q2 Q2),Bc (j:=(⟨o2.c1,IntKind.u64.wrap ((IntKind.u64.wrap (256*q1.u))+o2.x),q1.i+1⟩:Pf)) Q9 rfl (by dsimp only[Pg];exact⟨by assumption,by omega,Aih _⟩) (by dsimp only[Pg];omega)⟩
 exact⟨⟨Q2,Q0⟩,rfl,rfl⟩
 refine⟨(A3 o1.c1 300 Q0),fun o2 ho_o2=>?_⟩
 obtain ⟨⟨hp_o2_0,hp_o2_1,hp_o2_2,hp_o2_3⟩,hf_o2⟩:=ho_o2
 exact⟨hf_o2,(Bp Q2 Q2),⟨Q2,Q0⟩,rfl,rfl⟩
structure M7 where
 t:List UInt8
 c1:Cur
def A2 (c:Cur) (u:Int) (o:M7):Prop:=Fun Tryz.prog 149 [vP 0,.c (.int .u64 u)] [.cells (Au c)] (.v (vT o.t)) [.cells (Au o.c1)]
def Ai (c:Cur) (u:Int) (o:M7):Prop:=((List.length (o.t:List UInt8)≤10)∧(A6 o.c1))∧A2 c u o
theorem Bm (c:Cur) (u:Int) (hp1:A6 c) (hp2:(0:Int)≤u∧u≤18446744073709551615): ∃o:M7,Ai c u o:=by
 have hN:Be=274877906944:=rfl
 have hpl:=Xt hp2
 have hvl:L0 u=(((Dw u).length:Nat):Int):=rfl
 refine Cc Tryz.func149 Q4 Q4 (w:=let z3:=vT (Dw u);let z4:=List.length ((Dw u):List UInt8)≤10;(.intro (Ay c 4) fun o1=> .seg [.call [0] (.v (vB o1.p)) [.cells (Au o1.c1)]] (.br (.seg [.call [] (.v (vI (L0 u))) []] (.intro (Ad o1.c1 3) fun o2=> .seg [.call [0] (.v (vI o2.x)) [.cells (Au o2.c1)],.as 13 (.v (vI ((L0 u)+o2.x)))] (.intro (Uw u ((L0 u)+o2.x)) fun o3=> .seg [.call [] (.v (vT o3.t)) []] (.br (.leaf (⟨o3.t,o2.c1⟩:M7) [0]) (.seg [.call [] (.v z3) []] (.leaf (⟨Dw u,o2.c1⟩:M7) [0])))))) (.seg [.call [] (.v z3) []] (.leaf (⟨Dw u,o1.c1⟩:M7) [0]))),In (Ay c 4) fun o1=>((Bt c 4 o1)∧(o1.p=true→(Fun Tryz.prog 189 [.c (.int .u64 u)] [] (.v (vI (L0 u))) [])∧In (Ad o1.c1 3) fun o2=>(let z1:=(L0 u)+o2.x;let z2:List Blk:=[.cells (Au o2.c1)];(As o1.c1 3 o2)∧((.v (vI (IntKind.i64.wrap z1)):S)= .v (vI z1))∧In (Uw u z1) fun o3=>((Zj u z1 o3)∧((!decide (o3.t=[]))=true→((List.length (o3.t:List UInt8)≤10)∧(A6 o2.c1))∧(.v (vT o3.t):S)= .v (vT o3.t)∧(z2:List Blk)=z2)∧((!decide (o3.t=[]))=false→(Fun Tryz.prog 103 [.c (.int .u64 u)] [] (.v z3) [])∧(z4∧(A6 o2.c1))∧(.v z3:S)= .v z3∧(z2:List Blk)=z2))))∧(o1.p=false→(Fun Tryz.prog 103 [.c (.int .u64 u)] [] (.v z3) [])∧(z4∧(A6 o1.c1))∧(.v z3:S)= .v z3∧([.cells (Au o1.c1)]:List Blk)=[.cells (Au o1.c1)])))) Q4 ?_
 refine⟨(B9 c 4 Q0),fun o1 ho_o1=>?_⟩
 obtain ⟨hp_o1,hf_o1⟩:=ho_o1
 refine⟨hf_o1,fun h1=>?_,fun h1=>?_⟩
 refine⟨(Akw _ Q2),(A3 o1.c1 3 Q0),fun o2 ho_o2=>?_⟩
 obtain ⟨⟨hp_o2_0,hp_o2_1,hp_o2_2,hp_o2_3⟩,hf_o2⟩:=ho_o2
 refine⟨hf_o2,(Ac Q2 Q2),(Akx u ((L0 u)+o2.x) Q2),fun o3 ho_o3=>?_⟩
 obtain ⟨hp_o3,hf_o3⟩:=ho_o3
 refine⟨hf_o3,fun h2=>have q2:=Ap h2;have p2:=of_decide_eq_false q2;?_,fun h2=>have q2:=Ao h2;have p2:=of_decide_eq_true q2;?_⟩
 exact⟨⟨Q2,Q0⟩,rfl,rfl⟩
 exact⟨(Tk _ Q2),⟨Q2,Q0⟩,rfl,rfl⟩
 exact⟨(Tk _ Q2),⟨Q2,Q0⟩,rfl,rfl⟩
structure J9 where
 x:Int
 c1:Cur
def Qw (c:Cur) (o:J9):Prop:=Fun Tryz.prog 168 [vP 0] [.cells (Au c)] (.v (vI o.x)) [.cells (Au o.c1)]
def Qx (c:Cur) (o:J9):Prop:=((A6 o.c1))∧Qw c o
theorem Af4 (c:Cur) (hp1:A6 c): ∃o:J9,Qx c o:=by
 have hN:Be=274877906944:=rfl
 refine Cc Tryz.func168 Q4 Q4 (w:=(.intro (Ay c 4) fun o1=> .seg [.call [0] (.v (vB o1.p)) [.cells (Au o1.c1)]] (.br (.seg [.ty .int,.pubS 6] (.intro (Ci o1.c1 [0,1,(-1),18999,19000,19999,20000,536870911,536870912,9223372036854775807]) fun o2=> .seg [.call [0] (.v (vI o2.x)) [.cells (Au o2.c1)]] (.leaf (⟨o2.x,o2.c1⟩:J9) [0]))) (.intro (Ad o1.c1 20) fun o2=> .seg [.call [0] (.v (vI o2.x)) [.cells (Au o2.c1)],.as 10 (.v (vI (1+o2.x)))] (.leaf (⟨1+o2.x,o2.c1⟩:J9) [0]))),In (Ay c 4) fun o1=>((Bt c 4 o1)∧(o1.p=true→In (Ci o1.c1 [0,1,(-1),18999,19000,19999,20000,536870911,536870912,9223372036854775807]) fun o2=>((Eb o1.c1 [0,1,(-1),18999,19000,19999,20000,536870911,536870912,9223372036854775807] o2)∧((A6 o2.c1))∧(.v (vI o2.x):S)= .v (vI o2.x)∧([.cells (Au o2.c1)]:List Blk)=[.cells (Au o2.c1)]))∧(o1.p=false→In (Ad o1.c1 20) fun o2=>((As o1.c1 20 o2)∧((.v (vI (IntKind.i64.wrap (1+o2.x))):S)= .v (vI (1+o2.x)))∧((A6 o2.c1))∧(.v (vI (1+o2.x)):S)= .v (vI (1+o2.x))∧([.cells (Au o2.c1)]:List Blk)=[.cells (Au o2.c1)]))))) Q4 ?_
 refine⟨(B9 c 4 Q0),fun o1 ho_o1=>?_⟩
 obtain ⟨hp_o1,hf_o1⟩:=ho_o1
 refine⟨hf_o1,fun h1=>?_,fun h1=>?_⟩
 refine⟨(F8 o1.c1 [0,1,(-1),18999,19000,19999,20000,536870911,536870912,9223372036854775807] Q0 Q6 Q6),fun o2 ho_o2=>?_⟩
 obtain ⟨⟨hp_o2_0,hp_o2_1⟩,hf_o2⟩:=ho_o2
 exact⟨hf_o2,Q0,rfl,rfl⟩
 refine⟨(A3 o1.c1 20 Q0),fun o2 ho_o2=>?_⟩
 obtain ⟨⟨hp_o2_0,hp_o2_1,hp_o2_2,hp_o2_3⟩,hf_o2⟩:=ho_o2
 exact⟨hf_o2,(Ac Q2 Q2),Q0,rfl,rfl⟩
theorem Aeq {t:List UInt8} {l:List (List UInt8)} {n:Nat} (h:t∈l) (hl:(l.all fun x=>decide (x.length≤n))=true):t.length≤n:=by
 have:=List.all_eq_true.1 hl t h
 simpa using this
structure R3 where
 t:List UInt8
 c1:Cur
def Zk (c:Cur) (l:List (List UInt8)) (o:R3):Prop:=Fun Tryz.prog 170 [vP 0,.c (.seq .str l)] [.cells (Au c)] (.v (vT o.t)) [.cells (Au o.c1)]
def Ux (c:Cur) (l:List (List UInt8)) (o:R3):Prop:=((o.t∈l)∧(A6 o.c1))∧Zk c l o
theorem Aky (c:Cur) (l:List (List UInt8)) (hp1:A6 c) (hp2:1≤List.length l) (hp3:List.length l≤1000): ∃o:R3,Ux c l o:=by
 have hN:Be=274877906944:=rfl
 refine Cc Tryz.func170 Q4 Q4 (w:=let z1:=((List.length l:Nat):Int);(.intro (Ad c z1) fun o1=> .seg [.call [0] (.v (vI o1.x)) [.cells (Au o1.c1)]] (.intro (fun (x1:List UInt8)=>l[Int.toNat o1.x]? =some x1) fun x1=> .seg [.el .str x1] (.leaf (⟨x1,o1.c1⟩:R3) [0])),In (Ad c z1) fun o1=>((As c z1 o1)∧(∃(x1:List UInt8),l[Int.toNat o1.x]? =some x1)∧∀(x1:List UInt8),(l[Int.toNat o1.x]? =some x1)→((l[Int.toNat o1.x]? =some x1)∧((0:Int)≤o1.x)∧((x1∈l)∧(A6 o1.c1))∧(.v (vT x1):S)= .v (vT x1)∧([.cells (Au o1.c1)]:List Blk)=[.cells (Au o1.c1)])))) Q4 ?_
 refine⟨(A3 c ((List.length l:Nat):Int) Q0),fun o1 ho_o1=>?_⟩
 obtain ⟨⟨hp_o1_0,hp_o1_1,hp_o1_2,hp_o1_3⟩,hf_o1⟩:=ho_o1
 refine⟨hf_o1,(Bq (l:=l) (i:=Int.toNat o1.x) Q2),fun x1 hx1=>?_⟩
 exact⟨hx1,Q2,⟨(List.mem_of_getElem? hx1),Q0⟩,rfl,rfl⟩
structure Lk where
 t:List UInt8
 c1:Cur
def S4 (c:Cur) (s:List UInt8) (o:Lk):Prop:=Fun Tryz.prog 190 [vP 0,vT s] [.cells (Au c)] (.v (vT o.t)) [.cells (Au o.c1)]
def Lm (c:Cur) (s:List UInt8) (o:Lk):Prop:=((List.length (o.t:List UInt8)≤List.length s+2)∧(A6 o.c1))∧S4 c s o
theorem Ab6 (c:Cur) (s:List UInt8) (hp1:A6 c) (hp2:List.length s≤1000000): ∃o:Lk,Lm c s o:=by
 have hN:Be=274877906944:=rfl
 have hml:List.length (List.map (fun b=>(UInt8.toNat b:Int)) s)=List.length s:=by simp
 refine Cc Tryz.func190 Q4 Q4 (w:=let z6:=List.map (fun b=>(UInt8.toNat b:Int)) s;let z7:=((List.length z6:Nat):Int);(.br (.intro (B3 c 2) fun o1=> .seg [.call [0] (.v (vO 1)) [.cells (Au o1.c1),.lst .u8 o1.l]] (.leaf (⟨List.map Bv o1.l,o1.c1⟩:Lk) [0])) (.intro (Ad c z7) fun o1=> .seg [.call [0] (.v (vI o1.x)) [.cells (Au o1.c1)]] (.intro (fun (x1:Int)=>z6[Int.toNat o1.x]? =some x1) fun x1=> .intro (Ad o1.c1 255) fun o2=> .seg [.ord (os 13 [7,12]) [0],.el .u8 x1,.call [0] (.v (vI o2.x)) [.cells (Au o2.c1)],.as 26 (.v (vI (1+o2.x))),.as 27 (.v (.c (.int .u8 (1+o2.x)))),.el .u8 x1] (.leaf (⟨List.map Bv (List.set z6 (Int.toNat o1.x) (IntKind.u8.wrap (((BitVec.ofInt 8 x1 ^^^ BitVec.ofInt 8 (1+o2.x)).toNat:Nat)))),o2.c1⟩:Lk) [0]))),((decide (s=[]))=true→In (B3 c 2) fun o1=>(let z1:=List.map Bv o1.l;(Dn c 2 o1)∧((List.length (z1:List UInt8)≤List.length s+2)∧(A6 o1.c1))∧(.v (vT z1):S)= .v (vT z1)∧([.cells (Au o1.c1)]:List Blk)=[.cells (Au o1.c1)]))∧((decide (s=[]))=false→In (Ad c z7) fun o1=>(let z4:=o1.x<z7;let z5:=(0:Int)≤o1.x;(List.length s≤Be)∧(As c z7 o1)∧(∃(x1:Int),z6[Int.toNat o1.x]? =some x1)∧∀(x1:Int),(z6[Int.toNat o1.x]? =some x1)→(let z3:=z6[Int.toNat o1.x]? =some x1;In (Ad o1.c1 255) fun o2=>(let z2:=List.map Bv (List.set z6 (Int.toNat o1.x) (IntKind.u8.wrap (((BitVec.ofInt 8 x1 ^^^ BitVec.ofInt 8 (1+o2.x)).toNat:Nat))));z4∧z5∧z4∧z5∧z3∧z3∧(As o1.c1 255 o2)∧((.v (vI (IntKind.i64.wrap (1+o2.x))):S)= .v (vI (1+o2.x)))∧((.v (.c (.int .u8 (IntKind.u8.wrap (1+o2.x)))):S)= .v (.c (.int .u8 (1+o2.x))))∧z4∧z5∧z4∧z5∧z3∧((List.length (z2:List UInt8)≤List.length s+2)∧(A6 o2.c1))∧(.v (vT z2):S)= .v (vT z2)∧([.cells (Au o2.c1)]:List Blk)=[.cells (Au o2.c1)])))))) Q4 ?_
 refine dsp (fun h1 p1=>?_) fun h1 p1=>?_
 refine⟨(Fg c 2 Q0 Q2),fun o1 ho_o1=>?_⟩
 obtain ⟨⟨hp_o1_0,hp_o1_1⟩,hf_o1⟩:=ho_o1
 exact⟨hf_o1,⟨Q18,Q0⟩,rfl,rfl⟩
 have hne:1≤List.length s:=List.length_pos_iff.2 (by simpa using p1)
 refine⟨(A3 c ((List.length (List.map (fun b=>(UInt8.toNat b:Int)) s):Nat):Int) Q0),fun o1 ho_o1=>?_⟩
 refine⟨Q2,?_⟩
 obtain ⟨⟨hp_o1_0,hp_o1_1,hp_o1_2,hp_o1_3⟩,hf_o1⟩:=ho_o1
 refine⟨hf_o1,(Bq (l:=List.map (fun b=>(UInt8.toNat b:Int)) s) (i:=Int.toNat o1.x) Q18),fun x1 hx1=>?_⟩
 refine⟨(A3 o1.c1 255 Q0),fun o2 ho_o2=>?_⟩
 obtain ⟨⟨hp_o2_0,hp_o2_1,hp_o2_2,hp_o2_3⟩,hf_o2⟩:=ho_o2
 exact⟨Q18,Q2,Q18,Q2,hx1,hx1,hf_o2,(Ac Q2 Q2),(Mv Q2 Q2),Q18,Q2,Q18,Q2,hx1,⟨(by simp only[List.length_set,List.length_map];omega),Q0⟩,rfl,rfl⟩
structure E2 where
 t:List UInt8
def Vq (n:Int) (o:E2):Prop:=Fun Tryz.prog 218 [vI n] [] (.v (vT o.t)) []
def Qy (n:Int) (o:E2):Prop:=((List.length (o.t:List UInt8)≤4))∧Vq n o
theorem Af5 (n:Int): ∃o:E2,Qy n o:=by
 have hN:Be=274877906944:=rfl
 have t64:0≤n→Int.tdiv n 64=n / 64:=fun h=>Int.tdiv_eq_ediv_of_nonneg h
 have t4096:0≤n→Int.tdiv n 4096=n / 4096:=fun h=>Int.tdiv_eq_ediv_of_nonneg h
 have t262144:0≤n→Int.tdiv n 262144=n / 262144:=fun h=>Int.tdiv_eq_ediv_of_nonneg h
 refine Cc Tryz.func218 Q4 Q4 (w:=let z2:=Int.tdiv n 4096;let z3:=Int.tmod n 64;let z4:=Int.tdiv n 64;let z1:=Int.tmod z4 64;let z5:=Int.tdiv n 262144;let z7:=List.map Bv [240+z5,128+(Int.tmod z2 64),128+z1,128+z3];let z9:=128+(Int.tmod z2 64);let z10:=(64:Int)≠0;let z11:=(.v (vI (IntKind.i64.wrap z4)):S)= .v (vI z4);let z12:=List.map Bv [224+z2,128+z1,128+z3];let z14:=List.map Bv [192+z4,128+z3];let z15:=128+z3;let z6:=(.v (.c (.int .u8 (IntKind.u8.wrap z15))):S)= .v (.c (.int .u8 z15));let z8:=(.v (vI (IntKind.i64.wrap z15)):S)= .v (vI z15);let z16:=128+z1;let z13:=(.v (.c (.int .u8 (IntKind.u8.wrap z16))):S)= .v (.c (.int .u8 z16));let z17:=([]:List Blk);let z18:=Aq n 55296 57343;let z19:=Aq n 0 1114111;let z20:=(.v (vI (IntKind.i64.wrap z16)):S)= .v (vI z16);let z21:=(.v (vI (IntKind.i64.wrap z2)):S)= .v (vI z2);let z22:=List.map Bv [n];let z23:=192+z4;let z24:=224+z2;let z25:=240+z5;let z26:=(List.length ([]:List UInt8)≤4);(.seg [.call [] (.v (vB z19)) []] (.br (.leaf (⟨[]⟩:E2) []) (.seg [.call [] (.v (vB z18)) []] (.br (.leaf (⟨[]⟩:E2) []) (.br (.seg [.as 15 (.v (.c (.int .u8 n))),.ty .u8] (.leaf (⟨List.map Bv [n]⟩:E2) [])) (.br (.seg [.as 22 (.v (vI z4)),.as 23 (.v (vI z23)),.as 24 (.v (.c (.int .u8 z23))),.as 27 (.v (vI z15)),.as 28 (.v (.c (.int .u8 z15))),.ty .u8] (.leaf (⟨List.map Bv [192+z4,128+z3]⟩:E2) [])) (.br (.seg [.as 35 (.v (vI z2)),.as 36 (.v (vI z24)),.as 37 (.v (.c (.int .u8 z24))),.as 39 (.v (vI z4)),.as 41 (.v (vI z16)),.as 42 (.v (.c (.int .u8 z16))),.as 45 (.v (vI z15)),.as 46 (.v (.c (.int .u8 z15))),.ty .u8] (.leaf (⟨List.map Bv [224+z2,128+z1,128+z3]⟩:E2) [])) (.seg [.as 50 (.v (vI z5)),.as 51 (.v (vI z25)),.as 52 (.v (.c (.int .u8 z25))),.as 54 (.v (vI z2)),.as 56 (.v (vI z9)),.as 57 (.v (.c (.int .u8 z9))),.as 59 (.v (vI z4)),.as 61 (.v (vI z16)),.as 62 (.v (.c (.int .u8 z16))),.as 65 (.v (vI z15)),.as 66 (.v (.c (.int .u8 z15))),.ty .u8] (.leaf (⟨List.map Bv [240+z5,128+(Int.tmod z2 64),128+z1,128+z3]⟩:E2) [])))))))),(Fun Tryz.prog 59 [vI n,vI 0,vI 1114111] [] (.v (vB z19)) [])∧((!z19)=true→z26∧(.v (vT []):S)= .v (vT [])∧z17=[])∧((!z19)=false→(Fun Tryz.prog 59 [vI n,vI 55296,vI 57343] [] (.v (vB z18)) [])∧(z18=true→z26∧(.v (vT []):S)= .v (vT [])∧z17=[])∧(z18=false→((decide (n<128))=true→((.v (.c (.int .u8 (IntKind.u8.wrap (n)))):S)= .v (.c (.int .u8 n)))∧((List.length (z22:List UInt8)≤4))∧(.v (vT z22):S)= .v (vT z22)∧z17=[])∧((decide (n<128))=false→((decide (n<2048))=true→z10∧z11∧((.v (vI (IntKind.i64.wrap z23)):S)= .v (vI z23))∧((.v (.c (.int .u8 (IntKind.u8.wrap z23))):S)= .v (.c (.int .u8 z23)))∧z10∧z8∧z6∧((List.length (z14:List UInt8)≤4))∧(.v (vT z14):S)= .v (vT z14)∧z17=[])∧((decide (n<2048))=false→((decide (n<65536))=true→((4096:Int)≠0)∧z21∧((.v (vI (IntKind.i64.wrap z24)):S)= .v (vI z24))∧((.v (.c (.int .u8 (IntKind.u8.wrap z24))):S)= .v (.c (.int .u8 z24)))∧z10∧z11∧z10∧z20∧z13∧z10∧z8∧z6∧((List.length (z12:List UInt8)≤4))∧(.v (vT z12):S)= .v (vT z12)∧z17=[])∧((decide (n<65536))=false→((262144:Int)≠0)∧((.v (vI (IntKind.i64.wrap z5)):S)= .v (vI z5))∧((.v (vI (IntKind.i64.wrap z25)):S)= .v (vI z25))∧((.v (.c (.int .u8 (IntKind.u8.wrap z25))):S)= .v (.c (.int .u8 z25)))∧((4096:Int)≠0)∧z21∧z10∧((.v (vI (IntKind.i64.wrap z9)):S)= .v (vI z9))∧((.v (.c (.int .u8 (IntKind.u8.wrap z9))):S)= .v (.c (.int .u8 z9)))∧z10∧z11∧z10∧z20∧z13∧z10∧z8∧z6∧((List.length (z7:List UInt8)≤4))∧(.v (vT z7):S)= .v (vT z7)∧z17=[]))))))) Q4 ?_
 refine⟨(Bh _ _ _),fun h1=>have q1:=Ap h1;have p1:=A4 q1;?_,fun h1=>have q1:=Ao h1;have p1:=Av q1;?_⟩
 exact⟨(by simp),rfl,rfl⟩
 refine⟨(Bh _ _ _),fun h2=>have p2:=Av h2;?_,fun h2=>have p2:=A4 h2;?_⟩
 exact⟨(by simp),rfl,rfl⟩
 refine dsp (fun h3 p3=>?_) fun h3 p3=>?_
 exact⟨(Mv Q2 Q2),(by simp),rfl,rfl⟩
 refine dsp (fun h4 p4=>?_) fun h4 p4=>?_
 exact⟨Q26,(Ac Q2 Q2),(Ac Q2 Q2),(Mv Q2 Q2),Q26,(Ac Q55 Q55),(Mv Q55 Q55),(by simp),rfl,rfl⟩
 refine dsp (fun h5 p5=>?_) fun h5 p5=>?_
 exact⟨Q26,(Ac Q2 Q2),(Ac Q2 Q2),(Mv Q2 Q2),Q26,(Ac Q2 Q2),Q26,(Ac Q56 Q56),(Mv Q56 Q56),Q26,(Ac Q55 Q55),(Mv Q55 Q55),(by simp),rfl,rfl⟩
 exact⟨Q26,(Ac Q2 Q2),(Ac Q2 Q2),(Mv Q2 Q2),Q26,(Ac Q2 Q2),Q26,(Ac Q81 Q81),(Mv Q81 Q81),Q26,(Ac Q2 Q2),Q26,(Ac Q56 Q56),(Mv Q56 Q56),Q26,(Ac Q55 Q55),(Mv Q55 Q55),(by simp),rfl,rfl⟩
structure R4 where
 x:Int
 c1:Cur
def Zm (c:Cur) (o:R4):Prop:=Fun Tryz.prog 219 [vP 0] [.cells (Au c)] (.v (vI o.x)) [.cells (Au o.c1)]
def Uy (c:Cur) (o:R4):Prop:=((A6 o.c1))∧Zm c o
theorem Akz (c:Cur) (hp1:A6 c): ∃o:R4,Uy c o:=by
 have hN:Be=274877906944:=rfl
 refine Cc Tryz.func219 Q4 Q4 (w:=(.intro (Ad c 1114112) fun o1=> .seg [.call [0] (.v (vI o1.x)) [.cells (Au o1.c1)],.ty .int,.pubS 6] (.intro (Ci o1.c1 [0,65,127,128,2047,2048,4095,55295,57344,65535,65536,1114111,o1.x]) fun o2=> .seg [.call [0] (.v (vI o2.x)) [.cells (Au o2.c1)]] (.leaf (⟨o2.x,o2.c1⟩:R4) [0])),In (Ad c 1114112) fun o1=>((As c 1114112 o1)∧In (Ci o1.c1 [0,65,127,128,2047,2048,4095,55295,57344,65535,65536,1114111,o1.x]) fun o2=>((Eb o1.c1 [0,65,127,128,2047,2048,4095,55295,57344,65535,65536,1114111,o1.x] o2)∧((A6 o2.c1))∧(.v (vI o2.x):S)= .v (vI o2.x)∧([.cells (Au o2.c1)]:List Blk)=[.cells (Au o2.c1)])))) Q4 ?_
 refine⟨(A3 c 1114112 Q0),fun o1 ho_o1=>?_⟩
 obtain ⟨⟨hp_o1_0,hp_o1_1,hp_o1_2,hp_o1_3⟩,hf_o1⟩:=ho_o1
 refine⟨hf_o1,(F8 o1.c1 [0,65,127,128,2047,2048,4095,55295,57344,65535,65536,1114111,o1.x] Q0 Q6 Q6),fun o2 ho_o2=>?_⟩
 obtain ⟨⟨hp_o2_0,hp_o2_1⟩,hf_o2⟩:=ho_o2
 exact⟨hf_o2,Q0,rfl,rfl⟩
structure R5 where
 t:List UInt8
 c1:Cur
def Uz (c:Cur) (n:Int) (o:R5):Prop:=Fun Tryz.prog 203 [vP 0,vI n] [.cells (Au c)] (.v (vT o.t)) [.cells (Au o.c1)]
def M8 (c:Cur) (n:Int) (o:R5):Prop:=((List.length (o.t:List UInt8)≤4*Int.toNat n)∧(A6 o.c1))∧Uz c n o
structure Ph where
 c:Cur
 s:List UInt8
 i:Nat
def Pi (n:Int):Fam:=⟨Ph,fun q1=>[(0,.v (vP 0)),(1,.v (vI n)),(5,.v (vT q1.s)),(6,.v (vI ((q1.i:Nat):Int)))],fun q1=>[.cells (Au q1.c)],fun q1=>A6 q1.c∧(q1.i=0∨((q1.i:Nat):Int)≤n)∧List.length q1.s≤4*q1.i,fun q1=>Int.toNat n-q1.i⟩
theorem Aer (c:Cur) (n:Int) (hp1:A6 c) (hp2:n≤1000): ∃o:R5,M8 c n o:=by
 have hN:Be=274877906944:=rfl
 refine Cc Tryz.func203 Q4 Q4 (w:=let z2:=Pi n;(.seg [.at 0,.keep [0,1,5,6],.sel [0]] (.loop z2 fun q1=> .br (.intro (Uy q1.c) fun o1=> .seg [.call [0] (.v (vI o1.x)) [.cells (Au o1.c1)]] (.intro (Qy o1.x) fun o2=> .seg [.call [] (.v (vT o2.t)) [],.as 11 (.v (vI (((q1.i:Nat):Int)+1))),.at 0,.keep [0,1,5,6],.sel [0]] (.next))) (.leaf (⟨q1.s,q1.c⟩:R5) [0])),z2.Has [(0,.v (vP 0)),(1,.v (vI n)),(5,.v (vT [])),(6,.v (vI 0))] [.cells (Au c)]∧∀q1,z2.inv q1→(let z1:=((q1.i:Nat):Int);((decide (z1<n))=true→In (Uy q1.c) fun o1=>((Zm q1.c o1)∧In (Qy o1.x) fun o2=>((Vq o1.x o2)∧(((List.length q1.s+List.length o2.t:Nat):Int)≤Bk)∧((.v (vI (IntKind.i64.wrap (z1+1))):S)= .v (vI (z1+1)))∧z2.Nxt q1 [(0,.v (vP 0)),(1,.v (vI n)),(5,.v (vT (q1.s++o2.t))),(6,.v (vI (z1+1)))] [.cells (Au o1.c1)])))∧((decide (z1<n))=false→((List.length (q1.s:List UInt8)≤4*Int.toNat n)∧(A6 q1.c))∧(.v (vT q1.s):S)= .v (vT q1.s)∧([.cells (Au q1.c)]:List Blk)=[.cells (Au q1.c)])))) Q4 ?_
 refine⟨Bs (j:=(⟨c,[],0⟩:Ph)) Q9 rfl (by dsimp only[Pi];exact⟨by assumption,.inl rfl,by simp⟩),fun (q1:Ph) hq_q1=>?_⟩
 have hi_q1:A6 q1.c∧(q1.i=0∨((q1.i:Nat):Int)≤n)∧List.length q1.s≤4*q1.i:=hq_q1
 obtain ⟨v1,v2,v3⟩:=hi_q1
 refine dsp (fun h1 p1=>?_) fun h1 p1=>?_
 refine⟨(Akz q1.c Q0),fun o1 ho_o1=>?_⟩
 obtain ⟨hp_o1,hf_o1⟩:=ho_o1
 refine⟨hf_o1,(Af5 o1.x),fun o2 ho_o2=>?_⟩
 obtain ⟨hp_o2,hf_o2⟩:=ho_o2
 exact⟨hf_o2,(by simp only[Bk];omega),(Ac Q2 Q2),Bc (j:=(⟨o1.c1,q1.s++o2.t,q1.i+1⟩:Ph)) Q9 rfl (by dsimp only[Pi];exact⟨by assumption,by omega,by simp;omega⟩) (by dsimp only[Pi];omega)⟩
 exact⟨⟨Q2,Q0⟩,rfl,rfl⟩
structure Jh where
 t:List UInt8
 c1:Cur
def Zn (c:Cur) (o:Jh):Prop:=Fun Tryz.prog 166 [vP 0] [.cells (Au c)] (.v (vT o.t)) [.cells (Au o.c1)]
def U0 (c:Cur) (o:Jh):Prop:=((List.length (o.t:List UInt8)≤16)∧(A6 o.c1))∧Zn c o
theorem Ak0 (c:Cur) (hp1:A6 c): ∃o:Jh,U0 c o:=by
 have hN:Be=274877906944:=rfl
 refine Cc Tryz.func166 Q4 Q4 (w:=(.intro (Ad c 4) fun o1=> .seg [.call [0] (.v (vI o1.x)) [.cells (Au o1.c1)]] (.intro (M8 o1.c1 o1.x) fun o2=>let z2:=((List.length o2.t:Nat):Int)+1;.seg [.call [0] (.v (vT o2.t)) [.cells (Au o2.c1)]] (.intro (Ad o2.c1 4) fun o3=> .seg [.call [0] (.v (vI o3.x)) [.cells (Au o3.c1)]] (.br (.intro (Lm o3.c1 o2.t) fun o4=> .seg [.call [0] (.v (vT o4.t)) [.cells (Au o4.c1)]] (.leaf (⟨o4.t,o4.c1⟩:Jh) [0])) (.br (.seg [.as 21 (.v (vI z2))] (.intro (Ad o3.c1 z2) fun o4=> .seg [.call [0] (.v (vI o4.x)) [.cells (Au o4.c1)]] (.leaf (⟨List.take (Int.toNat o4.x) o2.t,o4.c1⟩:Jh) [0]))) (.br (.seg [.ty .str,.pubS 28] (.intro (Ux o3.c1 [[128],[192,128],[224,159,191],[237,160,128],[240,143,191,191],[244,144,128,128],[245],[255],[226,130],[193,191]]) fun o4=> .seg [.call [0] (.v (vT o4.t)) [.cells (Au o4.c1)]] (.leaf (⟨o2.t++o4.t,o4.c1⟩:Jh) [0]))) (.leaf (⟨o2.t,o3.c1⟩:Jh) [0])))))),In (Ad c 4) fun o1=>((As c 4 o1)∧In (M8 o1.c1 o1.x) fun o2=>(let z3:=((List.length o2.t:Nat):Int);(Uz o1.c1 o1.x o2)∧In (Ad o2.c1 4) fun o3=>((As o2.c1 4 o3)∧((decide (o3.x=0))=true→In (Lm o3.c1 o2.t) fun o4=>((S4 o3.c1 o2.t o4)∧((List.length (o4.t:List UInt8)≤16)∧(A6 o4.c1))∧(.v (vT o4.t):S)= .v (vT o4.t)∧([.cells (Au o4.c1)]:List Blk)=[.cells (Au o4.c1)]))∧((decide (o3.x=0))=false→((decide (o3.x=1))=true→((.v (vI (IntKind.i64.wrap (z3+1))):S)= .v (vI (z3+1)))∧In (Ad o3.c1 (z3+1)) fun o4=>(let z1:=List.take (Int.toNat o4.x) o2.t;(As o3.c1 (z3+1) o4)∧(o4.x≤z3)∧((0:Int)≤o4.x)∧((List.length (z1:List UInt8)≤16)∧(A6 o4.c1))∧(.v (vT z1):S)= .v (vT z1)∧([.cells (Au o4.c1)]:List Blk)=[.cells (Au o4.c1)]))∧((decide (o3.x=1))=false→((decide (o3.x=2))=true→In (Ux o3.c1 [[128],[192,128],[224,159,191],[237,160,128],[240,143,191,191],[244,144,128,128],[245],[255],[226,130],[193,191]]) fun o4=>((Zk o3.c1 [[128],[192,128],[224,159,191],[237,160,128],[240,143,191,191],[244,144,128,128],[245],[255],[226,130],[193,191]] o4)∧(((List.length o2.t+List.length o4.t:Nat):Int)≤Bk)∧((List.length ((o2.t++o4.t):List UInt8)≤16)∧(A6 o4.c1))∧(.v (vT (o2.t++o4.t)):S)= .v (vT (o2.t++o4.t))∧([.cells (Au o4.c1)]:List Blk)=[.cells (Au o4.c1)]))∧((decide (o3.x=2))=false→((List.length (o2.t:List UInt8)≤16)∧(A6 o3.c1))∧(.v (vT o2.t):S)= .v (vT o2.t)∧([.cells (Au o3.c1)]:List Blk)=[.cells (Au o3.c1)])))))))) Q4 ?_
 refine⟨(A3 c 4 Q0),fun o1 ho_o1=>?_⟩
 obtain ⟨⟨hp_o1_0,hp_o1_1,hp_o1_2,hp_o1_3⟩,hf_o1⟩:=ho_o1
 refine⟨hf_o1,(Aer o1.c1 o1.x Q0 Q2),fun o2 ho_o2=>?_⟩
 obtain ⟨⟨hp_o2_0,hp_o2_1⟩,hf_o2⟩:=ho_o2
 refine⟨hf_o2,(A3 o2.c1 4 Q0),fun o3 ho_o3=>?_⟩
 obtain ⟨⟨hp_o3_0,hp_o3_1,hp_o3_2,hp_o3_3⟩,hf_o3⟩:=ho_o3
 refine⟨hf_o3,dsp (fun h1 p1=>?_) fun h1 p1=>?_⟩
 refine⟨(Ab6 o3.c1 o2.t Q0 Q2),fun o4 ho_o4=>?_⟩
 obtain ⟨⟨hp_o4_0,hp_o4_1⟩,hf_o4⟩:=ho_o4
 exact⟨hf_o4,⟨Q2,Q0⟩,rfl,rfl⟩
 refine dsp (fun h2 p2=>?_) fun h2 p2=>?_
 refine⟨(Ac Q2 Q2),(A3 o3.c1 (((List.length o2.t:Nat):Int)+1) Q0),fun o4 ho_o4=>?_⟩
 obtain ⟨⟨hp_o4_0,hp_o4_1,hp_o4_2,hp_o4_3⟩,hf_o4⟩:=ho_o4
 exact⟨hf_o4,Q2,Q2,⟨(by simp only[List.length_take];omega),Q0⟩,rfl,rfl⟩
 refine dsp (fun h3 p3=>?_) fun h3 p3=>?_
 refine⟨(Aky o3.c1 [[128],[192,128],[224,159,191],[237,160,128],[240,143,191,191],[244,144,128,128],[245],[255],[226,130],[193,191]] Q0 Q6 Q6),fun o4 ho_o4=>?_⟩
 obtain ⟨⟨hp_o4_0,hp_o4_1⟩,hf_o4⟩:=ho_o4
 exact⟨hf_o4,(by have:=Aeq (n:=4) hp_o4_0 Q26;simp only[Bk];omega),⟨(by have:=Aeq (n:=4) hp_o4_0 Q26;simp;omega),Q0⟩,rfl,rfl⟩
 exact⟨⟨Q2,Q0⟩,rfl,rfl⟩
end Go.Proofs.YtcmnedgnppnhoaaGreat.Ax
