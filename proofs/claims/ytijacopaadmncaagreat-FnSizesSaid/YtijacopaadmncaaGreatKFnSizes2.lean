/- Drawn lists of events. Sizes: the program. Sizes: messages. Sizes: the reference. Sizes: the reference, messages. -/
import Derived.Test.YtijacopaadmncaaGreatKFnSizes1
import Derived.Test.YtijacopaadmncaaGreatKS2
set_option linter.unusedSimpArgs false
set_option linter.unusedVariables false
namespace Go.Proofs.YtijacopaadmncaaGreat.Ax
open Go.RowKit
structure Auj where
 l:List Ev
 c1:Cur
def Auy (c:Cur) (p:Pln) (shape:Int) (deep:Int) (o:Auj):Prop:=Fun Tryz.prog 220 [vP 0,.agg (Cd p),vI shape,vI deep] [.cells (By c)] (.v (vO 1)) [.cells (By o.c1),.lst .ev o.l]
def Auk (c:Cur) (p:Pln) (shape:Int) (deep:Int) (o:Auj):Prop:=((List.length o.l≤4*itL (Int.toNat deep))∧(D2 o.l≤4*itT (Int.toNat deep))∧(AllB o.l)∧(An o.c1))∧Auy c p shape deep o
def Auz (K:Nat):Prop:= ∀(c:Cur) (p:Pln) (shape:Int) (deep:Int) (hp1:An c) (hp2:Asf p) (hp3:(0:Int)≤deep∧deep≤7) (hp4:(0:Int)≤shape∧shape<((List.length (p).shapes:Nat):Int)) (hp5:deep<((K:Nat):Int)),∃o:Auj,Auk c p shape deep o
structure Uu where
 l:List Ev
 c1:Cur
def Aom (c:Cur) (p:Pln) (shape:Int) (deep:Int) (o:Uu):Prop:=Fun Tryz.prog 220 [vP 0,.agg (Cd p),vI shape,vI deep] [.cells (By c)] (.v (vO 1)) [.cells (By o.c1),.lst .ev o.l]
def Aon (c:Cur) (p:Pln) (shape:Int) (deep:Int) (o:Uu):Prop:=((List.length o.l≤4*itL (Int.toNat deep))∧(D2 o.l≤4*itT (Int.toNat deep))∧(AllB o.l)∧(An o.c1))∧Aom c p shape deep o
structure F4 where
 c:Cur
 out:List Ev
 i:Nat
def Rt (p:Pln) (deep:Int) (x1:Shp) (o1:Ct):Fam:=⟨F4,fun q1=>[(0,.v (vP 0)),(3,.v (vI deep)),(5,.v (vP 1)),(9,.v (vO 2)),(10,.v (.c (.seq .fld x1.fields))),(11,.v (vI o1.x)),(12,.v (vI ((q1.i:Nat):Int)))],fun q1=>[.cells (By q1.c),.cells (Cd p),.lst .ev q1.out],fun q1=>An q1.c∧q1.i≤4∧List.length q1.out≤q1.i*itL (Int.toNat deep)∧D2 q1.out≤q1.i*itT (Int.toNat deep)∧AllB q1.out,fun q1=>5-q1.i⟩
structure E9 where
 c:Cur
 out:List Ev
 e:Ev
 m:Int
 k:Nat
def Np (p:Pln) (deep:Int) (x1:Shp) (o1:Ct) (q1:F4) (x2:Fld):Fam:=⟨E9,fun q2=>[(0,.v (vP 0)),(3,.v (vI deep)),(5,.v (vP 1)),(9,.v (vO 2)),(10,.v (.c (.seq .fld x1.fields))),(11,.v (vI o1.x)),(12,.v (vI ((q1.i:Nat):Int))),(13,.v (vP 3)),(14,.v (vP 4)),(15,.v (vI q2.m)),(16,.v (vI ((q2.k:Nat):Int)))],fun q2=>[.cells (By q2.c),.cells (Cd p),.lst .ev q2.out,.cells (Dd x2),.cells (cEv q2.e)],fun q2=>An q2.c∧q2.m≤3∧q2.k≤3∧List.length q2.out≤List.length q1.out+q2.k∧D2 q2.out≤D2 q1.out∧AllB q2.out∧List.length (q2.e).text=0,fun q2=>4-q2.k⟩
structure L4 where
 c:Cur
 out:List Ev
 s:List UInt8
def L5 (p:Pln) (deep:Int) (x1:Shp) (o1:Ct) (q1:F4):Fam:=⟨L4,fun q2=>[(0,.v (vP 0)),(3,.v (vI deep)),(5,.v (vP 1)),(9,.v (vO 2)),(10,.v (.c (.seq .fld x1.fields))),(11,.v (vI o1.x)),(12,.v (vI ((q1.i:Nat):Int))),(17,.v (vT q2.s))],fun q2=>[.cells (By q2.c),.cells (Cd p),.lst .ev q2.out],fun q2=>An q2.c∧List.length q2.s≤12∧List.length q2.out+List.length q2.s≤List.length q1.out+13∧D2 q2.out+List.length q2.s≤D2 q1.out+12∧AllB q2.out,fun q2=>List.length q2.s⟩
theorem Ath (K:Nat) (hE:Auz K) (c:Cur) (p:Pln) (shape:Int) (deep:Int) (hp1:An c) (hp2:Asf p) (hp3:(0:Int)≤deep∧deep≤7) (hp4:(0:Int)≤shape∧shape<((List.length (p).shapes:Nat):Int)) (hp5:deep≤((K:Nat):Int)): ∃o:Uu,Aon c p shape deep o:=by
 have hN:Ba=274877906944:=rfl
 have hil:=Ak5 (Int.toNat deep)
 have hit:=Ap7 (Int.toNat deep)
 have him:=Afc hp3.1 hp3.2
 refine Bz Tryz.func220 Q8 Q8 (w:=let zi:Int→C:= .int .i64;let z30:=(⟨5,0,0,0,[],0,0⟩:Ev);let z31:=(4294967296:Int)≠0;let z32:=deep-1;(.seg [.ty .ev] (.intro (Sx (p.shapes[Int.toNat shape]?)) fun x1=> .seg [.el .shp x1] (.intro (Aa c 5) fun o1=> .seg [.call [0] (.v (vI o1.x)) (Kc o1.c1),.at 0,.keep [0,3,5,9,10,11,12],.sel [0,1,2]] (.loop (Rt p deep x1 o1) fun q1=>let z24:S:= .v (vI (((q1.i:Nat):Int)+1));.br (.br (.intro (Aa q1.c ((List.length x1.fields:Nat):Int)) fun o2=> .seg [.call [0] (.v (vI o2.x)) (Kc o2.c1)] (.intro (Sx (x1.fields[Int.toNat o2.x]?)) fun x2=> .seg [.el .fld x2,.call [] (.v (vB (Bs x2.kind))) []] (.br (.seg [.call [] (.v (vB (Ww x2))) []] (.br (.intro (Aa o2.c1 3) fun o3=> .seg [.call [0] (.v (vI o3.x)) (Kc o3.c1),.as 95 (.v (vI (1+o3.x))),.at 0,.keep [0,3,5,9,10,11,12,13,14,15,16],.sel [0,1,2,3,4]] (.loop (Np p deep x1 o1 q1 x2) fun q2=>let z5:S:= .v (vI (((q2.k:Nat):Int)+1));.br (.intro (Bu q2.c) fun o4=> .seg [.call [0] (.v (.c (.int .u64 o4.x))) (Kc o4.c1)] (.br (.intro (Aa o4.c1 2) fun o5=> .seg [.call [0] (.v (vI o5.x)) (Kc o5.c1),.as 110 (.v (.c (.int .u64 o5.x)))] (.br (.seg [.as 117 (.v (.c (.int .u64 (o5.x % 4294967296)))),.ty .ev,.ty .ev,.as 100 z5,.at 0,.keep [0,3,5,9,10,11,12,13,14,15,16],.sel [0,1,6,3,4]] (.next)) (.seg [.ty .ev,.ty .ev,.as 100 z5,.at 0,.keep [0,3,5,9,10,11,12,13,14,15,16],.sel [0,1,6,3,4]] (.next)))) (.br (.seg [.as 117 (.v (.c (.int .u64 (o4.x % 4294967296)))),.ty .ev,.ty .ev,.as 100 z5,.at 0,.keep [0,3,5,9,10,11,12,13,14,15,16],.sel [0,1,6,3,4]] (.next)) (.seg [.ty .ev,.ty .ev,.as 100 z5,.at 0,.keep [0,3,5,9,10,11,12,13,14,15,16],.sel [0,1,6,3,4]] (.next))))) (.seg [.as 38 z24,.at 0,.keep [0,3,5,9,10,11,12],.sel [0,1,2]] (.next)))) (.seg [.at 0,.keep [0,3,5,9,10,11,12,13,14,15,16],.sel [0,1,2,3,4]] (.loop (Np p deep x1 o1 q1 x2) fun q2=>let z11:S:= .v (vI (((q2.k:Nat):Int)+1));.br (.intro (Bu q2.c) fun o3=> .seg [.call [0] (.v (.c (.int .u64 o3.x))) (Kc o3.c1)] (.br (.intro (Aa o3.c1 2) fun o4=> .seg [.call [0] (.v (vI o4.x)) (Kc o4.c1),.as 110 (.v (.c (.int .u64 o4.x)))] (.br (.seg [.as 117 (.v (.c (.int .u64 (o4.x % 4294967296)))),.ty .ev,.ty .ev,.as 100 z11,.at 0,.keep [0,3,5,9,10,11,12,13,14,15,16],.sel [0,1,6,3,4]] (.next)) (.seg [.ty .ev,.ty .ev,.as 100 z11,.at 0,.keep [0,3,5,9,10,11,12,13,14,15,16],.sel [0,1,6,3,4]] (.next)))) (.br (.seg [.as 117 (.v (.c (.int .u64 (o3.x % 4294967296)))),.ty .ev,.ty .ev,.as 100 z11,.at 0,.keep [0,3,5,9,10,11,12,13,14,15,16],.sel [0,1,6,3,4]] (.next)) (.seg [.ty .ev,.ty .ev,.as 100 z11,.at 0,.keep [0,3,5,9,10,11,12,13,14,15,16],.sel [0,1,6,3,4]] (.next))))) (.seg [.as 38 z24,.at 0,.keep [0,3,5,9,10,11,12],.sel [0,1,2]] (.next)))))) (.br (.br (.seg [.as 38 z24,.at 0,.keep [0,3,5,9,10,11,12],.sel [0,1,2]] (.next)) (.intro (Auk o2.c1 p x2.msg z32) fun o3=> .seg [.ord [(0,true),(1,true),(4,true),(5,true),(6,true),(7,true),(8,true),(9,true),(2,false),(3,false),(10,false),(11,false),(12,true)] [0,2],.as 139 (.v (vI z32)),.ty .ev,.ty .ev,.call [0] (.v (vO 1)) [.cells (By o3.c1),.lst .ev o3.l],.ty .ev,.ty .ev,.ty .ev,.as 38 z24,.at 0,.keep [0,3,5,9,10,11,12],.sel [0,1,10]] (.next))) (.intro (Aa o2.c1 4) fun o3=> .seg [.call [0] (.v (vI o3.x)) (Kc o3.c1)] (.intro (Ge o3.c1 o3.x) fun o4=> .seg [.call [0] (.v (vT o4.t)) (Kc o4.c1)] (.br (.intro (Aa o4.c1 7) fun o5=> .seg [.call [0] (.v (vI o5.x)) (Kc o5.c1)] (.intro (A4 o5.c1 o5.x) fun o6=> .seg [.call [0] (.v (vO 1)) [.cells (By o6.c1),.lst .u8 o6.l],.ty .ev,.ty .ev,.at 0,.keep [0,3,5,9,10,11,12,17],.sel [0,1,7]] (.loop (L5 p deep x1 o1 q1) fun q2=> .br (.intro (Aa q2.c ((List.length q2.s:Nat):Int)) fun o7=> .seg [.call [0] (.v (vI o7.x)) (Kc o7.c1),.as 72 (.v (vI (1+o7.x))),.ty .ev,.ty .ev,.at 0,.keep [0,3,5,9,10,11,12,17],.sel [0,1,4]] (.next)) (.seg [.ty .ev,.ty .ev,.as 38 z24,.at 0,.keep [0,3,5,9,10,11,12],.sel [0,1,4]] (.next))))) (.seg [.ty .ev,.ty .ev,.at 0,.keep [0,3,5,9,10,11,12,17],.sel [0,1,6]] (.loop (L5 p deep x1 o1 q1) fun q2=> .br (.intro (Aa q2.c ((List.length q2.s:Nat):Int)) fun o5=> .seg [.call [0] (.v (vI o5.x)) (Kc o5.c1),.as 72 (.v (vI (1+o5.x))),.ty .ev,.ty .ev,.at 0,.keep [0,3,5,9,10,11,12,17],.sel [0,1,4]] (.next)) (.seg [.ty .ev,.ty .ev,.as 38 z24,.at 0,.keep [0,3,5,9,10,11,12],.sel [0,1,4]] (.next))))))))))) (.leaf (⟨q1.out,q1.c⟩:Uu) [0,2])) (.leaf (⟨q1.out,q1.c⟩:Uu) [0,2])))),El (p.shapes[Int.toNat shape]?) fun x1=>(let z29:=((List.length x1.fields:Nat):Int);(p.shapes[Int.toNat shape]? =some x1)∧((0:Int)≤shape)∧In (Aa c 5) fun o1=>(let z28:=Rt p deep x1 o1;(Ae c 5 o1)∧z28.Has [(0,.v (vP 0)),(3,.v (vI deep)),(5,.v (vP 1)),(9,.v (vO 2)),(10,.v (.c (.seq .fld x1.fields))),(11,.v (vI o1.x)),(12,.v (vI 0))] [.cells (By o1.c1),.cells (Cd p),.lst .ev ([]:List Ev)]∧∀q1,z28.inv q1→(let z25:=((q1.i:Nat):Int);let z26:=((List.length q1.out≤4*itL (Int.toNat deep))∧(D2 q1.out≤4*itT (Int.toNat deep))∧(AllB q1.out)∧(An q1.c))∧Lf (.v (vO 1)) (.v (vO 1)) [.cells (By q1.c),.lst .ev q1.out] [.cells (By q1.c),.lst .ev q1.out];let z27:=L5 p deep x1 o1 q1;Bc (decide (z25<o1.x)) (Bc (decide (0<z29)) (In (Aa q1.c z29) fun o2=>((Ae q1.c z29 o2)∧El (x1.fields[Int.toNat o2.x]?) fun x2=>(let z20:=Np p deep x1 o1 q1 x2;let z21:=(⟨3,x2.number,0,0,[],0,0⟩:Ev);let z22:=(⟨6,x2.number,0,0,[],0,0⟩:Ev);let z23:=decide (x2.kind=4);(x1.fields[Int.toNat o2.x]? =some x2)∧((0:Int)≤o2.x)∧(Fp 207 [vI x2.kind] [] (.v (vB (Bs x2.kind))) [])∧Bc (Bs x2.kind) ((Fp 181 [.agg (Dd x2)] [] (.v (vB (Ww x2))) [])∧Bc (Ww x2) (In (Aa o2.c1 3) fun o3=>((Ae o2.c1 3 o3)∧(wI (1+o3.x))∧z20.Has [(0,.v (vP 0)),(3,.v (vI deep)),(5,.v (vP 1)),(9,.v (vO 2)),(10,.v (.c (.seq .fld x1.fields))),(11,.v (vI o1.x)),(12,.v (vI z25)),(13,.v (vP 3)),(14,.v (vP 4)),(15,.v (vI (1+o3.x))),(16,.v (vI 0))] [.cells (By o3.c1),.cells (Cd p),.lst .ev q1.out,.cells (Dd x2),.cells [zi 0,zi x2.number,.int .u64 0,zi 0,.str [],zi 0,zi 0]]∧∀q2,z20.inv q2→(let z6:=((q2.k:Nat):Int)+1;Bc (decide (((q2.k:Nat):Int)<q2.m)) (In (Bu q2.c) fun o4=>(let z3:=(⟨2,q2.e.field,o4.x % 4294967296,q2.e.len,q2.e.text,q2.e.code,q2.e.at_⟩:Ev);let z4:=(⟨2,q2.e.field,o4.x,q2.e.len,q2.e.text,q2.e.code,q2.e.at_⟩:Ev);(C0 q2.c o4)∧Bc (decide (x2.kind=3)) (In (Aa o4.c1 2) fun o5=>(let z1:=(⟨2,q2.e.field,o5.x % 4294967296,q2.e.len,q2.e.text,q2.e.code,q2.e.at_⟩:Ev);let z2:=(⟨2,q2.e.field,o5.x,q2.e.len,q2.e.text,q2.e.code,q2.e.at_⟩:Ev);(Ae o4.c1 2 o5)∧(wU (o5.x))∧Bc z23 (z31∧((.v (.c (.int .u64 (Int.tmod o5.x 4294967296))):S)= .v (.c (.int .u64 (o5.x % 4294967296))))∧(List.length q2.out+List.length [z1]≤Ba)∧(wI z6)∧z20.Nxt q2 [(0,.v (vP 0)),(3,.v (vI deep)),(5,.v (vP 1)),(9,.v (vO 2)),(10,.v (.c (.seq .fld x1.fields))),(11,.v (vI o1.x)),(12,.v (vI z25)),(13,.v (vP 3)),(14,.v (vP 4)),(15,.v (vI q2.m)),(16,.v (vI z6))] [.cells (By o5.c1),.cells (Cd p),.lst .ev (q2.out++[z1]),.cells (Dd x2),.cells [zi 2,zi q2.e.field,.int .u64 (o5.x % 4294967296),zi q2.e.len,.str q2.e.text,zi q2.e.code,zi q2.e.at_]]) ((List.length q2.out+List.length [z2]≤Ba)∧(wI z6)∧z20.Nxt q2 [(0,.v (vP 0)),(3,.v (vI deep)),(5,.v (vP 1)),(9,.v (vO 2)),(10,.v (.c (.seq .fld x1.fields))),(11,.v (vI o1.x)),(12,.v (vI z25)),(13,.v (vP 3)),(14,.v (vP 4)),(15,.v (vI q2.m)),(16,.v (vI z6))] [.cells (By o5.c1),.cells (Cd p),.lst .ev (q2.out++[z2]),.cells (Dd x2),.cells [zi 2,zi q2.e.field,.int .u64 o5.x,zi q2.e.len,.str q2.e.text,zi q2.e.code,zi q2.e.at_]]))) (Bc z23 (z31∧((.v (.c (.int .u64 (Int.tmod o4.x 4294967296))):S)= .v (.c (.int .u64 (o4.x % 4294967296))))∧(List.length q2.out+List.length [z3]≤Ba)∧(wI z6)∧z20.Nxt q2 [(0,.v (vP 0)),(3,.v (vI deep)),(5,.v (vP 1)),(9,.v (vO 2)),(10,.v (.c (.seq .fld x1.fields))),(11,.v (vI o1.x)),(12,.v (vI z25)),(13,.v (vP 3)),(14,.v (vP 4)),(15,.v (vI q2.m)),(16,.v (vI z6))] [.cells (By o4.c1),.cells (Cd p),.lst .ev (q2.out++[z3]),.cells (Dd x2),.cells [zi 2,zi q2.e.field,.int .u64 (o4.x % 4294967296),zi q2.e.len,.str q2.e.text,zi q2.e.code,zi q2.e.at_]]) ((List.length q2.out+List.length [z4]≤Ba)∧(wI z6)∧z20.Nxt q2 [(0,.v (vP 0)),(3,.v (vI deep)),(5,.v (vP 1)),(9,.v (vO 2)),(10,.v (.c (.seq .fld x1.fields))),(11,.v (vI o1.x)),(12,.v (vI z25)),(13,.v (vP 3)),(14,.v (vP 4)),(15,.v (vI q2.m)),(16,.v (vI z6))] [.cells (By o4.c1),.cells (Cd p),.lst .ev (q2.out++[z4]),.cells (Dd x2),.cells [zi 2,zi q2.e.field,.int .u64 o4.x,zi q2.e.len,.str q2.e.text,zi q2.e.code,zi q2.e.at_]])))) ((wI (z25+1))∧z28.Nxt q1 [(0,.v (vP 0)),(3,.v (vI deep)),(5,.v (vP 1)),(9,.v (vO 2)),(10,.v (.c (.seq .fld x1.fields))),(11,.v (vI o1.x)),(12,.v (vI (z25+1)))] [.cells (By q2.c),.cells (Cd p),.lst .ev q2.out])))) (z20.Has [(0,.v (vP 0)),(3,.v (vI deep)),(5,.v (vP 1)),(9,.v (vO 2)),(10,.v (.c (.seq .fld x1.fields))),(11,.v (vI o1.x)),(12,.v (vI z25)),(13,.v (vP 3)),(14,.v (vP 4)),(15,.v (vI 1)),(16,.v (vI 0))] [.cells (By o2.c1),.cells (Cd p),.lst .ev q1.out,.cells (Dd x2),.cells [zi 0,zi x2.number,.int .u64 0,zi 0,.str [],zi 0,zi 0]]∧∀q2,z20.inv q2→(let z12:=((q2.k:Nat):Int)+1;Bc (decide (((q2.k:Nat):Int)<q2.m)) (In (Bu q2.c) fun o3=>(let z9:=(⟨2,q2.e.field,o3.x % 4294967296,q2.e.len,q2.e.text,q2.e.code,q2.e.at_⟩:Ev);let z10:=(⟨2,q2.e.field,o3.x,q2.e.len,q2.e.text,q2.e.code,q2.e.at_⟩:Ev);(C0 q2.c o3)∧Bc (decide (x2.kind=3)) (In (Aa o3.c1 2) fun o4=>(let z7:=(⟨2,q2.e.field,o4.x % 4294967296,q2.e.len,q2.e.text,q2.e.code,q2.e.at_⟩:Ev);let z8:=(⟨2,q2.e.field,o4.x,q2.e.len,q2.e.text,q2.e.code,q2.e.at_⟩:Ev);(Ae o3.c1 2 o4)∧(wU (o4.x))∧Bc z23 (z31∧((.v (.c (.int .u64 (Int.tmod o4.x 4294967296))):S)= .v (.c (.int .u64 (o4.x % 4294967296))))∧(List.length q2.out+List.length [z7]≤Ba)∧(wI z12)∧z20.Nxt q2 [(0,.v (vP 0)),(3,.v (vI deep)),(5,.v (vP 1)),(9,.v (vO 2)),(10,.v (.c (.seq .fld x1.fields))),(11,.v (vI o1.x)),(12,.v (vI z25)),(13,.v (vP 3)),(14,.v (vP 4)),(15,.v (vI q2.m)),(16,.v (vI z12))] [.cells (By o4.c1),.cells (Cd p),.lst .ev (q2.out++[z7]),.cells (Dd x2),.cells [zi 2,zi q2.e.field,.int .u64 (o4.x % 4294967296),zi q2.e.len,.str q2.e.text,zi q2.e.code,zi q2.e.at_]]) ((List.length q2.out+List.length [z8]≤Ba)∧(wI z12)∧z20.Nxt q2 [(0,.v (vP 0)),(3,.v (vI deep)),(5,.v (vP 1)),(9,.v (vO 2)),(10,.v (.c (.seq .fld x1.fields))),(11,.v (vI o1.x)),(12,.v (vI z25)),(13,.v (vP 3)),(14,.v (vP 4)),(15,.v (vI q2.m)),(16,.v (vI z12))] [.cells (By o4.c1),.cells (Cd p),.lst .ev (q2.out++[z8]),.cells (Dd x2),.cells [zi 2,zi q2.e.field,.int .u64 o4.x,zi q2.e.len,.str q2.e.text,zi q2.e.code,zi q2.e.at_]]))) (Bc z23 (z31∧((.v (.c (.int .u64 (Int.tmod o3.x 4294967296))):S)= .v (.c (.int .u64 (o3.x % 4294967296))))∧(List.length q2.out+List.length [z9]≤Ba)∧(wI z12)∧z20.Nxt q2 [(0,.v (vP 0)),(3,.v (vI deep)),(5,.v (vP 1)),(9,.v (vO 2)),(10,.v (.c (.seq .fld x1.fields))),(11,.v (vI o1.x)),(12,.v (vI z25)),(13,.v (vP 3)),(14,.v (vP 4)),(15,.v (vI q2.m)),(16,.v (vI z12))] [.cells (By o3.c1),.cells (Cd p),.lst .ev (q2.out++[z9]),.cells (Dd x2),.cells [zi 2,zi q2.e.field,.int .u64 (o3.x % 4294967296),zi q2.e.len,.str q2.e.text,zi q2.e.code,zi q2.e.at_]]) ((List.length q2.out+List.length [z10]≤Ba)∧(wI z12)∧z20.Nxt q2 [(0,.v (vP 0)),(3,.v (vI deep)),(5,.v (vP 1)),(9,.v (vO 2)),(10,.v (.c (.seq .fld x1.fields))),(11,.v (vI o1.x)),(12,.v (vI z25)),(13,.v (vP 3)),(14,.v (vP 4)),(15,.v (vI q2.m)),(16,.v (vI z12))] [.cells (By o3.c1),.cells (Cd p),.lst .ev (q2.out++[z10]),.cells (Dd x2),.cells [zi 2,zi q2.e.field,.int .u64 o3.x,zi q2.e.len,.str q2.e.text,zi q2.e.code,zi q2.e.at_]])))) ((wI (z25+1))∧z28.Nxt q1 [(0,.v (vP 0)),(3,.v (vI deep)),(5,.v (vP 1)),(9,.v (vO 2)),(10,.v (.c (.seq .fld x1.fields))),(11,.v (vI o1.x)),(12,.v (vI (z25+1)))] [.cells (By q2.c),.cells (Cd p),.lst .ev q2.out])))) (Bc (decide (x2.kind=8)) (Bc (decide (deep≤0)) ((wI (z25+1))∧z28.Nxt q1 [(0,.v (vP 0)),(3,.v (vI deep)),(5,.v (vP 1)),(9,.v (vO 2)),(10,.v (.c (.seq .fld x1.fields))),(11,.v (vI o1.x)),(12,.v (vI (z25+1)))] [.cells (By o2.c1),.cells (Cd p),.lst .ev q1.out]) (In (Auk o2.c1 p x2.msg z32) fun o3=>(let z13:=(q1.out++[z22])++o3.l;(wI z32)∧(wI z32)∧(List.length q1.out+List.length [z22]≤Ba)∧(Auy o2.c1 p x2.msg z32 o3)∧(List.length (q1.out++[z22])+List.length o3.l≤Ba)∧(List.length z13+List.length [(⟨7,0,0,0,[],0,0⟩:Ev)]≤Ba)∧(wI (z25+1))∧z28.Nxt q1 [(0,.v (vP 0)),(3,.v (vI deep)),(5,.v (vP 1)),(9,.v (vO 2)),(10,.v (.c (.seq .fld x1.fields))),(11,.v (vI o1.x)),(12,.v (vI (z25+1)))] [.cells (By o3.c1),.cells (Cd p),.lst .ev (z13++[(⟨7,0,0,0,[],0,0⟩:Ev)])]))) (In (Aa o2.c1 4) fun o3=>((Ae o2.c1 4 o3)∧In (Ge o3.c1 o3.x) fun o4=>((Nm o3.c1 o3.x o4)∧Bc (decide (x2.kind=7)) (In (Aa o4.c1 7) fun o5=>((Ae o4.c1 7 o5)∧In (A4 o5.c1 o5.x) fun o6=>((B6 o5.c1 o5.x o6)∧(List.length q1.out+List.length [z21]≤Ba)∧z27.Has [(0,.v (vP 0)),(3,.v (vI deep)),(5,.v (vP 1)),(9,.v (vO 2)),(10,.v (.c (.seq .fld x1.fields))),(11,.v (vI o1.x)),(12,.v (vI z25)),(17,.v (vT (List.map A5 o6.l)))] [.cells (By o6.c1),.cells (Cd p),.lst .ev (q1.out++[z21])]∧∀q2,z27.inv q2→(let z16:=((List.length q2.s:Nat):Int);Bc (!decide (q2.s=[])) (In (Aa q2.c z16) fun o7=>(let z14:=(⟨4,0,0,0,List.take (Int.toNat (1+o7.x)) q2.s,0,0⟩:Ev);let z15:=1+o7.x≤z16;(Ae q2.c z16 o7)∧(wI (1+o7.x))∧z15∧((0:Int)≤1+o7.x)∧(List.length q2.out+List.length [z14]≤Ba)∧z15∧((0:Int)≤1+o7.x)∧z27.Nxt q2 [(0,.v (vP 0)),(3,.v (vI deep)),(5,.v (vP 1)),(9,.v (vO 2)),(10,.v (.c (.seq .fld x1.fields))),(11,.v (vI o1.x)),(12,.v (vI z25)),(17,.v (vT (List.drop (Int.toNat (1+o7.x)) q2.s)))] [.cells (By o7.c1),.cells (Cd p),.lst .ev (q2.out++[z14])])) ((List.length q2.out+List.length [z30]≤Ba)∧(wI (z25+1))∧z28.Nxt q1 [(0,.v (vP 0)),(3,.v (vI deep)),(5,.v (vP 1)),(9,.v (vO 2)),(10,.v (.c (.seq .fld x1.fields))),(11,.v (vI o1.x)),(12,.v (vI (z25+1)))] [.cells (By q2.c),.cells (Cd p),.lst .ev (q2.out++[z30])]))))) ((List.length q1.out+List.length [z21]≤Ba)∧z27.Has [(0,.v (vP 0)),(3,.v (vI deep)),(5,.v (vP 1)),(9,.v (vO 2)),(10,.v (.c (.seq .fld x1.fields))),(11,.v (vI o1.x)),(12,.v (vI z25)),(17,.v (vT o4.t))] [.cells (By o4.c1),.cells (Cd p),.lst .ev (q1.out++[z21])]∧∀q2,z27.inv q2→(let z19:=((List.length q2.s:Nat):Int);Bc (!decide (q2.s=[])) (In (Aa q2.c z19) fun o5=>(let z17:=(⟨4,0,0,0,List.take (Int.toNat (1+o5.x)) q2.s,0,0⟩:Ev);let z18:=1+o5.x≤z19;(Ae q2.c z19 o5)∧(wI (1+o5.x))∧z18∧((0:Int)≤1+o5.x)∧(List.length q2.out+List.length [z17]≤Ba)∧z18∧((0:Int)≤1+o5.x)∧z27.Nxt q2 [(0,.v (vP 0)),(3,.v (vI deep)),(5,.v (vP 1)),(9,.v (vO 2)),(10,.v (.c (.seq .fld x1.fields))),(11,.v (vI o1.x)),(12,.v (vI z25)),(17,.v (vT (List.drop (Int.toNat (1+o5.x)) q2.s)))] [.cells (By o5.c1),.cells (Cd p),.lst .ev (q2.out++[z17])])) ((List.length q2.out+List.length [z30]≤Ba)∧(wI (z25+1))∧z28.Nxt q1 [(0,.v (vP 0)),(3,.v (vI deep)),(5,.v (vP 1)),(9,.v (vO 2)),(10,.v (.c (.seq .fld x1.fields))),(11,.v (vI o1.x)),(12,.v (vI (z25+1)))] [.cells (By q2.c),.cells (Cd p),.lst .ev (q2.out++[z30])])))))))))) z26) z26))))) Q8 ?_
 refine⟨(A8 (l:=p.shapes) (i:=Int.toNat shape) Q5),fun x1 hx1=>?_⟩
 have hsg:=(hp2.flds _ (List.mem_of_getElem? hx1)).2
 have hsl:=(hp2.flds _ (List.mem_of_getElem? hx1)).1
 refine⟨hx1,Q5,(Ak c 5 Q0),fun o1 ho_o1=>?_⟩
 obtain ⟨⟨hp_o1_0,hp_o1_1,hp_o1_2,hp_o1_3⟩,hf_o1⟩:=ho_o1
 refine⟨hf_o1,Bv (j:=(⟨o1.c1,([]:List Ev),0⟩:F4)) Q12 rfl (by dsimp only[Rt];exact⟨by assumption,by omega,by simp,by simp[D2],AllB.nil⟩),fun (q1:F4) hq_q1=>?_⟩
 have hi_q1:An q1.c∧q1.i≤4∧List.length q1.out≤q1.i*itL (Int.toNat deep)∧D2 q1.out≤q1.i*itT (Int.toNat deep)∧AllB q1.out:=hq_q1
 obtain ⟨v1,v2,v3,v4,v5⟩:=hi_q1
 have hsm:=Nat.succ_mul q1.i (itL (Int.toNat deep))
 have hst:=Nat.succ_mul q1.i (itT (Int.toNat deep))
 have hs4:=Nat.mul_le_mul_right (itL (Int.toNat deep)) v2
 have ht4:=Nat.mul_le_mul_right (itT (Int.toNat deep)) v2
 refine dsp (fun h1 p1=>?_) fun h1 p1=>?_
 refine dsp (fun h2 p2=>?_) fun h2 p2=>?_
 refine⟨(Ak q1.c ((List.length x1.fields:Nat):Int) Q0),fun o2 ho_o2=>?_⟩
 obtain ⟨⟨hp_o2_0,hp_o2_1,hp_o2_2,hp_o2_3⟩,hf_o2⟩:=ho_o2
 refine⟨hf_o2,(A8 (l:=x1.fields) (i:=Int.toNat o2.x) Q5),fun x2 hx2=>?_⟩
 have hfg:=hsg _ (List.mem_of_getElem? hx2)
 refine⟨hx2,Q5,(Gk _),fun h3=>have p3:=Bp h3;?_,fun h3=>have p3:=Bw h3;?_⟩
 refine⟨(Ac5 x2),fun h4=>?_,fun h4=>?_⟩
 refine⟨(Ak o2.c1 3 Q0),fun o3 ho_o3=>?_⟩
 obtain ⟨⟨hp_o3_0,hp_o3_1,hp_o3_2,hp_o3_3⟩,hf_o3⟩:=ho_o3
 refine⟨hf_o3,(Ac Q5 Q5),Bv (j:=(⟨o3.c1,q1.out,(⟨0,x2.number,0,0,[],0,0⟩:Ev),1+o3.x,0⟩:E9)) Q12 Q12 Q97,fun (q2:E9) hq_q2=>?_⟩
 have hi_q2:An q2.c∧q2.m≤3∧q2.k≤3∧List.length q2.out≤List.length q1.out+q2.k∧D2 q2.out≤D2 q1.out∧AllB q2.out∧List.length (q2.e).text=0:=hq_q2
 obtain ⟨w1,w2,w3,w4,w5,w6,w7⟩:=hi_q2
 refine dsp (fun h5 p5=>?_) fun h5 p5=>?_
 refine⟨(Ea q2.c Q0),fun o4 ho_o4=>?_⟩
 obtain ⟨⟨hp_o4_0,hp_o4_1⟩,hf_o4⟩:=ho_o4
 refine⟨hf_o4,dsp (fun h6 p6=>?_) fun h6 p6=>?_⟩
 refine⟨(Ak o4.c1 2 Q0),fun o5 ho_o5=>?_⟩
 obtain ⟨⟨hp_o5_0,hp_o5_1,hp_o5_2,hp_o5_3⟩,hf_o5⟩:=ho_o5
 refine⟨hf_o5,(Bm Q5 Q5),dsp (fun h7 p7=>?_) fun h7 p7=>?_⟩
 exact⟨Q26,(Ki Q5),Q10,(Ac Q5 Q5),Ay (j:=(⟨o5.c1,q2.out++[(⟨2,q2.e.field,o5.x % 4294967296,q2.e.len,q2.e.text,q2.e.code,q2.e.at_⟩:Ev)],(⟨2,q2.e.field,o5.x % 4294967296,q2.e.len,q2.e.text,q2.e.code,q2.e.at_⟩:Ev),q2.m,q2.k+1⟩:E9)) Q12 Q12 Q15 Q75⟩
 exact⟨Q10,(Ac Q5 Q5),Ay (j:=(⟨o5.c1,q2.out++[(⟨2,q2.e.field,o5.x,q2.e.len,q2.e.text,q2.e.code,q2.e.at_⟩:Ev)],(⟨2,q2.e.field,o5.x,q2.e.len,q2.e.text,q2.e.code,q2.e.at_⟩:Ev),q2.m,q2.k+1⟩:E9)) Q12 Q12 Q15 Q75⟩
 refine dsp (fun h7 p7=>?_) fun h7 p7=>?_
 exact⟨Q26,(Ki Q5),Q10,(Ac Q5 Q5),Ay (j:=(⟨o4.c1,q2.out++[(⟨2,q2.e.field,o4.x % 4294967296,q2.e.len,q2.e.text,q2.e.code,q2.e.at_⟩:Ev)],(⟨2,q2.e.field,o4.x % 4294967296,q2.e.len,q2.e.text,q2.e.code,q2.e.at_⟩:Ev),q2.m,q2.k+1⟩:E9)) Q12 Q12 Q15 Q75⟩
 exact⟨Q10,(Ac Q5 Q5),Ay (j:=(⟨o4.c1,q2.out++[(⟨2,q2.e.field,o4.x,q2.e.len,q2.e.text,q2.e.code,q2.e.at_⟩:Ev)],(⟨2,q2.e.field,o4.x,q2.e.len,q2.e.text,q2.e.code,q2.e.at_⟩:Ev),q2.m,q2.k+1⟩:E9)) Q12 Q12 Q15 Q75⟩
 exact⟨(Ac Q5 Q5),Ay (j:=(⟨q2.c,q2.out,q1.i+1⟩:F4)) Q12 rfl Q14 Q88⟩
 refine⟨Bv (j:=(⟨o2.c1,q1.out,(⟨0,x2.number,0,0,[],0,0⟩:Ev),1,0⟩:E9)) Q12 Q12 Q97,fun (q2:E9) hq_q2=>?_⟩
 have hi_q2:An q2.c∧q2.m≤3∧q2.k≤3∧List.length q2.out≤List.length q1.out+q2.k∧D2 q2.out≤D2 q1.out∧AllB q2.out∧List.length (q2.e).text=0:=hq_q2
 obtain ⟨w1,w2,w3,w4,w5,w6,w7⟩:=hi_q2
 refine dsp (fun h5 p5=>?_) fun h5 p5=>?_
 refine⟨(Ea q2.c Q0),fun o3 ho_o3=>?_⟩
 obtain ⟨⟨hp_o3_0,hp_o3_1⟩,hf_o3⟩:=ho_o3
 refine⟨hf_o3,dsp (fun h6 p6=>?_) fun h6 p6=>?_⟩
 refine⟨(Ak o3.c1 2 Q0),fun o4 ho_o4=>?_⟩
 obtain ⟨⟨hp_o4_0,hp_o4_1,hp_o4_2,hp_o4_3⟩,hf_o4⟩:=ho_o4
 refine⟨hf_o4,(Bm Q5 Q5),dsp (fun h7 p7=>?_) fun h7 p7=>?_⟩
 exact⟨Q26,(Ki Q5),Q10,(Ac Q5 Q5),Ay (j:=(⟨o4.c1,q2.out++[(⟨2,q2.e.field,o4.x % 4294967296,q2.e.len,q2.e.text,q2.e.code,q2.e.at_⟩:Ev)],(⟨2,q2.e.field,o4.x % 4294967296,q2.e.len,q2.e.text,q2.e.code,q2.e.at_⟩:Ev),q2.m,q2.k+1⟩:E9)) Q12 Q12 Q15 Q75⟩
 exact⟨Q10,(Ac Q5 Q5),Ay (j:=(⟨o4.c1,q2.out++[(⟨2,q2.e.field,o4.x,q2.e.len,q2.e.text,q2.e.code,q2.e.at_⟩:Ev)],(⟨2,q2.e.field,o4.x,q2.e.len,q2.e.text,q2.e.code,q2.e.at_⟩:Ev),q2.m,q2.k+1⟩:E9)) Q12 Q12 Q15 Q75⟩
 refine dsp (fun h7 p7=>?_) fun h7 p7=>?_
 exact⟨Q26,(Ki Q5),Q10,(Ac Q5 Q5),Ay (j:=(⟨o3.c1,q2.out++[(⟨2,q2.e.field,o3.x % 4294967296,q2.e.len,q2.e.text,q2.e.code,q2.e.at_⟩:Ev)],(⟨2,q2.e.field,o3.x % 4294967296,q2.e.len,q2.e.text,q2.e.code,q2.e.at_⟩:Ev),q2.m,q2.k+1⟩:E9)) Q12 Q12 Q15 Q75⟩
 exact⟨Q10,(Ac Q5 Q5),Ay (j:=(⟨o3.c1,q2.out++[(⟨2,q2.e.field,o3.x,q2.e.len,q2.e.text,q2.e.code,q2.e.at_⟩:Ev)],(⟨2,q2.e.field,o3.x,q2.e.len,q2.e.text,q2.e.code,q2.e.at_⟩:Ev),q2.m,q2.k+1⟩:E9)) Q12 Q12 Q15 Q75⟩
 exact⟨(Ac Q5 Q5),Ay (j:=(⟨q2.c,q2.out,q1.i+1⟩:F4)) Q12 rfl Q14 Q88⟩
 refine dsp (fun h4 p4=>?_) fun h4 p4=>?_
 refine dsp (fun h5 p5=>?_) fun h5 p5=>?_
 exact⟨(Ac Q5 Q5),Ay (j:=(⟨o2.c1,q1.out,q1.i+1⟩:F4)) Q12 rfl Q14 Q88⟩
 have hin:=Arq (d:=deep) (by omega)
 have hig:=Ak5 (Int.toNat (deep-1))
 refine⟨(hE o2.c1 p x2.msg (deep-1) Q0 (by first|assumption|exact PlnG.r Q54) Q5 Q5 Q5),fun o3 ho_o3=>?_⟩
 obtain ⟨⟨hp_o3_0,hp_o3_1,hp_o3_2,hp_o3_3⟩,hf_o3⟩:=ho_o3
 exact⟨(Ac Q5 Q5),(Ac Q5 Q5),Q10,hf_o3,Q10,Q10,(Ac Q5 Q5),Ay (j:=(⟨o3.c1,((q1.out++[(⟨6,x2.number,0,0,[],0,0⟩:Ev)])++o3.l)++[(⟨7,0,0,0,[],0,0⟩:Ev)],q1.i+1⟩:F4)) Q12 rfl Q14 Q88⟩
 refine⟨(Ak o2.c1 4 Q0),fun o3 ho_o3=>?_⟩
 obtain ⟨⟨hp_o3_0,hp_o3_1,hp_o3_2,hp_o3_3⟩,hf_o3⟩:=ho_o3
 refine⟨hf_o3,(Xc o3.c1 o3.x Q0 Q5),fun o4 ho_o4=>?_⟩
 obtain ⟨⟨hp_o4_0,hp_o4_1⟩,hf_o4⟩:=ho_o4
 refine⟨hf_o4,dsp (fun h5 p5=>?_) fun h5 p5=>?_⟩
 refine⟨(Ak o4.c1 7 Q0),fun o5 ho_o5=>?_⟩
 obtain ⟨⟨hp_o5_0,hp_o5_1,hp_o5_2,hp_o5_3⟩,hf_o5⟩:=ho_o5
 refine⟨hf_o5,(Cv o5.c1 o5.x Q0 Q5),fun o6 ho_o6=>?_⟩
 obtain ⟨⟨hp_o6_0,hp_o6_1⟩,hf_o6⟩:=ho_o6
 refine⟨hf_o6,Q10,Bv (j:=(⟨o6.c1,q1.out++[(⟨3,x2.number,0,0,[],0,0⟩:Ev)],_⟩:L4)) rfl rfl Q42,fun (q2:L4) hq_q2=>?_⟩
 have hi_q2:An q2.c∧List.length q2.s≤12∧List.length q2.out+List.length q2.s≤List.length q1.out+13∧D2 q2.out+List.length q2.s≤D2 q1.out+12∧AllB q2.out:=hq_q2
 obtain ⟨w1,w2,w3,w4,w5⟩:=hi_q2
 refine⟨fun h6=>have q6:=Ar h6;have p6:=of_decide_eq_false q6;?_,fun h6=>have q6:=Ao h6;have p6:=of_decide_eq_true q6;?_⟩
 have hne:1≤List.length q2.s:=List.length_pos_iff.2 (by simpa using h6)
 refine⟨(Ak q2.c ((List.length q2.s:Nat):Int) Q0),fun o7 ho_o7=>?_⟩
 obtain ⟨⟨hp_o7_0,hp_o7_1,hp_o7_2,hp_o7_3⟩,hf_o7⟩:=ho_o7
 exact⟨hf_o7,(Ac Q5 Q5),Q10,Q5,Q10,Q10,Q5,Ay (j:=(⟨o7.c1,q2.out++[(⟨4,0,0,0,List.take (Int.toNat (1+o7.x)) q2.s,0,0⟩:Ev)],_⟩:L4)) rfl rfl Q39 (by dsimp only[L5];rw[List.length_drop];omega)⟩
 exact⟨Q10,(Ac Q5 Q5),Ay (j:=(⟨q2.c,q2.out++[(⟨5,0,0,0,[],0,0⟩:Ev)],q1.i+1⟩:F4)) Q12 rfl Q14 Q88⟩
 refine⟨Q10,Bv (j:=(⟨o4.c1,q1.out++[(⟨3,x2.number,0,0,[],0,0⟩:Ev)],o4.t⟩:L4)) rfl rfl Q42,fun (q2:L4) hq_q2=>?_⟩
 have hi_q2:An q2.c∧List.length q2.s≤12∧List.length q2.out+List.length q2.s≤List.length q1.out+13∧D2 q2.out+List.length q2.s≤D2 q1.out+12∧AllB q2.out:=hq_q2
 obtain ⟨w1,w2,w3,w4,w5⟩:=hi_q2
 refine⟨fun h6=>have q6:=Ar h6;have p6:=of_decide_eq_false q6;?_,fun h6=>have q6:=Ao h6;have p6:=of_decide_eq_true q6;?_⟩
 have hne:1≤List.length q2.s:=List.length_pos_iff.2 (by simpa using h6)
 refine⟨(Ak q2.c ((List.length q2.s:Nat):Int) Q0),fun o5 ho_o5=>?_⟩
 obtain ⟨⟨hp_o5_0,hp_o5_1,hp_o5_2,hp_o5_3⟩,hf_o5⟩:=ho_o5
 exact⟨hf_o5,(Ac Q5 Q5),Q10,Q5,Q10,Q10,Q5,Ay (j:=(⟨o5.c1,q2.out++[(⟨4,0,0,0,List.take (Int.toNat (1+o5.x)) q2.s,0,0⟩:Ev)],_⟩:L4)) rfl rfl Q39 (by dsimp only[L5];rw[List.length_drop];omega)⟩
 exact⟨Q10,(Ac Q5 Q5),Ay (j:=(⟨q2.c,q2.out++[(⟨5,0,0,0,[],0,0⟩:Ev)],q1.i+1⟩:F4)) Q12 rfl Q14 Q88⟩
 exact⟨⟨Q10,Q10,Q31,Q0⟩,rfl,rfl⟩
 exact⟨⟨Q10,Q10,Q31,Q0⟩,rfl,rfl⟩
theorem Au4: ∀K,Auz K:=by
 intro K
 induction K with
 |zero=>intro c p shape deep hp1 hp2 hp3 hp4 hp5;omega
 |succ K ih=>
  intro c p shape deep hp1 hp2 hp3 hp4 hp5
  obtain ⟨o,h⟩:=Ath K ih c p shape deep hp1 hp2 hp3 hp4 (by omega)
  exact⟨⟨o.l,o.c1⟩,h⟩
structure Ts where
 l:List Ev
 c1:Cur
def Yz (c:Cur) (p:Pln) (shape:Int) (deep:Int) (o:Ts):Prop:=Fun Tryz.prog 220 [vP 0,.agg (Cd p),vI shape,vI deep] [.cells (By c)] (.v (vO 1)) [.cells (By o.c1),.lst .ev o.l]
def Tt (c:Cur) (p:Pln) (shape:Int) (deep:Int) (o:Ts):Prop:=((List.length o.l≤4*itL (Int.toNat deep))∧(D2 o.l≤4*itT (Int.toNat deep))∧(AllB o.l)∧(An o.c1))∧Yz c p shape deep o
theorem Ak7 (c:Cur) (p:Pln) (shape:Int) (deep:Int) (hp1:An c) (hp2:Asf p) (hp3:(0:Int)≤deep∧deep≤7) (hp4:(0:Int)≤shape∧shape<((List.length (p).shapes:Nat):Int)) (hp5:(0:Int)≤deep): ∃o:Ts,Tt c p shape deep o:=by
 obtain ⟨o,h⟩:=Au4 (Int.toNat deep+1) c p shape deep hp1 hp2 hp3 hp4 (by omega)
 exact⟨⟨o.l,o.c1⟩,h⟩
structure Mw where
 l:List Ev
 c1:Cur
def Ru (c:Cur) (p:Pln) (o:Mw):Prop:=Fun Tryz.prog 160 [vP 0,.agg (Cd p)] [.cells (By c)] (.v (vO 1)) [.cells (By o.c1),.lst .ev o.l]
def Kf (c:Cur) (p:Pln) (o:Mw):Prop:=((List.length o.l≤4*itL (Int.toNat ((p).deep-1))+2)∧(D2 o.l≤4*itT (Int.toNat ((p).deep-1)))∧(AllB o.l)∧(An o.c1))∧Ru c p o
theorem Aa3 (c:Cur) (p:Pln) (hp1:An c) (hp2:Asf p): ∃o:Mw,Kf c p o:=by
 have hN:Ba=274877906944:=rfl
 have hpd:=hp2.deep
 have him:=Afc (d:=p.deep-1) (by omega) (by omega)
 refine Bz Tryz.func160 Q8 Q8 (w:=let z2:=(⟨1,0,0,0,[],0,0⟩:Ev);let z3:=(⟨8,0,0,0,[],0,0⟩:Ev);let z4:=p.deep-1;(.seg [.ty .ev,.as 15 (.v (vI z4))] (.intro (Tt c p p.root z4) fun o1=> .seg [.call [0] (.v (vO 1)) [.cells (By o1.c1),.lst .ev o1.l],.ty .ev,.ty .ev,.ty .ev] (.leaf (⟨([z2]++o1.l)++[z3],o1.c1⟩:Mw) [0,6])),(wI z4)∧In (Tt c p p.root z4) fun o1=>(let z1:=([z2]++o1.l)++[z3];(Yz c p p.root z4 o1)∧(List.length [z2]+List.length o1.l≤Ba)∧(List.length ([z2]++o1.l)+List.length [z3]≤Ba)∧((List.length z1≤4*itL (Int.toNat ((p).deep-1))+2)∧(D2 z1≤4*itT (Int.toNat ((p).deep-1)))∧(AllB z1)∧(An o1.c1))∧Lf (.v (vO 1)) (.v (vO 1)) [.cells (By o1.c1),.lst .ev z1] [.cells (By o1.c1),.lst .ev z1]))) Q8 ?_
 refine⟨(Ac Q5 Q5),(Ak7 c p p.root (p.deep-1) Q0 (by first|assumption|exact PlnG.r Q54) Q5 (hp2.root) Q5),fun o1 ho_o1=>?_⟩
 obtain ⟨⟨hp_o1_0,hp_o1_1,hp_o1_2,hp_o1_3⟩,hf_o1⟩:=ho_o1
 exact⟨hf_o1,Q10,Q10,⟨Q10,Q10,Q31,Q0⟩,rfl,rfl⟩
structure Mx where
 l:List Ev
 c1:Cur
def Wo (c:Cur) (p:Pln) (o:Mx):Prop:=Fun Tryz.prog 219 [vP 0,.agg (Cd p)] [.cells (By c)] (.v (vO 1)) [.cells (By o.c1),.lst .ev o.l]
def Rv (c:Cur) (p:Pln) (o:Mx):Prop:=((List.length o.l≤12006)∧(D2 o.l≤12000)∧(AllB o.l)∧(An o.c1))∧Wo c p o
structure Kx where
 c:Cur
 out:List Ev
 i:Nat
def Hs (p:Pln) (o1:Ct):Fam:=⟨Kx,fun q1=>[(0,.v (vP 0)),(3,.v (vP 1)),(5,.v (vO 2)),(6,.v (vI o1.x)),(7,.v (vI ((q1.i:Nat):Int)))],fun q1=>[.cells (By q1.c),.cells (Cd p),.lst .ev q1.out],fun q1=>An q1.c∧q1.i≤3∧List.length q1.out≤4002*q1.i∧D2 q1.out≤4000*q1.i∧AllB q1.out,fun q1=>4-q1.i⟩
theorem Aii (c:Cur) (p:Pln) (hp1:An c) (hp2:PlnG p): ∃o:Mx,Rv c p o:=by
 have hN:Ba=274877906944:=rfl
 have hpd:=hp2.deep
 have him:=Atg (d:=p.deep-1) (by omega) (by omega)
 refine Bz Tryz.func219 Q8 Q8 (w:=(.seg [.ty .ev] (.intro (Aa c 4) fun o1=> .seg [.call [0] (.v (vI o1.x)) (Kc o1.c1),.at 0,.keep [0,3,5,6,7],.sel [0,1,2]] (.loop (Hs p o1) fun q1=> .br (.intro (Kf q1.c p) fun o2=> .seg [.call [0] (.v (vO 1)) [.cells (By o2.c1),.lst .ev o2.l],.ty .ev,.as 15 (.v (vI (((q1.i:Nat):Int)+1))),.at 0,.keep [0,3,5,6,7],.sel [0,1,4]] (.next)) (.leaf (⟨q1.out,q1.c⟩:Mx) [0,2]))),In (Aa c 4) fun o1=>(let z2:=Hs p o1;(Ae c 4 o1)∧z2.Has [(0,.v (vP 0)),(3,.v (vP 1)),(5,.v (vO 2)),(6,.v (vI o1.x)),(7,.v (vI 0))] [.cells (By o1.c1),.cells (Cd p),.lst .ev ([]:List Ev)]∧∀q1,z2.inv q1→(let z1:=((q1.i:Nat):Int);Bc (decide (z1<o1.x)) (In (Kf q1.c p) fun o2=>((Ru q1.c p o2)∧(List.length q1.out+List.length o2.l≤Ba)∧(wI (z1+1))∧z2.Nxt q1 [(0,.v (vP 0)),(3,.v (vP 1)),(5,.v (vO 2)),(6,.v (vI o1.x)),(7,.v (vI (z1+1)))] [.cells (By o2.c1),.cells (Cd p),.lst .ev (q1.out++o2.l)])) (((List.length q1.out≤12006)∧(D2 q1.out≤12000)∧(AllB q1.out)∧(An q1.c))∧Lf (.v (vO 1)) (.v (vO 1)) [.cells (By q1.c),.lst .ev q1.out] [.cells (By q1.c),.lst .ev q1.out]))))) Q8 ?_
 refine⟨(Ak c 4 Q0),fun o1 ho_o1=>?_⟩
 obtain ⟨⟨hp_o1_0,hp_o1_1,hp_o1_2,hp_o1_3⟩,hf_o1⟩:=ho_o1
 refine⟨hf_o1,Bv (j:=(⟨o1.c1,([]:List Ev),0⟩:Kx)) Q12 rfl (by dsimp only[Hs];exact⟨by assumption,by omega,by simp,by simp[D2],AllB.nil⟩),fun (q1:Kx) hq_q1=>?_⟩
 have hi_q1:An q1.c∧q1.i≤3∧List.length q1.out≤4002*q1.i∧D2 q1.out≤4000*q1.i∧AllB q1.out:=hq_q1
 obtain ⟨v1,v2,v3,v4,v5⟩:=hi_q1
 refine dsp (fun h1 p1=>?_) fun h1 p1=>?_
 refine⟨(Aa3 q1.c p Q0 (by first|assumption|exact PlnG.r Q54)),fun o2 ho_o2=>?_⟩
 obtain ⟨⟨hp_o2_0,hp_o2_1,hp_o2_2,hp_o2_3⟩,hf_o2⟩:=ho_o2
 exact⟨hf_o2,Q10,(Ac Q5 Q5),Ay (j:=(⟨o2.c1,q1.out++o2.l,q1.i+1⟩:Kx)) Q12 rfl (by dsimp only[Hs];exact⟨by assumption,by omega,by (try simp only[List.length_append,List.length_cons,List.length_nil,Dq,E4,E5,List.length_take,List.length_drop]);omega,by (try simp only[List.length_append,List.length_cons,List.length_nil,Dq,E4,E5,List.length_take,List.length_drop]);omega,AllB.app v5 Q54⟩) (by dsimp only[Hs];omega)⟩
 exact⟨⟨Q10,Q10,Q31,Q0⟩,rfl,rfl⟩
structure Dr where
 l:List Ev
 c1:Cur
def Uv (c:Cur) (list:List Ev) (o:Dr):Prop:=Fun Tryz.prog 159 [vP 0,.c (.seq .ev list)] [.cells (By c)] (.v (vO 1)) [.cells (By o.c1),.lst .ev o.l]
def P1 (c:Cur) (list:List Ev) (o:Dr):Prop:=((List.length o.l≤List.length list+1)∧(D2 o.l≤D2 list+4)∧(AllB o.l)∧(An o.c1))∧Uv c list o
structure Jq where
 c:Cur
 out:List Ev
 i:Nat
def Jr (list:List Ev):Fam:=⟨Jq,fun q1=>[(0,.v (vP 0)),(6,.v (vO 1)),(8,.v (vI ((q1.i:Nat):Int)))],fun q1=>[.cells (By q1.c),.lst .ev q1.out],fun q1=>An q1.c∧q1.i≤List.length list∧List.length q1.out=List.length list∧D2 q1.out≤D2 list∧AllB q1.out,fun q1=>List.length list+1-q1.i⟩
theorem Afd (c:Cur) (list:List Ev) (hp1:An c) (hp2:List.length list≤1000000) (hp3:AllB list): ∃o:Dr,P1 c list o:=by
 have hN:Ba=274877906944:=rfl
 refine Bz Tryz.func159 Q8 Q8 (w:=let z28:=((List.length list:Nat):Int);let z29:=([]:List Ev);let z27:=z29++list;let z30:S:= .v (vO 1);let z31:=Jr list;(.seg [.as 12 (.v (vI (z28+1)))] (.intro (Aa c (z28+1)) fun o1=>let z19:=Int.toNat o1.x;.seg [.call [0] (.v (vI o1.x)) (Kc o1.c1),.ty .ev,.ty .ev] (.intro (Aa o1.c1 8) fun o2=> .seg [.call [0] (.v (vI o2.x)) (Kc o2.c1)] (.br (.seg [.at 0,.cutS 4] (.leaf (⟨List.take (z19-0) z27,o2.c1⟩:Dr) [0,3])) (.br (.intro (Fg o2.c1) fun o3=> .seg [.ord [(1,true),(2,true),(3,true),(5,true),(9,true),(10,true),(11,true),(0,false),(4,false),(6,false),(7,false),(8,false),(12,false),(13,true)] [0],.ty .ev,.ty .ev,.call [0] (.v (.agg (cEv o3.e))) (Kc o3.c1),.ty .ev,.ty .ev,.ty .ev] (.leaf (⟨((z29++(List.take z19 list))++[o3.e])++(List.drop z19 list),o3.c1⟩:Dr) [0,7])) (.br (.br (.seg [.ord [(1,true),(2,true),(3,true),(5,true),(6,true),(7,true),(8,true),(0,false),(4,false),(9,false),(10,true)] [],.as 52 (.v (vI (o1.x+1))),.ty .ev,.ty .ev,.ty .ev] (.leaf (⟨(z29++(List.take z19 list))++(List.drop (Int.toNat (o1.x+1)) list),o2.c1⟩:Dr) [0,5])) (.leaf (⟨z29++list,o2.c1⟩:Dr) [0,2])) (.br (.br (.intro (Fg o2.c1) fun o3=> .seg [.call [0] (.v (.agg (cEv o3.e))) (Kc o3.c1)] (.intro (Sx (z27[Int.toNat o1.x]?)) fun x1=>let z3:=(⟨x1.kind,o3.e.field,o3.e.bits,x1.len,o3.e.text,x1.code,x1.at_⟩:Ev);let z4:=(⟨x1.kind,o3.e.field,o3.e.bits,x1.len,x1.text,x1.code,x1.at_⟩:Ev);.seg [.el .ev x1,.el .ev (⟨x1.kind,o3.e.field,x1.bits,x1.len,x1.text,x1.code,x1.at_⟩:Ev),.asB 2 (.lst .ev (List.set z27 z19 z4)),.el .ev z4,.asB 2 (.lst .ev (List.set z27 z19 z3))] (.leaf (⟨List.set z27 z19 z3,o3.c1⟩:Dr) [0,2]))) (.leaf (⟨z29++list,o2.c1⟩:Dr) [0,2])) (.br (.seg [.at 0,.keep [0,6,8],.sel [0,2]] (.loop z31 fun q1=> .br (.intro (Aa q1.c 9) fun o3=> .seg [.call [0] (.v (vI o3.x)) (Kc o3.c1),.as 93 (.v (vI (o3.x-2)))] (.intro (Sx (q1.out[q1.i]?)) fun x1=> .seg [.el .ev x1] (.intro (Aa o3.c1 3) fun o4=> .seg [.call [0] (.v (vI o4.x)) (Kc o4.c1),.el .ev (⟨x1.kind,x1.field,x1.bits,o3.x-2,x1.text,x1.code,x1.at_⟩:Ev),.asB 1 (.lst .ev (List.set q1.out q1.i (⟨x1.kind,x1.field,x1.bits,o3.x-2,x1.text,x1.code,o4.x⟩:Ev))),.as 88 (.v (vI (((q1.i:Nat):Int)+1))),.at 0,.keep [0,6,8],.sel [0,1]] (.next)))) (.leaf (⟨q1.out,q1.c⟩:Dr) [0,1]))) (.leaf (⟨z29++list,o2.c1⟩:Dr) [0,2])))))))),(wI (z28+1))∧In (Aa c (z28+1)) fun o1=>(let z21:=o1.x≤z28;let z22:=Int.toNat o1.x;let z20:=z29++(List.take z22 list);let z23:=List.drop (Int.toNat (o1.x+1)) list;let z24:=(0:Int)≤o1.x;let z25:=o1.x<((List.length z27:Nat):Int);let z26:=o1.x+1≤z28;(Ae c (z28+1) o1)∧(List.length z29+List.length list≤Ba)∧In (Aa o1.c1 8) fun o2=>(let z16:List Blk:=[.cells (By o2.c1),.lst .ev (z20++z23)];let z17:List Blk:=[.cells (By o2.c1),.lst .ev z27];let z15:=((List.length z27≤List.length list+1)∧(D2 z27≤D2 list+4)∧(AllB z27)∧(An o2.c1))∧Lf z30 z30 z17 z17;let z18:List Blk:=[.cells (By o2.c1),.lst .ev (List.take (z22-0) z27)];(Ae o1.c1 8 o2)∧Bc (decide (o2.x=0)) ((o1.x≤((List.length z27:Nat):Int))∧z24∧((List.length (List.take (z22-0) z27)≤List.length list+1)∧(D2 (List.take (z22-0) z27)≤D2 list+4)∧(AllB (List.take (z22-0) z27))∧(An o2.c1))∧Lf z30 z30 z18 z18) (Bc (decide (o2.x=1)) (In (Fg o2.c1) fun o3=>(let z2:=z20++[o3.e];let z1:=z2++(List.drop z22 list);z21∧z24∧z21∧z24∧z21∧z24∧z21∧z24∧(List.length z29+List.length (List.take z22 list)≤Ba)∧(L3 o2.c1 o3)∧(List.length z20+List.length [o3.e]≤Ba)∧(List.length z2+List.length (List.drop z22 list)≤Ba)∧((List.length z1≤List.length list+1)∧(D2 z1≤D2 list+4)∧(AllB z1)∧(An o3.c1))∧Lf z30 z30 [.cells (By o3.c1),.lst .ev z1] [.cells (By o3.c1),.lst .ev z1])) (Bc (decide (o2.x=2)) (Bc (decide z25) (z21∧z24∧z21∧z24∧(wI (o1.x+1))∧(wI (o1.x+1))∧z26∧((0:Int)≤o1.x+1)∧z26∧((0:Int)≤o1.x+1)∧(List.length z29+List.length (List.take z22 list)≤Ba)∧(List.length z20+List.length z23≤Ba)∧((List.length (z20++z23)≤List.length list+1)∧(D2 (z20++z23)≤D2 list+4)∧(AllB (z20++z23))∧(An o2.c1))∧Lf z30 z30 z16 z16) z15) (Bc (decide (o2.x=3)) (Bc (decide z25) (In (Fg o2.c1) fun o3=>((L3 o2.c1 o3)∧El (z27[Int.toNat o1.x]?) fun x1=>(let z8:=(⟨x1.kind,o3.e.field,o3.e.bits,x1.len,x1.text,x1.code,x1.at_⟩:Ev);let z6:=List.set z27 z22 z8;let z9:=(⟨x1.kind,o3.e.field,o3.e.bits,x1.len,o3.e.text,x1.code,x1.at_⟩:Ev);let z5:=List.set z27 z22 z9;let z10:=(⟨x1.kind,o3.e.field,x1.bits,x1.len,x1.text,x1.code,x1.at_⟩:Ev);let z7:=List.set z27 z22 z10;z25∧z24∧(z27[Int.toNat o1.x]? =some x1)∧(o1.x<((List.length z7:Nat):Int))∧z24∧(z7[Int.toNat o1.x]? =some z10)∧(some (.lst .ev (List.set z7 z22 z8):Blk)=some (.lst .ev z6))∧(o1.x<((List.length z6:Nat):Int))∧z24∧(z6[Int.toNat o1.x]? =some z8)∧(some (.lst .ev (List.set z6 z22 z9):Blk)=some (.lst .ev z5))∧((List.length z5≤List.length list+1)∧(D2 z5≤D2 list+4)∧(AllB z5)∧(An o3.c1))∧Lf z30 z30 [.cells (By o3.c1),.lst .ev z5] [.cells (By o3.c1),.lst .ev z5]))) z15) (Bc (decide (o2.x=4)) (z31.Has [(0,.v (vP 0)),(6,.v (vO 1)),(8,.v (vI 0))] z17∧∀q1,z31.inv q1→(let z13:=((q1.i:Nat):Int);let z14:=z13<((List.length q1.out:Nat):Int);Bc (decide z14) (In (Aa q1.c 9) fun o3=>((Ae q1.c 9 o3)∧(wI (o3.x-2))∧El (q1.out[q1.i]?) fun x1=>(let z12:=(⟨x1.kind,x1.field,x1.bits,o3.x-2,x1.text,x1.code,x1.at_⟩:Ev);z14∧((0:Int)≤z13)∧(q1.out[q1.i]? =some x1)∧In (Aa o3.c1 3) fun o4=>(let z11:=(⟨x1.kind,x1.field,x1.bits,o3.x-2,x1.text,x1.code,o4.x⟩:Ev);(Ae o3.c1 3 o4)∧(z13<((List.length (List.set q1.out q1.i z12):Nat):Int))∧((0:Int)≤z13)∧((List.set q1.out q1.i z12)[q1.i]? =some z12)∧(some (.lst .ev (List.set (List.set q1.out q1.i z12) q1.i z11):Blk)=some (.lst .ev (List.set q1.out q1.i z11)))∧(wI (z13+1))∧z31.Nxt q1 [(0,.v (vP 0)),(6,.v (vO 1)),(8,.v (vI (z13+1)))] [.cells (By o4.c1),.lst .ev (List.set q1.out q1.i z11)])))) (((List.length q1.out≤List.length list+1)∧(D2 q1.out≤D2 list+4)∧(AllB q1.out)∧(An q1.c))∧Lf z30 z30 [.cells (By q1.c),.lst .ev q1.out] [.cells (By q1.c),.lst .ev q1.out]))) z15)))))))) Q8 ?_
 refine⟨(Ac Q5 Q5),(Ak c (((List.length list:Nat):Int)+1) Q0),fun o1 ho_o1=>?_⟩
 obtain ⟨⟨hp_o1_0,hp_o1_1,hp_o1_2,hp_o1_3⟩,hf_o1⟩:=ho_o1
 refine⟨hf_o1,Q4,(Ak o1.c1 8 Q0),fun o2 ho_o2=>?_⟩
 obtain ⟨⟨hp_o2_0,hp_o2_1,hp_o2_2,hp_o2_3⟩,hf_o2⟩:=ho_o2
 refine⟨hf_o2,dsp (fun h1 p1=>?_) fun h1 p1=>?_⟩
 exact⟨Q4,Q5,⟨Q4,Q7,Q11,Q0⟩,rfl,rfl⟩
 refine dsp (fun h2 p2=>?_) fun h2 p2=>?_
 refine⟨(Ut o2.c1 Q0),fun o3 ho_o3=>?_⟩
 obtain ⟨⟨hp_o3_0,hp_o3_1,hp_o3_2⟩,hf_o3⟩:=ho_o3
 exact⟨Q4,Q5,Q4,Q5,Q4,Q5,Q4,Q5,Q4,hf_o3,Q4,Q4,⟨Q4,Q7,Q11,Q0⟩,rfl,rfl⟩
 refine dsp (fun h3 p3=>?_) fun h3 p3=>?_
 refine dsp (fun h4 p4=>?_) fun h4 p4=>?_
 exact⟨Q4,Q5,Q4,Q5,(Ac Q5 Q5),(Ac Q5 Q5),Q4,Q5,Q4,Q5,Q4,Q4,⟨Q4,Q7,Q11,Q0⟩,rfl,rfl⟩
 exact⟨⟨Q4,Q7,Q11,Q0⟩,rfl,rfl⟩
 refine dsp (fun h4 p4=>?_) fun h4 p4=>?_
 refine dsp (fun h5 p5=>?_) fun h5 p5=>?_
 refine⟨(Ut o2.c1 Q0),fun o3 ho_o3=>?_⟩
 obtain ⟨⟨hp_o3_0,hp_o3_1,hp_o3_2⟩,hf_o3⟩:=ho_o3
 refine⟨hf_o3,(A8 (l:=([]:List Ev)++list) (i:=Int.toNat o1.x) Q4),fun x1 hx1=>?_⟩
 exact⟨Q4,Q5,hx1,Q4,Q5,(M8 Q4),Vb,Q4,Q5,(M8 Q4),Vb,⟨Q4,Q7,Q11,Q0⟩,rfl,rfl⟩
 exact⟨⟨Q4,Q7,Q11,Q0⟩,rfl,rfl⟩
 refine dsp (fun h5 p5=>?_) fun h5 p5=>?_
 refine⟨Bv (j:=(⟨o2.c1,([]:List Ev)++list,0⟩:Jq)) Q12 rfl (by dsimp only[Jr];exact⟨by assumption,by omega,by simp,by simp,by simpa using hp3⟩),fun (q1:Jq) hq_q1=>?_⟩
 have hi_q1:An q1.c∧q1.i≤List.length list∧List.length q1.out=List.length list∧D2 q1.out≤D2 list∧AllB q1.out:=hq_q1
 obtain ⟨v1,v2,v3,v4,v5⟩:=hi_q1
 refine dsp (fun h6 p6=>?_) fun h6 p6=>?_
 refine⟨(Ak q1.c 9 Q0),fun o3 ho_o3=>?_⟩
 obtain ⟨⟨hp_o3_0,hp_o3_1,hp_o3_2,hp_o3_3⟩,hf_o3⟩:=ho_o3
 refine⟨hf_o3,(Ac Q5 Q5),(A8 (l:=q1.out) (i:=q1.i) Q4),fun x1 hx1=>?_⟩
 refine⟨Q4,Q5,hx1,(Ak o3.c1 3 Q0),fun o4 ho_o4=>?_⟩
 obtain ⟨⟨hp_o4_0,hp_o4_1,hp_o4_2,hp_o4_3⟩,hf_o4⟩:=ho_o4
 exact⟨hf_o4,Q4,Q5,(M8 Q4),Vb,(Ac Q5 Q5),Ay (j:=(⟨o4.c1,List.set q1.out q1.i (⟨x1.kind,x1.field,x1.bits,o3.x-2,x1.text,x1.code,o4.x⟩:Ev),q1.i+1⟩:Jq)) Q12 rfl (by dsimp only[Jr];exact⟨by assumption,by omega,by simp;omega,Nat.le_trans (Nat.le_of_eq (Yw hx1 (by rfl))) v4,AllB.set v5 ((v5.at hx1).like rfl rfl)⟩) (by dsimp only[Jr];omega)⟩
 exact⟨⟨Q4,Q7,Q11,Q0⟩,rfl,rfl⟩
 exact⟨⟨Q4,Q7,Q11,Q0⟩,rfl,rfl⟩
structure Ds where
 l:List Ev
 c1:Cur
def Uw (c:Cur) (list:List Ev) (o:Ds):Prop:=Fun Tryz.prog 159 [vP 0,vO 1] [.cells (By c),.lst .ev list] (.v (vO 2)) [.cells (By o.c1),.lst .ev list,.lst .ev o.l]
def P2 (c:Cur) (list:List Ev) (o:Ds):Prop:=((List.length o.l≤List.length list+1)∧(D2 o.l≤D2 list+4)∧(AllB o.l)∧(An o.c1))∧Uw c list o
structure Js where
 c:Cur
 out:List Ev
 i:Nat
def Jt (list:List Ev):Fam:=⟨Js,fun q1=>[(0,.v (vP 0)),(6,.v (vO 2)),(8,.v (vI ((q1.i:Nat):Int)))],fun q1=>[.cells (By q1.c),.lst .ev list,.lst .ev q1.out],fun q1=>An q1.c∧q1.i≤List.length list∧List.length q1.out=List.length list∧D2 q1.out≤D2 list∧AllB q1.out,fun q1=>List.length list+1-q1.i⟩
theorem Afe (c:Cur) (list:List Ev) (hp1:An c) (hp2:List.length list≤1000000) (hp3:AllB list): ∃o:Ds,P2 c list o:=by
 have hN:Ba=274877906944:=rfl
 refine Bz Tryz.func159 Q8 Q8 (w:=let z31:=((List.length list:Nat):Int);let z32:=([]:List Ev);let z30:=z32++list;let z33:S:= .v (vO 2);let z34:=List.length list;let z35:=Jt list;let z36:=List.drop 0 list;(.seg [.as 12 (.v (vI (z31+1)))] (.intro (Aa c (z31+1)) fun o1=>let z21:=Int.toNat o1.x;.seg [.call [0] (.v (vI o1.x)) (Kc o1.c1),.ty .ev,.ty .ev] (.intro (Aa o1.c1 8) fun o2=> .seg [.call [0] (.v (vI o2.x)) (Kc o2.c1)] (.br (.seg [.at 0,.cutS 4] (.leaf (⟨List.take (z21-0) z30,o2.c1⟩:Ds) [0,1,4])) (.br (.intro (Fg o2.c1) fun o3=> .seg [.ord [(1,true),(2,true),(3,true),(5,true),(9,true),(10,true),(11,true),(0,false),(4,false),(6,false),(7,false),(8,false),(12,false),(13,true)] [0],.ty .ev,.ty .ev,.call [0] (.v (.agg (cEv o3.e))) (Kc o3.c1),.ty .ev,.ty .ev,.ty .ev] (.leaf (⟨((z32++(List.take (z21-0) z36))++[o3.e])++(List.take (z34-z21) (List.drop z21 list)),o3.c1⟩:Ds) [0,1,8])) (.br (.br (.seg [.ord [(1,true),(2,true),(3,true),(5,true),(6,true),(7,true),(8,true),(0,false),(4,false),(9,false),(10,true)] [],.as 52 (.v (vI (o1.x+1))),.ty .ev,.ty .ev,.ty .ev] (.leaf (⟨(z32++(List.take (z21-0) z36))++(List.take (z34-(Int.toNat (o1.x+1))) (List.drop (Int.toNat (o1.x+1)) list)),o2.c1⟩:Ds) [0,1,6])) (.leaf (⟨z32++list,o2.c1⟩:Ds) [0,1,3])) (.br (.br (.intro (Fg o2.c1) fun o3=> .seg [.call [0] (.v (.agg (cEv o3.e))) (Kc o3.c1)] (.intro (Sx (z30[Int.toNat o1.x]?)) fun x1=>let z4:=(⟨x1.kind,o3.e.field,o3.e.bits,x1.len,o3.e.text,x1.code,x1.at_⟩:Ev);let z5:=(⟨x1.kind,o3.e.field,o3.e.bits,x1.len,x1.text,x1.code,x1.at_⟩:Ev);.seg [.el .ev x1,.el .ev (⟨x1.kind,o3.e.field,x1.bits,x1.len,x1.text,x1.code,x1.at_⟩:Ev),.asB 3 (.lst .ev (List.set z30 z21 z5)),.el .ev z5,.asB 3 (.lst .ev (List.set z30 z21 z4))] (.leaf (⟨List.set z30 z21 z4,o3.c1⟩:Ds) [0,1,3]))) (.leaf (⟨z32++list,o2.c1⟩:Ds) [0,1,3])) (.br (.seg [.at 0,.keep [0,6,8],.sel [0,1,3]] (.loop z35 fun q1=> .br (.intro (Aa q1.c 9) fun o3=> .seg [.call [0] (.v (vI o3.x)) (Kc o3.c1),.as 93 (.v (vI (o3.x-2)))] (.intro (Sx (q1.out[q1.i]?)) fun x1=> .seg [.el .ev x1] (.intro (Aa o3.c1 3) fun o4=> .seg [.call [0] (.v (vI o4.x)) (Kc o4.c1),.el .ev (⟨x1.kind,x1.field,x1.bits,o3.x-2,x1.text,x1.code,x1.at_⟩:Ev),.asB 2 (.lst .ev (List.set q1.out q1.i (⟨x1.kind,x1.field,x1.bits,o3.x-2,x1.text,x1.code,o4.x⟩:Ev))),.as 88 (.v (vI (((q1.i:Nat):Int)+1))),.at 0,.keep [0,6,8],.sel [0,1,2]] (.next)))) (.leaf (⟨q1.out,q1.c⟩:Ds) [0,1,2]))) (.leaf (⟨z32++list,o2.c1⟩:Ds) [0,1,3])))))))),(wI (z31+1))∧In (Aa c (z31+1)) fun o1=>(let z24:=o1.x≤z31;let z25:=Int.toNat o1.x;let z23:=List.take (z25-0) z36;let z26:=(0:Int)≤o1.x;let z27:=o1.x<((List.length z30:Nat):Int);let z28:=List.take (z34-(Int.toNat (o1.x+1))) (List.drop (Int.toNat (o1.x+1)) list);let z22:=(z32++z23)++z28;let z29:=o1.x+1≤z31;(Ae c (z31+1) o1)∧(List.length z32+List.length list≤Ba)∧In (Aa o1.c1 8) fun o2=>(let z18:List Blk:=[.cells (By o2.c1),.lst .ev list,.lst .ev z22];let z19:List Blk:=[.cells (By o2.c1),.lst .ev list,.lst .ev z30];let z17:=((List.length z30≤List.length list+1)∧(D2 z30≤D2 list+4)∧(AllB z30)∧(An o2.c1))∧Lf z33 z33 z19 z19;let z20:List Blk:=[.cells (By o2.c1),.lst .ev list,.lst .ev (List.take (z25-0) z30)];(Ae o1.c1 8 o2)∧Bc (decide (o2.x=0)) ((o1.x≤((List.length z30:Nat):Int))∧z26∧((List.length (List.take (z25-0) z30)≤List.length list+1)∧(D2 (List.take (z25-0) z30)≤D2 list+4)∧(AllB (List.take (z25-0) z30))∧(An o2.c1))∧Lf z33 z33 z20 z20) (Bc (decide (o2.x=1)) (In (Fg o2.c1) fun o3=>(let z2:=(z32++z23)++[o3.e];let z1:=z2++(List.take (z34-z25) (List.drop z25 list));let z3:List Blk:=[.cells (By o3.c1),.lst .ev list,.lst .ev z1];z24∧z26∧z24∧z26∧z24∧z26∧z24∧z26∧(List.length z32+List.length z23≤Ba)∧(L3 o2.c1 o3)∧(List.length (z32++z23)+List.length [o3.e]≤Ba)∧(List.length z2+List.length (List.take (z34-z25) (List.drop z25 list))≤Ba)∧((List.length z1≤List.length list+1)∧(D2 z1≤D2 list+4)∧(AllB z1)∧(An o3.c1))∧Lf z33 z33 z3 z3)) (Bc (decide (o2.x=2)) (Bc (decide z27) (z24∧z26∧z24∧z26∧(wI (o1.x+1))∧(wI (o1.x+1))∧z29∧((0:Int)≤o1.x+1)∧z29∧((0:Int)≤o1.x+1)∧(List.length z32+List.length z23≤Ba)∧(List.length (z32++z23)+List.length z28≤Ba)∧((List.length z22≤List.length list+1)∧(D2 z22≤D2 list+4)∧(AllB z22)∧(An o2.c1))∧Lf z33 z33 z18 z18) z17) (Bc (decide (o2.x=3)) (Bc (decide z27) (In (Fg o2.c1) fun o3=>((L3 o2.c1 o3)∧El (z30[Int.toNat o1.x]?) fun x1=>(let z9:=(⟨x1.kind,o3.e.field,o3.e.bits,x1.len,x1.text,x1.code,x1.at_⟩:Ev);let z7:=List.set z30 z25 z9;let z10:=(⟨x1.kind,o3.e.field,o3.e.bits,x1.len,o3.e.text,x1.code,x1.at_⟩:Ev);let z6:=List.set z30 z25 z10;let z11:=(⟨x1.kind,o3.e.field,x1.bits,x1.len,x1.text,x1.code,x1.at_⟩:Ev);let z8:=List.set z30 z25 z11;z27∧z26∧(z30[Int.toNat o1.x]? =some x1)∧(o1.x<((List.length z8:Nat):Int))∧z26∧(z8[Int.toNat o1.x]? =some z11)∧(some (.lst .ev (List.set z8 z25 z9):Blk)=some (.lst .ev z7))∧(o1.x<((List.length z7:Nat):Int))∧z26∧(z7[Int.toNat o1.x]? =some z9)∧(some (.lst .ev (List.set z7 z25 z10):Blk)=some (.lst .ev z6))∧((List.length z6≤List.length list+1)∧(D2 z6≤D2 list+4)∧(AllB z6)∧(An o3.c1))∧Lf z33 z33 [.cells (By o3.c1),.lst .ev list,.lst .ev z6] [.cells (By o3.c1),.lst .ev list,.lst .ev z6]))) z17) (Bc (decide (o2.x=4)) (z35.Has [(0,.v (vP 0)),(6,.v (vO 2)),(8,.v (vI 0))] z19∧∀q1,z35.inv q1→(let z14:=((q1.i:Nat):Int);let z15:List Blk:=[.cells (By q1.c),.lst .ev list,.lst .ev q1.out];let z16:=z14<((List.length q1.out:Nat):Int);Bc (decide z16) (In (Aa q1.c 9) fun o3=>((Ae q1.c 9 o3)∧(wI (o3.x-2))∧El (q1.out[q1.i]?) fun x1=>(let z13:=(⟨x1.kind,x1.field,x1.bits,o3.x-2,x1.text,x1.code,x1.at_⟩:Ev);z16∧((0:Int)≤z14)∧(q1.out[q1.i]? =some x1)∧In (Aa o3.c1 3) fun o4=>(let z12:=(⟨x1.kind,x1.field,x1.bits,o3.x-2,x1.text,x1.code,o4.x⟩:Ev);(Ae o3.c1 3 o4)∧(z14<((List.length (List.set q1.out q1.i z13):Nat):Int))∧((0:Int)≤z14)∧((List.set q1.out q1.i z13)[q1.i]? =some z13)∧(some (.lst .ev (List.set (List.set q1.out q1.i z13) q1.i z12):Blk)=some (.lst .ev (List.set q1.out q1.i z12)))∧(wI (z14+1))∧z35.Nxt q1 [(0,.v (vP 0)),(6,.v (vO 2)),(8,.v (vI (z14+1)))] [.cells (By o4.c1),.lst .ev list,.lst .ev (List.set q1.out q1.i z12)])))) (((List.length q1.out≤List.length list+1)∧(D2 q1.out≤D2 list+4)∧(AllB q1.out)∧(An q1.c))∧Lf z33 z33 z15 z15))) z17)))))))) Q8 ?_
 refine⟨(Ac Q5 Q5),(Ak c (((List.length list:Nat):Int)+1) Q0),fun o1 ho_o1=>?_⟩
 obtain ⟨⟨hp_o1_0,hp_o1_1,hp_o1_2,hp_o1_3⟩,hf_o1⟩:=ho_o1
 refine⟨hf_o1,Q4,(Ak o1.c1 8 Q0),fun o2 ho_o2=>?_⟩
 obtain ⟨⟨hp_o2_0,hp_o2_1,hp_o2_2,hp_o2_3⟩,hf_o2⟩:=ho_o2
 refine⟨hf_o2,dsp (fun h1 p1=>?_) fun h1 p1=>?_⟩
 exact⟨Q4,Q5,⟨Q4,Q7,Q11,Q0⟩,rfl,rfl⟩
 refine dsp (fun h2 p2=>?_) fun h2 p2=>?_
 refine⟨(Ut o2.c1 Q0),fun o3 ho_o3=>?_⟩
 obtain ⟨⟨hp_o3_0,hp_o3_1,hp_o3_2⟩,hf_o3⟩:=ho_o3
 exact⟨Q4,Q5,Q4,Q5,Q4,Q5,Q4,Q5,Q4,hf_o3,Q4,Q4,⟨Q4,Q7,Q11,Q0⟩,rfl,rfl⟩
 refine dsp (fun h3 p3=>?_) fun h3 p3=>?_
 refine dsp (fun h4 p4=>?_) fun h4 p4=>?_
 exact⟨Q4,Q5,Q4,Q5,(Ac Q5 Q5),(Ac Q5 Q5),Q4,Q5,Q4,Q5,Q4,Q4,⟨Q4,Q7,Q11,Q0⟩,rfl,rfl⟩
 exact⟨⟨Q4,Q7,Q11,Q0⟩,rfl,rfl⟩
 refine dsp (fun h4 p4=>?_) fun h4 p4=>?_
 refine dsp (fun h5 p5=>?_) fun h5 p5=>?_
 refine⟨(Ut o2.c1 Q0),fun o3 ho_o3=>?_⟩
 obtain ⟨⟨hp_o3_0,hp_o3_1,hp_o3_2⟩,hf_o3⟩:=ho_o3
 refine⟨hf_o3,(A8 (l:=([]:List Ev)++list) (i:=Int.toNat o1.x) Q4),fun x1 hx1=>?_⟩
 exact⟨Q4,Q5,hx1,Q4,Q5,(M8 Q4),Vb,Q4,Q5,(M8 Q4),Vb,⟨Q4,Q7,Q11,Q0⟩,rfl,rfl⟩
 exact⟨⟨Q4,Q7,Q11,Q0⟩,rfl,rfl⟩
 refine dsp (fun h5 p5=>?_) fun h5 p5=>?_
 refine⟨Bv (j:=(⟨o2.c1,([]:List Ev)++list,0⟩:Js)) Q12 rfl (by dsimp only[Jt];exact⟨by assumption,by omega,by simp,by simp,by simpa using hp3⟩),fun (q1:Js) hq_q1=>?_⟩
 have hi_q1:An q1.c∧q1.i≤List.length list∧List.length q1.out=List.length list∧D2 q1.out≤D2 list∧AllB q1.out:=hq_q1
 obtain ⟨v1,v2,v3,v4,v5⟩:=hi_q1
 refine dsp (fun h6 p6=>?_) fun h6 p6=>?_
 refine⟨(Ak q1.c 9 Q0),fun o3 ho_o3=>?_⟩
 obtain ⟨⟨hp_o3_0,hp_o3_1,hp_o3_2,hp_o3_3⟩,hf_o3⟩:=ho_o3
 refine⟨hf_o3,(Ac Q5 Q5),(A8 (l:=q1.out) (i:=q1.i) Q4),fun x1 hx1=>?_⟩
 refine⟨Q4,Q5,hx1,(Ak o3.c1 3 Q0),fun o4 ho_o4=>?_⟩
 obtain ⟨⟨hp_o4_0,hp_o4_1,hp_o4_2,hp_o4_3⟩,hf_o4⟩:=ho_o4
 exact⟨hf_o4,Q4,Q5,(M8 Q4),Vb,(Ac Q5 Q5),Ay (j:=(⟨o4.c1,List.set q1.out q1.i (⟨x1.kind,x1.field,x1.bits,o3.x-2,x1.text,x1.code,o4.x⟩:Ev),q1.i+1⟩:Js)) Q12 rfl (by dsimp only[Jt];exact⟨by assumption,by omega,by simp;omega,Nat.le_trans (Nat.le_of_eq (Yw hx1 (by rfl))) v4,AllB.set v5 ((v5.at hx1).like rfl rfl)⟩) (by dsimp only[Jt];omega)⟩
 exact⟨⟨Q4,Q7,Q11,Q0⟩,rfl,rfl⟩
 exact⟨⟨Q4,Q7,Q11,Q0⟩,rfl,rfl⟩
structure L6 where
 c1:Cur
 p:Pln
 l:List Ev
def Y0 (code:List Int) (o:L6):Prop:=Fun Tryz.prog 158 [.c (.seq .u8 code)] [] (.tup [vP 0,.agg (Cd o.p),vO 1]) [.cells (By o.c1),.lst .ev o.l]
def Tu (code:List Int) (o:L6):Prop:=((An o.c1)∧(Vq o.p)∧(List.length o.l≤12007)∧(D2 o.l≤12004)∧(AllB o.l))∧Y0 code o
theorem Ak8 (code:List Int) (hp1:List.length code≤1048576): ∃o:L6,Tu code o:=by
 have hN:Ba=274877906944:=rfl
 refine Bz Tryz.func158 Q8 Q8 (w:=let z3:=fr (.one 4 (.first 5 (.done))) 0 4;(.intro (Lu code) fun o1=> .seg [.call [] (.v (vP 0)) (Kc o1.c1)] (.intro (Ff o1.c1) fun o2=> .seg [.call [1] (.v (.agg (Cd o2.p))) (Kc o2.c1)] (.intro (Rv o2.c1 o2.p) fun o3=> .seg [.call [1] (.v (vO 1)) [.cells (By o3.c1),.lst .ev o3.l],.pubS 15] (.intro (P1 o3.c1 o3.l) fun o4=> .seg [.call [1] (.v (vO 1)) [.cells (By o4.c1),.lst .ev o4.l]] (.intro (Ag o4.c1 16) fun o5=> .seg [.call [1] (.v (vB o5.p)) (Kc o5.c1)] (.br (.intro (G6 o5.c1) fun o6=> .seg [.call [1] (.v (.agg (Cd o6.p))) (Kc o6.c1),.tree z3 4 []] (.leaf (⟨o6.c1,o6.p,o4.l⟩:L6) [1,4])) (.seg [.tree z3 4 []] (.leaf (⟨o5.c1,o2.p,o4.l⟩:L6) [1,4]))))))),In (Lu code) fun o1=>((Uo code o1)∧In (Ff o1.c1) fun o2=>(let z2:S:= .tup [vP 0,.agg (Cd o2.p),vO 1];(Lw o1.c1 o2)∧In (Rv o2.c1 o2.p) fun o3=>((Wo o2.c1 o2.p o3)∧In (P1 o3.c1 o3.l) fun o4=>((Uv o3.c1 o3.l o4)∧In (Ag o4.c1 16) fun o5=>((A0 o4.c1 16 o5)∧Bc o5.p (In (G6 o5.c1) fun o6=>(let z1:S:= .tup [vP 0,.agg (Cd o6.p),vO 1];(Px o5.c1 o6)∧((An o6.c1)∧(Vq o6.p)∧(List.length o4.l≤12007)∧(D2 o4.l≤12004)∧(AllB o4.l))∧Lf z1 z1 [.cells (By o6.c1),.lst .ev o4.l] [.cells (By o6.c1),.lst .ev o4.l])) (((An o5.c1)∧(Vq o2.p)∧(List.length o4.l≤12007)∧(D2 o4.l≤12004)∧(AllB o4.l))∧Lf z2 z2 [.cells (By o5.c1),.lst .ev o4.l] [.cells (By o5.c1),.lst .ev o4.l])))))))) Q8 ?_
 refine⟨(Ae1 code Q61),fun o1 ho_o1=>?_⟩
 obtain ⟨hp_o1,hf_o1⟩:=ho_o1
 refine⟨hf_o1,(Up o1.c1 Q0),fun o2 ho_o2=>?_⟩
 obtain ⟨⟨hp_o2_0,hp_o2_1⟩,hf_o2⟩:=ho_o2
 refine⟨hf_o2,(Aii o2.c1 o2.p Q0 Q5),fun o3 ho_o3=>?_⟩
 obtain ⟨⟨hp_o3_0,hp_o3_1,hp_o3_2,hp_o3_3⟩,hf_o3⟩:=ho_o3
 refine⟨hf_o3,(Afd o3.c1 o3.l Q0 Q61 Q54),fun o4 ho_o4=>?_⟩
 obtain ⟨⟨hp_o4_0,hp_o4_1,hp_o4_2,hp_o4_3⟩,hf_o4⟩:=ho_o4
 refine⟨hf_o4,(Bg o4.c1 16 Q0),fun o5 ho_o5=>?_⟩
 obtain ⟨hp_o5,hf_o5⟩:=ho_o5
 refine⟨hf_o5,fun h1=>?_,fun h1=>?_⟩
 refine⟨(Yo o5.c1 Q0),fun o6 ho_o6=>?_⟩
 obtain ⟨⟨hp_o6_0,hp_o6_1⟩,hf_o6⟩:=ho_o6
 exact⟨hf_o6,⟨Q0,Q79,Q61,Q61,Q54⟩,rfl,rfl⟩
 exact⟨⟨Q0,Q79,Q61,Q61,Q54⟩,rfl,rfl⟩
structure Em where
 p:Pln
 l:List Ev
def Nq (code:List Int) (o:Em):Prop:=Fun Tryz.prog 102 [.c (.seq .u8 code)] [] (.tup [.agg (Cd o.p),vO 0]) [.lst .ev o.l]
def Jh (code:List Int) (o:Em):Prop:=((Vq o.p)∧(List.length o.l≤962000)∧(D2 o.l≤790000)∧(AllB o.l))∧Nq code o
theorem Y1 (code:List Int) (hp1:List.length code≤1048576): ∃o:Em,Jh code o:=by
 have hN:Ba=274877906944:=rfl
 refine Bz Tryz.func102 Q8 Q8 (w:=(.intro (Tu code) fun o1=> .seg [.call [] (.tup [vP 0,.agg (Cd o1.p),vO 1]) [.cells (By o1.c1),.lst .ev o1.l],.call [] (.v (vB (B3 o1.p))) []] (.br (.intro (Ag o1.c1 4) fun o2=> .seg [.call [1] (.v (vB o2.p)) (Kc o2.c1)] (.br (.intro (Kf o2.c1 o1.p) fun o3=> .intro (P2 o3.c1 o3.l) fun o4=> .seg [.tree (fr (.one 4 (.one 5 (.one 6 (.first 7 (.done))))) 0 4) 6 [1],.call [1] (.v (vO 1)) [.cells (By o3.c1),.lst .ev o3.l],.call [1,4] (.v (vO 2)) [.cells (By o4.c1),.lst .ev o3.l,.lst .ev o4.l]] (.leaf (⟨o1.p,o4.l⟩:Em) [5])) (.leaf (⟨o1.p,o1.l⟩:Em) [2]))) (.leaf (⟨o1.p,o1.l⟩:Em) [2])),In (Tu code) fun o1=>(let z2:S:= .tup [.agg (Cd o1.p),vO 0];let z1:=((Vq o1.p)∧(List.length o1.l≤962000)∧(D2 o1.l≤790000)∧(AllB o1.l))∧Lf z2 z2 [.lst .ev o1.l] [.lst .ev o1.l];(Y0 code o1)∧(Fp 42 [.agg (Cd o1.p)] [] (.v (vB (B3 o1.p))) [])∧Bc (B3 o1.p) (In (Ag o1.c1 4) fun o2=>((A0 o1.c1 4 o2)∧Bc (!o2.p) (In (Kf o2.c1 o1.p) fun o3=>(In (P2 o3.c1 o3.l) fun o4=>((Ru o2.c1 o1.p o3)∧(Uw o3.c1 o3.l o4)∧((Vq o1.p)∧(List.length o4.l≤962000)∧(D2 o4.l≤790000)∧(AllB o4.l))∧Lf z2 z2 [.lst .ev o4.l] [.lst .ev o4.l]))) z1)) z1))) Q8 ?_
 refine⟨(Ak8 code Q61),fun o1 ho_o1=>?_⟩
 obtain ⟨⟨hp_o1_0,hp_o1_1,hp_o1_2,hp_o1_3,hp_o1_4⟩,hf_o1⟩:=ho_o1
 refine⟨hf_o1,(Wz o1.p),fun h1=>have p1:=C6 h1;?_,fun h1=>?_⟩
 have hpr:=Ak6 hp_o1_1 h1
 have hpd:=hpr.deep
 have him:=Afc (d:=o1.p.deep-1) (by omega) (by omega)
 refine⟨(Bg o1.c1 4 Q0),fun o2 ho_o2=>?_⟩
 obtain ⟨hp_o2,hf_o2⟩:=ho_o2
 refine⟨hf_o2,fun h2=>have q2:=Ar h2;?_,fun h2=>have q2:=Ao h2;?_⟩
 refine⟨(Aa3 o2.c1 o1.p Q0 (Ak6 Q54 Q54)),fun o3 ho_o3=>?_⟩
 obtain ⟨⟨hp_o3_0,hp_o3_1,hp_o3_2,hp_o3_3⟩,hf_o3⟩:=ho_o3
 refine⟨(Afe o3.c1 o3.l Q0 Q61 Q54),fun o4 ho_o4=>?_⟩
 obtain ⟨⟨hp_o4_0,hp_o4_1,hp_o4_2,hp_o4_3⟩,hf_o4⟩:=ho_o4
 exact⟨hf_o3,hf_o4,⟨Q79,Q61,Q61,Q54⟩,rfl,rfl⟩
 exact⟨⟨Q79,Q61,Q61,Q54⟩,rfl,rfl⟩
 exact⟨⟨Q79,Q61,Q61,Q54⟩,rfl,rfl⟩
structure Rw where
 z:Sz
 out:List UInt8
def Nr (z:Sz) (f:Fld):Fam:=⟨Rw,fun q1=>[(0,.v (vP 0)),(3,.v (vP 2)),(5,.v (vI z.at_)),(6,.v (vI (A3 f.kind))),(7,.v (vT q1.out))],fun q1=>[.cells (S9 1 q1.z),.lst .int q1.z.sizes,.cells (Dd f)],fun q1=>NInv f z q1.z q1.out,fun q1=>Km f (tl q1.z)⟩
theorem Ati (z:Sz) (f:Fld) (hp1:(0:Int)≤(z).at_) (hp2:EvsB (z).list) (hp3:List.length (z).sizes=List.length (z).list) (hp4:1≤Km f (tl z)) (hp5:Km f (tl z)<List.length (tl z)):Fun Tryz.prog 221 [vP 0,.agg (Dd f)] [.cells (S9 1 z),.lst .int z.sizes] (.v (vT (Gi f (tl z)))) [.cells (S9 1 (Qh z f)),.lst .int (Qh z f).sizes]:=by
 have hN:Ba=274877906944:=rfl
 have hwo:=Ane f.kind
 have h64:Aq=9223372036854775807:=rfl
 have ht1:=Au f.number (A3 f.kind)
 have ht2:=Au f.number 2
 have hq1:=Fm (u:=Bo f.number (A3 f.kind)) (by omega)
 have hq2:=Fm (u:=Bo f.number 2) (by omega)
 have hfo:=fun (b:List UInt8) (h:b.length≤10485760)=>Lz (b:=b) (by omega)
 refine Av Tryz.func221 Q8 Q8 (w:=let zi:Int→C:= .int .i64;let z16:=A3 f.kind;let z15:=Bo f.number z16;let z17:=Bo f.number 2;let z18:List Blk:=[.cells (S9 1 (Qh z f)),.lst .int (Qh z f).sizes];let z19:S:= .v (vT (Gi f (tl z)));let z20:S:= .v (.c (.int .u64 z15));let z21:S:= .v (.c (.int .u64 z17));let z22:=A9 z15;let z23:S:= .v (vT (A9 z17));let z24:=Nr z f;let z25:=Az z16;let z26:S:= .v (vT z22);(.seg [.ord (os 9 [6]) [],.call [] (.v (vI z16)) [],.at 0,.keep [0,3,5,6,7],.sel [0,1,2]] (.loop z24 fun q1=>let z5:=Sx (q1.z.sizes[z.at_.toNat]?);.intro (Sx (q1.z.list[q1.z.at_.toNat]?)) fun x1=> .case (decide (x1.kind=2)) (.seg [.ord (os 28 []) [],.el .ev x1,.br true,.el .ev x1] (.br (.seg [.ord (os 12 []) [],.el .ev x1,.call [] (.v (vI z25)) []] (.br (.seg [.call [] (.v (vT (Fy x1.bits z25))) [],.as 73 (.v (vI (q1.z.at_+1)))] (.br (.seg [.call [] z20 [],.call [] z26 []] (.leaf () [0,1])) (.seg [.at 0,.keep [0,3,5,6,7],.sel [0,1,2]] (.next)))) (.seg [.call [] (.v (vT (A9 x1.bits))) [],.as 73 (.v (vI (q1.z.at_+1)))] (.br (.seg [.call [] z20 [],.call [] z26 []] (.leaf () [0,1])) (.seg [.at 0,.keep [0,3,5,6,7],.sel [0,1,2]] (.next)))))) (.intro z5 fun x2=> .seg [.el .int x2,.call [] z21 [],.call [] z23 [],.call [] (.v (vT (A1 q1.out))) []] (.leaf () [0,1])))) (.seg [.ord (os 28 []) [],.el .ev x1,.br false] (.intro z5 fun x2=> .seg [.el .int x2,.call [] z21 [],.call [] z23 [],.call [] (.v (vT (A1 q1.out))) []] (.leaf () [0,1])))),(Fp 184 [vI f.kind] [] (.v (vI z16)) [])∧z24.Has [(0,.v (vP 0)),(3,.v (vP 2)),(5,.v (vI z.at_)),(6,.v (vI z16)),(7,.v (vT []))] [.cells (S9 1 z),.lst .int z.sizes,.cells (Dd f)]∧∀q1,z24.inv q1→(let z8:=(0:Int)≤q1.z.at_;let z9:List Blk:=[.cells (S9 1 q1.z),.lst .int (List.set q1.z.sizes (z.at_.toNat) (q1.out.length:Int))];let z12:=z.at_<(q1.z.sizes.length:Int);let z13:=A1 q1.out;let z10:=((List.length (A9 z17)+z13.length:Nat):Int)≤Aq;let z11:S:= .v (vT ((A9 z17)++z13));let z14:=q1.z.at_+1;let z6:List Blk:=[.cells [.seq .shp q1.z.plan.shapes,zi q1.z.plan.root,zi q1.z.plan.deep,zi q1.z.plan.most,.seq .ev q1.z.list,zi z14,.own 1],.lst .int q1.z.sizes,.cells (Dd f)];let z7:List Blk:=[.cells [.seq .shp q1.z.plan.shapes,zi q1.z.plan.root,zi q1.z.plan.deep,zi q1.z.plan.most,.seq .ev q1.z.list,zi z14,.own 1],.lst .int q1.z.sizes];El (q1.z.list[q1.z.at_.toNat]?) fun x1=>(let z1:=q1.z.list[q1.z.at_.toNat]? =some x1;let z2:=Fy x1.bits z25;let z3:=A9 x1.bits;let z4:=decide (x1.kind=2);Bc z4 (z1∧z8∧z1∧z8∧(z4=true)∧z1∧z8∧z1∧z8∧Bc (decide (x1.field=f.number)) (z1∧z8∧z1∧z8∧(Fp 189 [vI z16] [] (.v (vI z25)) [])∧Bc (decide (0<Az z16)) ((Fp 268 [.c (.int .u64 x1.bits),vI z25] [] (.v (vT z2)) [])∧(((q1.out.length+z2.length:Nat):Int)≤Aq)∧(wI z14)∧Bc (!f.packed) ((Fp 224 [vI f.number,vI z16] [] z20 [])∧(Fp 223 [.c (.int .u64 z15)] [] z26 [])∧(((z22.length+List.length (q1.out++z2):Nat):Int)≤Aq)∧Lf (.v (vT (z22++(q1.out++z2)))) z19 z7 z18) (z24.Nxt q1 [(0,.v (vP 0)),(3,.v (vP 2)),(5,.v (vI z.at_)),(6,.v (vI z16)),(7,.v (vT (q1.out++z2)))] z6)) ((Fp 223 [.c (.int .u64 x1.bits)] [] (.v (vT z3)) [])∧(((q1.out.length+z3.length:Nat):Int)≤Aq)∧(wI z14)∧Bc (!f.packed) ((Fp 224 [vI f.number,vI z16] [] z20 [])∧(Fp 223 [.c (.int .u64 z15)] [] z26 [])∧(((z22.length+List.length (q1.out++z3):Nat):Int)≤Aq)∧Lf (.v (vT (z22++(q1.out++z3)))) z19 z7 z18) (z24.Nxt q1 [(0,.v (vP 0)),(3,.v (vP 2)),(5,.v (vI z.at_)),(6,.v (vI z16)),(7,.v (vT (q1.out++z3)))] z6))) (El (q1.z.sizes[z.at_.toNat]?) fun x2=>(z12∧((0:Int)≤z.at_)∧(q1.z.sizes[z.at_.toNat]? =some x2)∧(Fp 224 [vI f.number,vI 2] [] z21 [])∧(Fp 223 [.c (.int .u64 z17)] [] z23 [])∧(Fp 225 [vT q1.out] [] (.v (vT z13)) [])∧z10∧Lf z11 z19 z9 z18))) (z1∧z8∧z1∧z8∧(z4=false)∧El (q1.z.sizes[z.at_.toNat]?) fun x2=>(z12∧((0:Int)≤z.at_)∧(q1.z.sizes[z.at_.toNat]? =some x2)∧(Fp 224 [vI f.number,vI 2] [] z21 [])∧(Fp 223 [.c (.int .u64 z17)] [] z23 [])∧(Fp 225 [vT q1.out] [] (.v (vT z13)) [])∧z10∧Lf z11 z19 z9 z18)))))) Q8 ?_
 refine⟨(Abs _),Bv (j:=(⟨z,[]⟩:Rw)) rfl rfl (by dsimp only[Nr];exact NInv.refl hp5),fun (q1:Rw) hq_q1=>?_⟩
 have hi_q1:NInv f z q1.z q1.out:=hq_q1
 have hin:=hi_q1.in_ hp1
 have hlo:=hi_q1.lo
 have hrm:=Ak2 hi_q1 hp2
 have hl1:=hp2.1
 have hli:=congrArg List.length hi_q1.li
 have hsz:=congrArg List.length hi_q1.sz
 refine⟨(A8 (l:=q1.z.list) (i:=q1.z.at_.toNat) Q5),fun x1 hx1=>?_⟩
 have he:=hp2.2.2 x1 (by rw[←hi_q1.li];exact List.mem_of_getElem? hx1)
 have hbu:=he.2
 have hwb:=J0 (A3 f.kind)
 refine dsp (fun h1 p1=>?_) fun h1 p1=>?_
 refine⟨hx1,Q5,hx1,Q5,h1,hx1,Q5,hx1,Q5,dsp (fun h2 p2=>?_) fun h2 p2=>?_⟩
 refine⟨hx1,Q5,hx1,Q5,(Ac3 _),dsp (fun h3 p3=>?_) fun h3 p3=>?_⟩
 have hbb:Eo f x1.bits=Fy x1.bits (Az (A3 f.kind)):=by unfold Eo;rw[if_pos p3]
 have hpl:=V4 (f:=f) (u:=x1.bits) hbu.2
 rw[hbb] at hpl
 refine⟨(Anq _ _ Q5),Q5,(Ac Q5 Q5),fun h4=>have q4:=Ar h4;?_,fun h4=>have q4:=Ao h4;?_⟩
 have hpk:f.packed=false:=Ar h4
 obtain ⟨ho1,ho2,ho3,ho4⟩:=hi_q1.only hpk hx1
 rw[hbb] at ho3
 refine zE (Qh z f) (⟨q1.z.plan,q1.z.list,q1.z.at_+1,q1.z.sizes⟩:Sz) (fun hm1=>⟨(Vf _ _),(Mf _ Q5),Q32,(congrArg S.v (congrArg V.c (congrArg C.str ?_))),Q17⟩) ?_
 rotate_left 2
 have hpk:f.packed=true:=Ao h4
 have hnx:=hi_q1.next hp1 hx1 (by omega) (by omega) hpk hbb.symm
 exact Ay (j:=(⟨(⟨q1.z.plan,q1.z.list,q1.z.at_+1,q1.z.sizes⟩:Sz),q1.out++(Fy x1.bits (Az (A3 f.kind)))⟩:Rw)) rfl Q12 (by dsimp only[Nr];exact hnx.1) (by dsimp only[Nr];exact hnx.2)
 have hbb:Eo f x1.bits=A9 x1.bits:=by unfold Eo;rw[if_neg p3]
 have hpl:=V4 (f:=f) (u:=x1.bits) hbu.2
 rw[hbb] at hpl
 refine⟨(Mf _ Q5),Q5,(Ac Q5 Q5),fun h4=>have q4:=Ar h4;?_,fun h4=>have q4:=Ao h4;?_⟩
 have hpk:f.packed=false:=Ar h4
 obtain ⟨ho1,ho2,ho3,ho4⟩:=hi_q1.only hpk hx1
 rw[hbb] at ho3
 refine zE (Qh z f) (⟨q1.z.plan,q1.z.list,q1.z.at_+1,q1.z.sizes⟩:Sz) (fun hm1=>⟨(Vf _ _),(Mf _ Q5),Q32,(congrArg S.v (congrArg V.c (congrArg C.str ?_))),Q17⟩) ?_
 rotate_left 2
 have hpk:f.packed=true:=Ao h4
 have hnx:=hi_q1.next hp1 hx1 (by omega) (by omega) hpk hbb.symm
 exact Ay (j:=(⟨(⟨q1.z.plan,q1.z.list,q1.z.at_+1,q1.z.sizes⟩:Sz),q1.out++(A9 x1.bits)⟩:Rw)) rfl Q12 (by dsimp only[Nr];exact hnx.1) (by dsimp only[Nr];exact hnx.2)
 have hst:=hi_q1.stop hx1 (by omega) hp4
 have hvr:=Adr (f:=f) hp2 (Bt f (tl z))
 rw[←hst.2.1] at hvr
 have hfq:=hfo q1.out hvr
 refine⟨(A8 (l:=q1.z.sizes) (i:=z.at_.toNat) Q5),fun x2 hx2=>?_⟩
 refine zE (Qh z f) (⟨q1.z.plan,q1.z.list,q1.z.at_,List.set q1.z.sizes (z.at_.toNat) (q1.out.length:Int)⟩:Sz) (fun hm1=>⟨Q5,Q5,hx2,(Vf _ _),(Mf _ Q5),(Ud _ Q5),Q5,(congrArg S.v (congrArg V.c (congrArg C.str ?_))),Q17⟩) ?_
 rotate_left 2
 have hst:=hi_q1.stop hx1 (by omega) hp4
 have hvr:=Adr (f:=f) hp2 (Bt f (tl z))
 rw[←hst.2.1] at hvr
 have hfq:=hfo q1.out hvr
 refine⟨hx1,Q5,hx1,Q5,h1,(A8 (l:=q1.z.sizes) (i:=z.at_.toNat) Q5),fun x2 hx2=>?_⟩
 refine zE (Qh z f) (⟨q1.z.plan,q1.z.list,q1.z.at_,List.set q1.z.sizes (z.at_.toNat) (q1.out.length:Int)⟩:Sz) (fun hm1=>⟨Q5,Q5,hx2,(Vf _ _),(Mf _ Q5),(Ud _ Q5),Q5,(congrArg S.v (congrArg V.c (congrArg C.str ?_))),Q17⟩) ?_
 rotate_left 2
 all_goals first|(simp_all[Gi,Er];done)|(grind[Gi,Er,Qh])
structure Ux where
 z:Sz
 out:List UInt8
def Uy (z:Sz):Fam:=⟨Ux,fun q1=>[(0,.v (vP 0)),(3,.v (vT q1.out))],fun q1=>[.cells (S9 1 q1.z),.lst .int q1.z.sizes],fun q1=>TInv z q1.z q1.out,fun q1=>ptL (tl q1.z)⟩
theorem Atj (z:Sz) (hp1:(0:Int)≤(z).at_) (hp2:EvsB (z).list) (hp3:(z).at_+1≤((List.length (z).list:Nat):Int)) (hp4:ptL (List.drop 1 (tl z))<List.length (List.drop 1 (tl z))):Fun Tryz.prog 222 [vP 0] [.cells (S9 1 z),.lst .int z.sizes] (.v (vT (txt z))) [.cells (S9 1 (L0 z)),.lst .int (L0 z).sizes]:=by
 have hN:Ba=274877906944:=rfl
 have hl0:=hp2.1
 have h64:Aq=9223372036854775807:=rfl
 refine Av Tryz.func222 Q8 Q8 (w:=let zi:Int→C:= .int .i64;let z5:=Uy z;(.seg [.as 8 (.v (vI (z.at_+1))),.at 0,.keep [0,3],.sel [0,1]] (.loop z5 fun q1=> .intro (Sx (q1.z.list[q1.z.at_.toNat]?)) fun x1=> .seg [.ord (os 12 []) [],.el .ev x1] (.br (.seg [.ord (os 14 []) [],.el .ev x1,.as 27 (.v (vI (q1.z.at_+1))),.at 0,.keep [0,3],.sel [0,1]] (.next)) (.seg [.as 47 (.v (vI (q1.z.at_+1)))] (.leaf () [0,1])))),(wI (z.at_+1))∧z5.Has [(0,.v (vP 0)),(3,.v (vT []))] [.cells [.seq .shp z.plan.shapes,zi z.plan.root,zi z.plan.deep,zi z.plan.most,.seq .ev z.list,zi (z.at_+1),.own 1],.lst .int z.sizes]∧∀q1,z5.inv q1→(let z3:List Blk:=[.cells [.seq .shp q1.z.plan.shapes,zi q1.z.plan.root,zi q1.z.plan.deep,zi q1.z.plan.most,.seq .ev q1.z.list,zi (q1.z.at_+1),.own 1],.lst .int q1.z.sizes];let z4:=(0:Int)≤q1.z.at_;El (q1.z.list[q1.z.at_.toNat]?) fun x1=>(let z1:=q1.z.list[q1.z.at_.toNat]? =some x1;let z2:=((q1.out.length+x1.text.length:Nat):Int)≤Aq;z1∧z4∧z1∧z4∧Bc (decide (x1.kind=4)) (z1∧z4∧z1∧z4∧z2∧z2∧(wI (q1.z.at_+1))∧z5.Nxt q1 [(0,.v (vP 0)),(3,.v (vT (q1.out++x1.text)))] z3) ((wI (q1.z.at_+1))∧Lf (.v (vT q1.out)) (.v (vT (txt z))) z3 [.cells (S9 1 (L0 z)),.lst .int (L0 z).sizes]))))) Q8 ?_
 refine⟨(Ac Q5 Q5),Bv (j:=(⟨(⟨z.plan,z.list,z.at_+1,z.sizes⟩:Sz),[]⟩:Ux)) rfl Q12 (by dsimp only[Uy];exact TInv.refl hp1 hp4),fun (q1:Ux) hq_q1=>?_⟩
 have hi_q1:TInv z q1.z q1.out:=hq_q1
 have hin:=hi_q1.in_ hp1
 have hlo:=hi_q1.lo
 have hl1:=hp2.1
 have hli:=congrArg List.length hi_q1.li
 refine⟨(A8 (l:=q1.z.list) (i:=q1.z.at_.toNat) Q5),fun x1 hx1=>?_⟩
 refine⟨hx1,Q5,hx1,Q5,dsp (fun h1 p1=>?_) fun h1 p1=>?_⟩
 have hnx:=hi_q1.next hp1 hx1 p1
 have hrx:=Aog hnx.1 hp2
 rw[List.length_append] at hrx
 exact⟨hx1,Q5,hx1,Q5,Q5,Q5,(Ac Q5 Q5),Ay (j:=(⟨(⟨q1.z.plan,q1.z.list,q1.z.at_+1,q1.z.sizes⟩:Sz),q1.out++x1.text⟩:Ux)) rfl Q12 (by dsimp only[Uy];exact hnx.1) (by dsimp only[Uy];exact hnx.2)⟩
 have hst:=hi_q1.stop hx1 p1
 refine zE (L0 z) (⟨q1.z.plan,q1.z.list,q1.z.at_+1,q1.z.sizes⟩:Sz) (fun hm1=>⟨(Ac Q5 Q5),(congrArg S.v (congrArg V.c (congrArg C.str ?_))),Q17⟩) ?_
 rotate_left 2
 all_goals first|(exact hst.1)|(exact hst.2)|(exact hst.2.symm)|(grind)
def Au0 (K:Nat):Prop:= ∀(z:Sz) (shape:Int) (hp1:MB shape z) (hp2:List.length (tl z)<K),Fun Tryz.prog 161 [vP 0,vI shape] [.cells (S9 1 z),.lst .int z.sizes] (.v (vT (mT (z).plan shape (tl z)))) [.cells (S9 1 (Kw shape z)),.lst .int (Kw shape z).sizes]
structure Sp where
 z:Sz
 out:List Int
def Sq (z:Sz) (shape:Int):Fam:=⟨Sp,fun q1=>[(0,.v (vP 0)),(1,.v (vI shape)),(5,.v (vO 2))],fun q1=>[.cells (S9 1 q1.z),.lst .int q1.z.sizes,.lst .u8 q1.out],fun q1=>MInv shape z q1.z (List.map A5 q1.out),fun q1=>z.list.length-Int.toNat (q1.z).at_⟩
theorem Aum (K:Nat) (hM:Au0 K) (z:Sz) (shape:Int) (hp1:MB shape z) (hp2:List.length (tl z)≤K):Fun Tryz.prog 161 [vP 0,vI shape] [.cells (S9 1 z),.lst .int z.sizes] (.v (vT (mT (z).plan shape (tl z)))) [.cells (S9 1 (Kw shape z)),.lst .int (Kw shape z).sizes]:=by
 have hN:Ba=274877906944:=rfl
 have hvl:=hp1.ev.1
 refine Av Tryz.func161 Q8 Q8 (w:=let z14:=Sq z shape;let z15:=vI shape;(.seg [.ty .u8,.at 0,.keep [0,1,5],.sel [0,1,2]] (.loop z14 fun q1=>let z7:=(⟨q1.z.plan,q1.z.list,q1.z.at_+1,q1.z.sizes⟩:Sz);.intro (Sx (q1.z.list[q1.z.at_.toNat]?)) fun x1=>let z2:=fieldAt q1.z.plan.shapes shape x1.field;let z1:=z2.getD fld0;.seg [.ord (os 12 [11]) [],.el .ev x1,.call [] (.v (vB (Cf x1.kind))) []] (.br (.seg [.ord (os 17 [14,16]) [],.el .ev x1,.tree (fr (.two 8 (fr (.one 12 (.one 13 (.first 14 (.done)))) 9 3) 12 (.one 8 (fr (.one 13 (.first 14 (.done))) 9 3))) 0 8) 15 [],.call [] (.tup [.agg (Dd z1),vB z2.isSome]) [],.at 0,.keep [0,1,5,6,7,8],.sel [0,1,2,3,4],.call [] (.tup [.agg (Dd z1),vB z2.isSome]) [],.at 0,.keep [0,1,5,6,7,8],.sel [0,1,2,3,4]] (.br (.seg [.call [0,1] (.v (vT (Gi z1 (tl q1.z)))) [.cells (S9 1 (Qh q1.z z1)),.lst .int (Qh q1.z z1).sizes],.ty .u8,.at 0,.keep [0,1,5],.sel [0,1,5]] (.next)) (.br (.seg [.call [0,1] (.v (vT (txt q1.z))) [.cells (S9 1 (L0 q1.z)),.lst .int (L0 q1.z).sizes]] (.intro (Sx ((L0 q1.z).sizes[q1.z.at_.toNat]?)) fun x2=> .seg [.el .int x2,.call [] (.v (.c (.int .u64 (Bo z1.number 2)))) [],.call [] (.v (vT (A9 (Bo z1.number 2)))) [],.ty .u8,.call [] (.v (vT (A1 (txt q1.z)))) [],.ty .u8,.at 0,.keep [0,1,5],.sel [0,1,6]] (.next))) (.seg [.as 67 (.v (vI (q1.z.at_+1))),.call [0,1] (.v (vT (mT (z7).plan z1.msg (tl z7)))) [.cells (S9 1 (Kw z1.msg z7)),.lst .int (Kw z1.msg z7).sizes]] (.intro (Sx ((Kw z1.msg z7).sizes[q1.z.at_.toNat]?)) fun x2=> .seg [.el .int x2,.call [] (.v (.c (.int .u64 (Bo z1.number 2)))) [],.call [] (.v (vT (A9 (Bo z1.number 2)))) [],.ty .u8,.call [] (.v (vT (A1 (mT (z7).plan z1.msg (tl z7))))) [],.ty .u8,.at 0,.keep [0,1,5],.sel [0,1,6]] (.next)))))) (.seg [.as 96 (.v (vI (q1.z.at_+1)))] (.leaf () [0,1])))),z14.Has [(0,.v (vP 0)),(1,.v z15),(5,.v (vO 2))] [.cells (S9 1 z),.lst .int z.sizes,.lst .u8 ([]:List Int)]∧∀q1,z14.inv q1→(let z8:=(⟨q1.z.plan,q1.z.list,q1.z.at_+1,q1.z.sizes⟩:Sz);let z9:List Blk:=[.cells [.seq .shp q1.z.plan.shapes,.int .i64 q1.z.plan.root,.int .i64 q1.z.plan.deep,.int .i64 q1.z.plan.most,.seq .ev q1.z.list,.int .i64 (q1.z.at_+1),.own 1],.lst .int q1.z.sizes];let z10:=(0:Int)≤q1.z.at_;let z11:=List.map (fun b=>(UInt8.toNat b:Int)) (A1 (txt q1.z));let z12:=L0 q1.z;let z13:List Blk:=[.cells (S9 1 q1.z),.lst .int q1.z.sizes];El (q1.z.list[q1.z.at_.toNat]?) fun x1=>(let z4:=q1.z.list[q1.z.at_.toNat]? =some x1;let z6:=fieldAt q1.z.plan.shapes shape x1.field;let z3:=z6.getD fld0;let z5:List Blk:=[.cells (S9 1 q1.z),.lst .int q1.z.sizes,.lst .u8 q1.out,.cells (cEv x1),.cells (Dd z3)];z4∧z10∧z4∧z10∧(Fp 135 [vI x1.kind] [] (.v (vB (Cf x1.kind))) [])∧Bc (Cf x1.kind) (z4∧z10∧z4∧z10∧(Fp 121 [.agg [.seq .shp q1.z.plan.shapes],vI shape,vI x1.field] [] (.tup [.agg (Dd z3),vB z6.isSome]) [])∧(Fp 121 [.agg [.seq .shp q1.z.plan.shapes],vI shape,vI x1.field] [] (.tup [.agg (Dd z3),vB z6.isSome]) [])∧((z5:List Blk)=z5)∧(([(0,.v (vP 0)),(1,.v z15),(5,.v (vO 2)),(6,.v (vI q1.z.at_)),(7,.v (vP 3)),(8,.v (vP 4))]:List (Nat×S))=[(0,.v (vP 0)),(1,.v z15),(5,.v (vO 2)),(6,.v (vI q1.z.at_)),(7,.v (vP 3)),(8,.v (vP 4))])∧Bc (decide (x1.kind=2)) ((Fp 221 [vP 0,.agg (Dd z3)] z13 (.v (vT (Gi z3 (tl q1.z)))) [.cells (S9 1 (Qh q1.z z3)),.lst .int (Qh q1.z z3).sizes])∧(q1.out.length+List.length (List.map (fun b=>(UInt8.toNat b:Int)) (Gi z3 (tl q1.z)))≤Ba)∧z14.Nxt q1 [(0,.v (vP 0)),(1,.v z15),(5,.v (vO 2))] [.cells (S9 1 (Qh q1.z z3)),.lst .int (Qh q1.z z3).sizes,.lst .u8 (q1.out++(List.map (fun b=>(UInt8.toNat b:Int)) (Gi z3 (tl q1.z))))]) (Bc (decide (x1.kind=3)) ((Fp 222 [vP 0] z13 (.v (vT (txt q1.z))) [.cells (S9 1 z12),.lst .int z12.sizes])∧El (z12.sizes[q1.z.at_.toNat]?) fun x2=>((q1.z.at_<(z12.sizes.length:Int))∧z10∧(z12.sizes[q1.z.at_.toNat]? =some x2)∧(Fp 224 [vI z3.number,vI 2] [] (.v (.c (.int .u64 (Bo z3.number 2)))) [])∧(Fp 223 [.c (.int .u64 (Bo z3.number 2))] [] (.v (vT (A9 (Bo z3.number 2)))) [])∧(q1.out.length+List.length (List.map (fun b=>(UInt8.toNat b:Int)) (A9 (Bo z3.number 2)))≤Ba)∧(Fp 225 [vT (txt q1.z)] [] (.v (vT (A1 (txt q1.z)))) [])∧(List.length (q1.out++(List.map (fun b=>(UInt8.toNat b:Int)) (A9 (Bo z3.number 2))))+z11.length≤Ba)∧z14.Nxt q1 [(0,.v (vP 0)),(1,.v z15),(5,.v (vO 2))] [.cells (S9 1 z12),.lst .int (List.set z12.sizes (q1.z.at_.toNat) ((List.length (txt q1.z):Nat):Int)),.lst .u8 ((q1.out++(List.map (fun b=>(UInt8.toNat b:Int)) (A9 (Bo z3.number 2))))++z11)])) ((wI (q1.z.at_+1))∧(Fp 161 [vP 0,vI z3.msg] z9 (.v (vT (mT (z8).plan z3.msg (tl z8)))) [.cells (S9 1 (Kw z3.msg z8)),.lst .int (Kw z3.msg z8).sizes])∧El ((Kw z3.msg z8).sizes[q1.z.at_.toNat]?) fun x2=>((q1.z.at_<((List.length (Kw z3.msg z8).sizes:Nat):Int))∧z10∧((Kw z3.msg z8).sizes[q1.z.at_.toNat]? =some x2)∧(Fp 224 [vI z3.number,vI 2] [] (.v (.c (.int .u64 (Bo z3.number 2)))) [])∧(Fp 223 [.c (.int .u64 (Bo z3.number 2))] [] (.v (vT (A9 (Bo z3.number 2)))) [])∧(q1.out.length+List.length (List.map (fun b=>(UInt8.toNat b:Int)) (A9 (Bo z3.number 2)))≤Ba)∧(Fp 225 [vT (mT (z8).plan z3.msg (tl z8))] [] (.v (vT (A1 (mT (z8).plan z3.msg (tl z8))))) [])∧(List.length (q1.out++(List.map (fun b=>(UInt8.toNat b:Int)) (A9 (Bo z3.number 2))))+List.length (List.map (fun b=>(UInt8.toNat b:Int)) (A1 (mT (z8).plan z3.msg (tl z8))))≤Ba)∧z14.Nxt q1 [(0,.v (vP 0)),(1,.v z15),(5,.v (vO 2))] [.cells (S9 1 (Kw z3.msg z8)),.lst .int (List.set (Kw z3.msg z8).sizes (q1.z.at_.toNat) ((List.length (mT (z8).plan z3.msg (tl z8)):Nat):Int)),.lst .u8 ((q1.out++(List.map (fun b=>(UInt8.toNat b:Int)) (A9 (Bo z3.number 2))))++(List.map (fun b=>(UInt8.toNat b:Int)) (A1 (mT (z8).plan z3.msg (tl z8)))))])))) ((wI (q1.z.at_+1))∧Lf (.v (vT (List.map A5 q1.out))) (.v (vT (mT (z).plan shape (tl z)))) z9 [.cells (S9 1 (Kw shape z)),.lst .int (Kw shape z).sizes]))))) Q8 ?_
 refine⟨Bv (j:=(⟨z,([]:List Int)⟩:Sp)) rfl rfl (by dsimp only[Sq];exact MInv.refl hp1),fun (q1:Sp) hq_q1=>?_⟩
 have hi_q1:MInv shape z q1.z (List.map A5 q1.out):=hq_q1
 have hrm:=hi_q1.room hp1
 have hso:=hi_q1.small hp1
 have hzl:=congrArg List.length hrm.2.2.2.2.1
 simp only[List.length_map] at hso
 have hpt:=C6 hp1.pl
 refine⟨(A8 (l:=q1.z.list) (i:=q1.z.at_.toNat) Q5),fun x1 hx1=>?_⟩
 refine⟨hx1,Q5,hx1,Q5,(Vh _),fun h1=>?_,fun h1=>?_⟩
 have hkk:=h1
 refine⟨hx1,Q5,hx1,Q5,(Lq q1.z.plan.shapes _ _ (by rw[hrm.2.2.2.2.2.1];omega) (by rw[hrm.2.2.2.2.2.1];exact Cy hpt.2.1)),(Lq q1.z.plan.shapes _ _ (by rw[hrm.2.2.2.2.2.1];omega) (by rw[hrm.2.2.2.2.2.1];exact Cy hpt.2.1)),rfl,rfl,dsp (fun h2 p2=>?_) fun h2 p2=>?_⟩
 obtain ⟨f,hf,g1,g2,g3,g4,g5,g6⟩:=hi_q1.num hp1 hx1 p2
 have hff:((fieldAt q1.z.plan.shapes shape x1.field).getD fld0)=f:=by rw[hrm.2.2.2.2.2.1,hf];rfl
 subst hff
 have hsm:=(g6.small hp1).1
 simp only[List.length_append,List.length_map] at hsm
 have hna:(Qh q1.z ((fieldAt q1.z.plan.shapes shape x1.field).getD fld0)).at_=q1.z.at_+((Bt ((fieldAt q1.z.plan.shapes shape x1.field).getD fld0) (tl q1.z):Nat):Int):=rfl
 exact⟨(Ati q1.z ((fieldAt q1.z.plan.shapes shape x1.field).getD fld0) Q5 (hrm.2.2.2.2.2.2) Q5 Q54 Q54),Q23,Ay (j:=(⟨(Qh q1.z ((fieldAt q1.z.plan.shapes shape x1.field).getD fld0)),q1.out++(List.map (fun b=>(UInt8.toNat b:Int)) (Gi ((fieldAt q1.z.plan.shapes shape x1.field).getD fld0) (tl q1.z)))⟩:Sp)) rfl rfl Q48 (by dsimp only[Sq];omega)⟩
 refine dsp (fun h3 p3=>?_) fun h3 p3=>?_
 obtain ⟨f,hf,g1,g2,g3⟩:=hi_q1.text hp1 hx1 p3
 have hff:((fieldAt q1.z.plan.shapes shape x1.field).getD fld0)=f:=by rw[hrm.2.2.2.2.2.1,hf];rfl
 subst hff
 have hsm:=(g3.small hp1).1
 simp only[List.length_append,List.length_map] at hsm
 have hna:(L0 q1.z).at_=q1.z.at_+((ptL (List.drop 1 (tl q1.z)):Nat):Int)+2:=rfl
 have hns:List.length (L0 q1.z).sizes=q1.z.sizes.length:=rfl
 have h64:Aq=9223372036854775807:=rfl
 have htl:=Arn (z:=q1.z) hrm.2.2.2.2.2.2
 have htb:=Au ((fieldAt q1.z.plan.shapes shape x1.field).getD fld0).number 2
 have htp:=Fm (u:=Bo ((fieldAt q1.z.plan.shapes shape x1.field).getD fld0).number 2) (by omega)
 refine⟨(Atj q1.z Q5 (hrm.2.2.2.2.2.2) Q5 Q54),(A8 (l:=(L0 q1.z).sizes) (i:=q1.z.at_.toNat) Q5),fun x2 hx2=>?_⟩
 exact⟨Q5,Q5,hx2,(Vf _ _),(Mf _ Q5),Q23,(Ud _ Q5),Q67,Ay (j:=(⟨(⟨(L0 q1.z).plan,(L0 q1.z).list,(L0 q1.z).at_,List.set (L0 q1.z).sizes (q1.z.at_.toNat) ((List.length (txt q1.z):Nat):Int)⟩:Sz),(q1.out++(List.map (fun b=>(UInt8.toNat b:Int)) (A9 (Bo ((fieldAt q1.z.plan.shapes shape x1.field).getD fld0).number 2))))++(List.map (fun b=>(UInt8.toNat b:Int)) (A1 (txt q1.z)))⟩:Sp)) rfl Q12 Q48 (by dsimp only[Sq];omega)⟩
 have hk6:x1.kind=6:=by simp only[Cf,Bool.or_eq_true,decide_eq_true_eq] at hkk;omega
 obtain ⟨f,hf,g1,g2,g3,g4,g5⟩:=hi_q1.down hp1 hx1 hk6
 have hff:((fieldAt q1.z.plan.shapes shape x1.field).getD fld0)=f:=by rw[hrm.2.2.2.2.2.1,hf];rfl
 subst hff
 have hsm:=(g5.small hp1).1
 simp only[List.length_append,List.length_map] at hsm
 have hll:=Yv q1.z
 have hlz:=Yv z
 have hlo:=hi_q1.lo
 have hz0:=hp1.at_
 have h64:Aq=9223372036854775807:=rfl
 have hbl:=So g1.bd (g1.ev.drop _)
 have htb:=Au ((fieldAt q1.z.plan.shapes shape x1.field).getD fld0).number 2
 have htp:=Fm (u:=Bo ((fieldAt q1.z.plan.shapes shape x1.field).getD fld0).number 2) (by omega)
 have hna:(Kw ((fieldAt q1.z.plan.shapes shape x1.field).getD fld0).msg ⟨q1.z.plan,q1.z.list,q1.z.at_+1,q1.z.sizes⟩).at_=q1.z.at_+1+((upL (-1) 1 (tl ⟨q1.z.plan,q1.z.list,q1.z.at_+1,q1.z.sizes⟩):Nat):Int)+1:=rfl
 refine⟨(Ac Q5 Q5),(hM (⟨q1.z.plan,q1.z.list,q1.z.at_+1,q1.z.sizes⟩:Sz) _ (g1) Q5),(A8 (l:=(Kw ((fieldAt q1.z.plan.shapes shape x1.field).getD fld0).msg (⟨q1.z.plan,q1.z.list,q1.z.at_+1,q1.z.sizes⟩:Sz)).sizes) (i:=q1.z.at_.toNat) Q5),fun x2 hx2=>?_⟩
 exact⟨Q5,Q5,hx2,(Vf _ _),(Mf _ Q5),Q23,(Ud _ Q5),Q67,Ay (j:=(⟨(⟨(Kw ((fieldAt q1.z.plan.shapes shape x1.field).getD fld0).msg (⟨q1.z.plan,q1.z.list,q1.z.at_+1,q1.z.sizes⟩:Sz)).plan,(Kw ((fieldAt q1.z.plan.shapes shape x1.field).getD fld0).msg (⟨q1.z.plan,q1.z.list,q1.z.at_+1,q1.z.sizes⟩:Sz)).list,(Kw ((fieldAt q1.z.plan.shapes shape x1.field).getD fld0).msg (⟨q1.z.plan,q1.z.list,q1.z.at_+1,q1.z.sizes⟩:Sz)).at_,List.set (Kw ((fieldAt q1.z.plan.shapes shape x1.field).getD fld0).msg (⟨q1.z.plan,q1.z.list,q1.z.at_+1,q1.z.sizes⟩:Sz)).sizes (q1.z.at_.toNat) ((List.length (mT ((⟨q1.z.plan,q1.z.list,q1.z.at_+1,q1.z.sizes⟩:Sz)).plan ((fieldAt q1.z.plan.shapes shape x1.field).getD fld0).msg (tl (⟨q1.z.plan,q1.z.list,q1.z.at_+1,q1.z.sizes⟩:Sz))):Nat):Int)⟩:Sz),(q1.out++(List.map (fun b=>(UInt8.toNat b:Int)) (A9 (Bo ((fieldAt q1.z.plan.shapes shape x1.field).getD fld0).number 2))))++(List.map (fun b=>(UInt8.toNat b:Int)) (A1 (mT ((⟨q1.z.plan,q1.z.list,q1.z.at_+1,q1.z.sizes⟩:Sz)).plan ((fieldAt q1.z.plan.shapes shape x1.field).getD fld0).msg (tl (⟨q1.z.plan,q1.z.list,q1.z.at_+1,q1.z.sizes⟩:Sz)))))⟩:Sp)) rfl Q12 Q48 (by dsimp only[Sq];omega)⟩
 have hst:=hi_q1.end_ hp1 hx1 (by simp[h1])
 refine zE (Kw shape z) (⟨q1.z.plan,q1.z.list,q1.z.at_+1,q1.z.sizes⟩:Sz) (fun hm1=>⟨(Ac Q5 Q5),(congrArg S.v (congrArg V.c (congrArg C.str ?_))),Q17⟩) ?_
 rotate_left 2
 all_goals first|(exact hst.1)|(exact hst.2)|(exact hst.2.symm)|(grind)
theorem Agx: ∀K,Au0 K
 |0=>fun z shape hp1 hp2=>absurd hp2 (Nat.not_lt_zero _)
 |K+1=>fun z shape hp1 hp2=>Aum K (Agx K) z shape hp1 (Nat.le_of_lt_succ hp2)
theorem Aun (z:Sz) (shape:Int) (hp1:MB shape z):Fun Tryz.prog 161 [vP 0,vI shape] [.cells (S9 1 z),.lst .int z.sizes] (.v (vT (mT (z).plan shape (tl z)))) [.cells (S9 1 (Kw shape z)),.lst .int (Kw shape z).sizes]:=Agx _ z shape hp1 (Nat.lt_succ_self _)
structure Rx where
 n:Int
 i:Int
def Ab4 (l:List Ev) (a:Int):Fam:=⟨Rx,fun q1=>[(0,.v (.c (.seq .ev l))),(5,.v (vI q1.n)),(6,.v (vI q1.i))],fun _=>[],fun q1=>a≤q1.i∧q1.i≤(l.length:Int)∧q1.i+((upL 0 q1.n (List.drop (q1.i.toNat) l):Nat):Int)=a+((upL 0 0 (List.drop (a.toNat) l):Nat):Int)∧a-q1.i≤q1.n∧q1.n≤q1.i-a,fun q1=>l.length-q1.i.toNat⟩
theorem Auo (l:List Ev) (a:Int) (hp1:l.length≤Ba) (hp2:(0:Int)≤a∧a≤(l.length:Int)):Fun Tryz.prog 163 [.c (.seq .ev l),vI a] [] (.v (vI (a+((upL 0 0 (List.drop (a.toNat) l):Nat):Int)))) []:=by
 have hN:Ba=274877906944:=rfl
 refine Av Tryz.func163 Q8 Q8 (w:=let z6:S:= .v (vI (a+((upL 0 0 (List.drop (a.toNat) l):Nat):Int)));let z7:=Ab4 l a;(.seg [.at 0,.keep [0,5,6],.sel []] (.loop z7 fun q1=>let z1:S:= .v (vI (q1.i+1));.br (.intro (Sx (l[q1.i.toNat]?)) fun x1=> .seg [.el .ev x1] (.br (.seg [.br true,.as 23 (.v (vI (q1.n+1)))] (.br (.leaf () []) (.seg [.as 13 z1,.at 0,.keep [0,5,6],.sel []] (.next)))) (.br (.seg [.as 23 (.v (vI (q1.n+1)))] (.br (.leaf () []) (.seg [.as 13 z1,.at 0,.keep [0,5,6],.sel []] (.next)))) (.br (.seg [.br true,.as 28 (.v (vI (q1.n-1)))] (.br (.leaf () []) (.seg [.as 13 z1,.at 0,.keep [0,5,6],.sel []] (.next)))) (.br (.seg [.as 28 (.v (vI (q1.n-1)))] (.br (.leaf () []) (.seg [.as 13 z1,.at 0,.keep [0,5,6],.sel []] (.next)))) (.br (.leaf () []) (.seg [.as 13 z1,.at 0,.keep [0,5,6],.sel []] (.next)))))))) (.leaf () [])),z7.Has [(0,.v (.c (.seq .ev l))),(5,.v (vI 0)),(6,.v (vI a))] []∧∀q1,z7.inv q1→(let z2:=Lf (.v (vI q1.i)) z6 [] [];let z5:=q1.i+1;let z3:=(wI z5)∧z7.Nxt q1 [(0,.v (.c (.seq .ev l))),(5,.v (vI (q1.n+1))),(6,.v (vI z5))] [];let z4:=(wI z5)∧z7.Nxt q1 [(0,.v (.c (.seq .ev l))),(5,.v (vI (q1.n-1))),(6,.v (vI z5))] [];Bc (decide (q1.i<(l.length:Int))) (El (l[q1.i.toNat]?) fun x1=>((l[q1.i.toNat]? =some x1)∧((0:Int)≤q1.i)∧Bc (decide (x1.kind=6)) (((decide (x1.kind=6))=true)∧(wI (q1.n+1))∧Bc (decide (q1.n+1=0)) z2 z3) (Bc (decide (x1.kind=3)) ((wI (q1.n+1))∧Bc (decide (q1.n+1=0)) z2 z3) (Bc (decide (x1.kind=7)) (((decide (x1.kind=7))=true)∧(wI (q1.n-1))∧Bc (decide (q1.n-1=0)) z2 z4) (Bc (decide (x1.kind=5)) ((wI (q1.n-1))∧Bc (decide (q1.n-1=0)) z2 z4) (Bc (decide (q1.n=0)) z2 ((wI z5)∧z7.Nxt q1 [(0,.v (.c (.seq .ev l))),(5,.v (vI q1.n)),(6,.v (vI z5))] []))))))) (Lf (.v (vI (l.length:Int))) z6 [] [])))) Q8 ?_
 refine⟨Bv (j:=(⟨0,a⟩:Rx)) rfl rfl (by dsimp only[Ab4];exact⟨by omega,by omega,rfl,by omega,by omega⟩),fun (q1:Rx) hq_q1=>?_⟩
 have hi_q1:a≤q1.i∧q1.i≤(l.length:Int)∧q1.i+((upL 0 q1.n (List.drop (q1.i.toNat) l):Nat):Int)=a+((upL 0 0 (List.drop (a.toNat) l):Nat):Int)∧a-q1.i≤q1.n∧q1.n≤q1.i-a:=hq_q1
 obtain ⟨v1,v2,v3,v4,v5⟩:=hi_q1
 refine dsp (fun h1 p1=>?_) fun h1 p1=>?_
 refine⟨(A8 (l:=l) (i:=q1.i.toNat) Q5),fun x1 hx1=>?_⟩
 rw[C5 hx1,Aok] at v3
 have ei:Int.toNat (q1.i+1)=q1.i.toNat+1:=by omega
 refine⟨hx1,Q5,dsp (fun h2 p2=>?_) fun h2 p2=>?_⟩
 refine⟨h2,(Ac Q5 Q5),dsp (fun h3 p3=>?_) fun h3 p3=>?_⟩
 exact⟨(congrArg S.v (congrArg V.c (congrArg (C.int .i64) (by grind[dl,upL])))),rfl⟩
 exact⟨(Ac Q5 Q5),Ay (j:=(⟨q1.n+1,q1.i+1⟩:Rx)) rfl rfl Q56 Q95⟩
 refine dsp (fun h3 p3=>?_) fun h3 p3=>?_
 refine⟨(Ac Q5 Q5),dsp (fun h4 p4=>?_) fun h4 p4=>?_⟩
 exact⟨(congrArg S.v (congrArg V.c (congrArg (C.int .i64) (by grind[dl,upL])))),rfl⟩
 exact⟨(Ac Q5 Q5),Ay (j:=(⟨q1.n+1,q1.i+1⟩:Rx)) rfl rfl Q56 Q95⟩
 refine dsp (fun h4 p4=>?_) fun h4 p4=>?_
 refine⟨h4,(Ac Q5 Q5),dsp (fun h5 p5=>?_) fun h5 p5=>?_⟩
 exact⟨(congrArg S.v (congrArg V.c (congrArg (C.int .i64) (by grind[dl,upL])))),rfl⟩
 exact⟨(Ac Q5 Q5),Ay (j:=(⟨q1.n-1,q1.i+1⟩:Rx)) rfl rfl Q56 Q95⟩
 refine dsp (fun h5 p5=>?_) fun h5 p5=>?_
 refine⟨(Ac Q5 Q5),dsp (fun h6 p6=>?_) fun h6 p6=>?_⟩
 exact⟨(congrArg S.v (congrArg V.c (congrArg (C.int .i64) (by grind[dl,upL])))),rfl⟩
 exact⟨(Ac Q5 Q5),Ay (j:=(⟨q1.n-1,q1.i+1⟩:Rx)) rfl rfl Q56 Q95⟩
 refine dsp (fun h6 p6=>?_) fun h6 p6=>?_
 exact⟨(congrArg S.v (congrArg V.c (congrArg (C.int .i64) (by grind[dl,upL])))),rfl⟩
 exact⟨(Ac Q5 Q5),Ay (j:=(⟨q1.n,q1.i+1⟩:Rx)) rfl rfl Q56 Q95⟩
 rw[List.drop_eq_nil_of_le (by omega)] at v3
 exact⟨(congrArg S.v (congrArg V.c (congrArg (C.int .i64) (by grind[dl,upL])))),rfl⟩
structure My where
 out:List Int
 i:Nat
def Mz (l:List Ev):Fam:=⟨My,fun q1=>[(0,.v (.c (.seq .ev l))),(3,.v (vO 0)),(4,.v (vI (q1.i:Int)))],fun q1=>[.lst .u8 q1.out],fun q1=>q1.i≤l.length∧List.map A5 q1.out++Dt (List.drop q1.i l)=Dt l,fun q1=>l.length-q1.i⟩
theorem Adt (l:List Ev) (hp1:l.length≤Ba) (hp2:List.length (Dt l)≤Ba):Fun Tryz.prog 166 [.c (.seq .ev l)] [] (.v (vT (Dt l))) []:=by
 have hN:Ba=274877906944:=rfl
 refine Av Tryz.func166 Q8 Q8 (w:=let z3:=Mz l;(.seg [.ty .u8,.at 0,.keep [0,3,4],.sel [0]] (.loop z3 fun q1=> .br (.intro (Sx (l[q1.i]?)) fun x1=> .seg [.el .ev x1,.ty .u8,.as 11 (.v (vI ((q1.i:Int)+1))),.at 0,.keep [0,3,4],.sel [1]] (.next)) (.leaf () [])),z3.Has [(0,.v (.c (.seq .ev l))),(3,.v (vO 0)),(4,.v (vI 0))] [.lst .u8 ([]:List Int)]∧∀q1,z3.inv q1→(let z2:=(q1.i:Int);Bc (decide (z2<(l.length:Int))) (El (l[q1.i]?) fun x1=>(let z1:=List.map (fun b=>(UInt8.toNat b:Int)) x1.text;(l[q1.i]? =some x1)∧((0:Int)≤z2)∧(q1.out.length+z1.length≤Ba)∧(wI (z2+1))∧z3.Nxt q1 [(0,.v (.c (.seq .ev l))),(3,.v (vO 0)),(4,.v (vI (z2+1)))] [.lst .u8 (q1.out++z1)])) (Lf (.v (vT (List.map A5 q1.out))) (.v (vT (Dt l))) [] [])))) Q8 ?_
 refine⟨Bv (j:=(⟨([]:List Int),0⟩:My)) Q12 rfl (by dsimp only[Mz];exact⟨by omega,rfl⟩),fun (q1:My) hq_q1=>?_⟩
 have hi_q1:q1.i≤l.length∧List.map A5 q1.out++Dt (List.drop q1.i l)=Dt l:=hq_q1
 obtain ⟨v1,v2⟩:=hi_q1
 have vl:=congrArg List.length v2
 simp only[List.length_append,List.length_map] at vl
 refine dsp (fun h1 p1=>?_) fun h1 p1=>?_
 refine⟨(A8 (l:=l) (i:=q1.i) Q5),fun x1 hx1=>?_⟩
 rw[C5 hx1,Aa1] at v2 vl
 simp only[List.length_append] at vl
 exact⟨hx1,Q5,Q23,(Ac Q5 Q5),Ay (j:=(⟨q1.out++(List.map (fun b=>(UInt8.toNat b:Int)) x1.text),q1.i+1⟩:My)) Q12 rfl (by dsimp only[Mz];exact⟨by omega,by simp only[List.map_append,No,List.append_assoc];exact v2⟩) (by dsimp only[Mz];omega)⟩
 rw[E2 p1] at v2
 refine⟨(congrArg S.v (congrArg V.c (congrArg C.str ?_))),rfl⟩
 rotate_left
 all_goals first|(simpa [Dt] using v2)
theorem Xf (n:Int) (w:Int):Fun Tryz.prog 227 [vI n,vI w] [] (.v (vT (Er n w))) []:=by
 have hN:Ba=274877906944:=rfl
 have htb:=Au n w
 refine Av Tryz.func227 Q8 Q8 (w:=let z1:S:= .v (vT (A9 (Bo n w)));let z2:S:= .v (.c (.int .u64 (Bo n w)));(.seg [.call [] z2 [],.call [] z1 []] (.leaf () []),(Fp 176 [vI n,vI w] [] z2 [])∧(Fp 107 [.c (.int .u64 (Bo n w))] [] z1 [])∧Lf z1 (.v (vT (Er n w))) [] [])) Q8 ?_
 exact⟨(B0 _ _),(N5 _ Q5),(congrArg S.v (congrArg V.c (congrArg C.str (by rfl)))),rfl⟩
theorem Aij (f:Fld) (u:Int) (hp1:(0:Int)≤u∧u≤18446744073709551615):Fun Tryz.prog 226 [.agg (Dd f),.c (.int .u64 u)] [] (.v (vT (Eo f u))) []:=by
 have hN:Ba=274877906944:=rfl
 refine Av Tryz.func226 Q8 Q8 (w:=let z2:=A3 f.kind;let z1:=Az z2;let z3:S:= .v (vT (Fy u z1));let z4:S:= .v (vT (A9 u));(.seg [.call [] (.v (vI z2)) [],.call [] (.v (vI z1)) []] (.br (.seg [.call [] z3 []] (.leaf () [])) (.seg [.call [] z4 []] (.leaf () []))),(Fp 178 [vI f.kind] [] (.v (vI z2)) [])∧(Fp 177 [vI z2] [] (.v (vI z1)) [])∧Bc (decide (0<Az z2)) ((Fp 271 [.c (.int .u64 u),vI z1] [] z3 [])∧Lf z3 (.v (vT (Eo f u))) [] []) ((Fp 107 [.c (.int .u64 u)] [] z4 [])∧Lf z4 (.v (vT (Eo f u))) [] []))) Q8 ?_
 refine⟨(Ji _),(Ex _),dsp (fun h1 p1=>?_) fun h1 p1=>?_⟩
 refine⟨(Anr _ _ Q5),(congrArg S.v (congrArg V.c (congrArg C.str ?_))),rfl⟩
 rotate_left
 refine⟨(N5 _ Q5),(congrArg S.v (congrArg V.c (congrArg C.str ?_))),rfl⟩
 rotate_left
 all_goals first|(simp_all[Eo];done)|(grind[Eo])
structure P3 where
 n:Int
def P4 (f:Fld) (l:List Ev) (a:Int):Fam:=⟨P3,fun q1=>[(1,.v (.c (.seq .ev l))),(2,.v (vI a)),(3,.v (vP 0)),(7,.v (vI q1.n))],fun _=>[.cells (Dd f)],fun q1=>1≤q1.n∧a+q1.n≤(l.length:Int)∧q1.n+(((if f.packed then Km f (List.drop (Int.toNat (a+q1.n)) l) else 0):Nat):Int)=((Bt f (List.drop (a.toNat) l):Nat):Int),fun q1=>l.length-q1.n.toNat⟩
theorem Agy (f:Fld) (l:List Ev) (a:Int) (hp1:l.length≤Ba) (hp2:(0:Int)≤a∧a<(l.length:Int)):Fun Tryz.prog 164 [.agg (Dd f),.c (.seq .ev l),vI a] [] (.v (vI ((Bt f (List.drop (a.toNat) l):Nat):Int))) []:=by
 have hN:Ba=274877906944:=rfl
 refine Av Tryz.func164 Q8 Q8 (w:=let z8:S:= .v (vI ((Bt f (List.drop (a.toNat) l):Nat):Int));let z9:=P4 f l a;(.seg [.at 0,.keep [1,2,3,7],.sel [0]] (.loop z9 fun q1=>let z3:S:= .v (vI (a+q1.n));.case f.packed (.case (decide (a+q1.n<(l.length:Int))) (.intro (Sx (l[Int.toNat (a+q1.n)]?)) fun x1=> .case (decide (x1.kind=2)) (.seg [.ord (os 32 []) [],.br true,.as 13 z3,.br true,.as 22 z3,.el .ev x1,.br true,.as 32 z3,.el .ev x1] (.br (.seg [.as 41 (.v (vI (q1.n+1))),.at 0,.keep [1,2,3,7],.sel [0]] (.next)) (.leaf () []))) (.seg [.ord (os 32 []) [],.br true,.as 13 z3,.br true,.as 22 z3,.el .ev x1,.br false] (.leaf () []))) (.seg [.ord (os 32 []) [],.br true,.as 13 z3,.br false] (.leaf () []))) (.seg [.ord (os 32 []) [],.br false] (.leaf () []))),z9.Has [(1,.v (.c (.seq .ev l))),(2,.v (vI a)),(3,.v (vP 0)),(7,.v (vI 1))] [.cells (Dd f)]∧∀q1,z9.inv q1→(let z4:=decide (a+q1.n<(l.length:Int));let z5:=wI (a+q1.n);let z6:=(0:Int)≤a+q1.n;let z7:S:= .v (vI q1.n);Bc f.packed (Bc z4 (El (l[Int.toNat (a+q1.n)]?) fun x1=>(let z1:=l[Int.toNat (a+q1.n)]? =some x1;let z2:=decide (x1.kind=2);Bc z2 ((f.packed=true)∧z5∧z5∧(z4=true)∧z5∧z5∧z1∧z6∧z1∧z6∧(z2=true)∧z5∧z5∧z1∧z6∧z1∧z6∧Bc (decide (x1.field=f.number)) ((wI (q1.n+1))∧z9.Nxt q1 [(1,.v (.c (.seq .ev l))),(2,.v (vI a)),(3,.v (vP 0)),(7,.v (vI (q1.n+1)))] [.cells (Dd f)]) (Lf z7 z8 [] [])) ((f.packed=true)∧z5∧z5∧(z4=true)∧z5∧z5∧z1∧z6∧z1∧z6∧(z2=false)∧Lf z7 z8 [] []))) ((f.packed=true)∧z5∧z5∧(z4=false)∧Lf z7 z8 [] [])) ((f.packed=false)∧Lf z7 z8 [] [])))) Q8 ?_
 refine⟨Bv (j:=(⟨1⟩:P3)) rfl rfl (by dsimp only[P4];exact⟨by omega,by omega,by unfold Bt;rw[List.drop_drop,show Int.toNat (a+1)=a.toNat+1 by omega];omega⟩),fun (q1:P3) hq_q1=>?_⟩
 have hi_q1:1≤q1.n∧a+q1.n≤(l.length:Int)∧q1.n+(((if f.packed then Km f (List.drop (Int.toNat (a+q1.n)) l) else 0):Nat):Int)=((Bt f (List.drop (a.toNat) l):Nat):Int):=hq_q1
 obtain ⟨v1,v2,v3⟩:=hi_q1
 refine⟨fun h1=>?_,fun h1=>?_⟩
 refine dsp (fun h2 p2=>?_) fun h2 p2=>?_
 refine⟨(A8 (l:=l) (i:=Int.toNat (a+q1.n)) Q5),fun x1 hx1=>?_⟩
 rw[C5 hx1,Ak4] at v3
 have ei:Int.toNat (a+(q1.n+1))=Int.toNat (a+q1.n)+1:=by omega
 refine dsp (fun h3 p3=>?_) fun h3 p3=>?_
 refine⟨h1,(Ac Q5 Q5),(Ac Q5 Q5),h2,(Ac Q5 Q5),(Ac Q5 Q5),hx1,Q5,hx1,Q5,h3,(Ac Q5 Q5),(Ac Q5 Q5),hx1,Q5,hx1,Q5,dsp (fun h4 p4=>?_) fun h4 p4=>?_⟩
 exact⟨(Ac Q5 Q5),Ay (j:=(⟨q1.n+1⟩:P3)) rfl rfl (by dsimp only[P4];exact⟨by omega,by omega,by grind[Vw]⟩) (by dsimp only[P4];omega)⟩
 refine⟨(sI ?_),rfl⟩
 rotate_left
 refine⟨h1,(Ac Q5 Q5),(Ac Q5 Q5),h2,(Ac Q5 Q5),(Ac Q5 Q5),hx1,Q5,hx1,Q5,h3,(sI ?_),rfl⟩
 rotate_left
 rw[List.drop_eq_nil_of_le (by omega)] at v3
 refine⟨h1,(Ac Q5 Q5),(Ac Q5 Q5),h2,(sI ?_),rfl⟩
 rotate_left
 refine⟨h1,(sI ?_),rfl⟩
 rotate_left
 all_goals first|(grind[Vw,Km])
structure Ju where
 out:List Int
 i:Nat
def Jv (f:Fld) (l:List Ev):Fam:=⟨Ju,fun q1=>[(1,.v (.c (.seq .ev l))),(2,.v (vP 0)),(5,.v (vO 1)),(6,.v (vI (q1.i:Int)))],fun q1=>[.cells (Dd f),.lst .u8 q1.out],fun q1=>q1.i≤l.length∧List.map A5 q1.out++C4 f (List.drop q1.i l)=C4 f l,fun q1=>l.length-q1.i⟩
theorem Y2 (f:Fld) (l:List Ev) (hp1:l.length≤Ba) (hp2: ∀e∈l,EvB e) (hp3:List.length (C4 f l)≤Ba):Fun Tryz.prog 165 [.agg (Dd f),.c (.seq .ev l)] [] (.v (vT (C4 f l))) []:=by
 have hN:Ba=274877906944:=rfl
 refine Av Tryz.func165 Q8 Q8 (w:=let z3:=Jv f l;(.seg [.ty .u8,.at 0,.keep [1,2,5,6],.sel [0,1]] (.loop z3 fun q1=> .br (.intro (Sx (l[q1.i]?)) fun x1=> .seg [.tree (fr (.one 7 (.one 8 (.first 9 (.done)))) 0 7) 8 [],.el .ev x1,.call [] (.v (vT (Eo f x1.bits))) [],.ty .u8,.as 13 (.v (vI ((q1.i:Int)+1))),.at 0,.keep [1,2,5,6],.sel [0,2]] (.next)) (.leaf () [])),z3.Has [(1,.v (.c (.seq .ev l))),(2,.v (vP 0)),(5,.v (vO 1)),(6,.v (vI 0))] [.cells (Dd f),.lst .u8 ([]:List Int)]∧∀q1,z3.inv q1→(let z2:=(q1.i:Int);Bc (decide (z2<(l.length:Int))) (El (l[q1.i]?) fun x1=>(let z1:=List.map (fun b=>(UInt8.toNat b:Int)) (Eo f x1.bits);(l[q1.i]? =some x1)∧((0:Int)≤z2)∧(l[q1.i]? =some x1)∧((0:Int)≤z2)∧(Fp 226 [.agg (Dd f),.c (.int .u64 x1.bits)] [] (.v (vT (Eo f x1.bits))) [])∧(q1.out.length+z1.length≤Ba)∧(wI (z2+1))∧z3.Nxt q1 [(1,.v (.c (.seq .ev l))),(2,.v (vP 0)),(5,.v (vO 1)),(6,.v (vI (z2+1)))] [.cells (Dd f),.lst .u8 (q1.out++z1)])) (Lf (.v (vT (List.map A5 q1.out))) (.v (vT (C4 f l))) [] [])))) Q8 ?_
 refine⟨Bv (j:=(⟨([]:List Int),0⟩:Ju)) Q12 rfl (by dsimp only[Jv];exact⟨by omega,rfl⟩),fun (q1:Ju) hq_q1=>?_⟩
 have hi_q1:q1.i≤l.length∧List.map A5 q1.out++C4 f (List.drop q1.i l)=C4 f l:=hq_q1
 obtain ⟨v1,v2⟩:=hi_q1
 have vl:=congrArg List.length v2
 simp only[List.length_append,List.length_map] at vl
 refine dsp (fun h1 p1=>?_) fun h1 p1=>?_
 refine⟨(A8 (l:=l) (i:=q1.i) Q5),fun x1 hx1=>?_⟩
 have hbu:=(hp2 x1 (List.mem_of_getElem? hx1)).2
 rw[C5 hx1,Aa0] at v2 vl
 simp only[List.length_append] at vl
 exact⟨hx1,Q5,hx1,Q5,(Aij f _ Q5),Q23,(Ac Q5 Q5),Ay (j:=(⟨q1.out++(List.map (fun b=>(UInt8.toNat b:Int)) (Eo f x1.bits)),q1.i+1⟩:Ju)) Q12 rfl (by dsimp only[Jv];exact⟨by omega,by simp only[List.map_append,No,List.append_assoc];exact v2⟩) (by dsimp only[Jv];omega)⟩
 rw[E2 p1] at v2
 refine⟨(congrArg S.v (congrArg V.c (congrArg C.str ?_))),rfl⟩
 rotate_left
 all_goals first|(simpa [C4] using v2)
theorem Arr {f:Fld} {l:List Ev} (h:f.packed=true):Gi f l=Er f.number 2++A1 (C4 f (l.take (Bt f l))):=by unfold Gi;rw[if_pos h]
theorem Ars {f:Fld} {l:List Ev} (h:f.packed=false):Gi f l=Er f.number (A3 f.kind)++C4 f (l.take (Bt f l)):=by unfold Gi;rw[if_neg (by simp[h])]
theorem Aa4 (b:List UInt8):b.length≤(A1 b).length:=by unfold A1;rw[List.length_append];omega
def Atk (K:Nat):Prop:= ∀(p:Pln) (shape:Int) (l:List Ev) (hp1:Bd p shape l) (hp2:EvsB l) (hp3:B3 p=true) (hp4:l.length<K),Fun Tryz.prog 167 [.agg (Cd p),vI shape,.c (.seq .ev l)] [] (.v (vT (mT p shape l))) []
structure L7 where
 out:List Int
 i:Int
def L8 (p:Pln) (shape:Int) (l:List Ev):Fam:=⟨L7,fun q1=>[(1,.v (vI shape)),(2,.v (.c (.seq .ev l))),(3,.v (vP 0)),(7,.v (vO 1)),(8,.v (vI q1.i))],fun q1=>[.cells (Cd p),.lst .u8 q1.out],fun q1=>SInv p shape l q1.i (List.map A5 q1.out),fun q1=>l.length-q1.i.toNat⟩
theorem Atm (K:Nat) (hM:Atk K) (p:Pln) (shape:Int) (l:List Ev) (hp1:Bd p shape l) (hp2:EvsB l) (hp3:B3 p=true) (hp4:l.length≤K):Fun Tryz.prog 167 [.agg (Cd p),vI shape,.c (.seq .ev l)] [] (.v (vT (mT p shape l))) []:=by
 have hN:Ba=274877906944:=rfl
 have hvl:=hp2.1
 have hpt:=C6 hp3
 refine Av Tryz.func167 Q8 Q8 (w:=let z18:=L8 p shape l;let z19:=(l.length:Int);(.seg [.ty .u8,.at 0,.keep [1,2,3,7,8],.sel [0,1]] (.loop z18 fun q1=>let z6:=List.drop (q1.i.toNat) l;let z7:=q1.i+((upL 0 0 z6:Nat):Int);let z5:=List.drop (Int.toNat (q1.i+1)) (List.take (z7.toNat) l);let z8:S:= .v (vI (q1.i+((upL 0 0 z6:Nat):Int)+1));.br (.intro (Sx (l[q1.i.toNat]?)) fun x1=>let z2:=fieldAt p.shapes shape x1.field;let z1:=z2.getD fld0;.seg [.el .ev x1,.call [] (.tup [.agg (Dd z1),vB z2.isSome]) []] (.br (.seg [.call [] (.v (vI ((Bt z1 z6:Nat):Int))) [],.ord (os 9 [7]) [],.as 61 (.v (vI (q1.i+((Bt z1 z6:Nat):Int)))),.call [] (.v (vT (C4 z1 (List.drop (q1.i.toNat) (List.take (Int.toNat (q1.i+((Bt z1 z6:Nat):Int))) l))))) [],.as 66 (.v (vI (q1.i+((Bt z1 z6:Nat):Int))))] (.br (.seg [.ord [(0,true),(1,true),(2,true),(3,true),(4,true),(8,true),(5,false),(6,false),(7,false),(9,false),(10,true)] [1],.call [] (.v (vI (A3 z1.kind))) [],.call [] (.v (vT (Er z1.number (A3 z1.kind)))) [],.ty .u8,.ty .u8,.at 0,.keep [1,2,3,7,8],.sel [0,5]] (.next)) (.seg [.call [] (.v (vT (Er z1.number 2))) [],.ty .u8,.call [] (.v (vT (A1 (C4 z1 (List.drop (q1.i.toNat) (List.take (Int.toNat (q1.i+((Bt z1 z6:Nat):Int))) l)))))) [],.ty .u8,.at 0,.keep [1,2,3,7,8],.sel [0,5]] (.next)))) (.br (.seg [.call [] (.v (vI z7)) [],.as 87 (.v (vI (q1.i+1))),.call [] (.v (vT (Dt z5))) [],.as 92 z8,.call [] (.v (vT (Er z1.number 2))) [],.ty .u8,.call [] (.v (vT (A1 (Dt z5)))) [],.ty .u8,.at 0,.keep [1,2,3,7,8],.sel [0,5]] (.next)) (.seg [.call [] (.v (vI z7)) [],.ord (os 10 [8]) [],.as 44 (.v (vI (q1.i+1))),.call [] (.v (vT (mT p z1.msg z5))) [],.as 49 z8,.call [] (.v (vT (Er z1.number 2))) [],.ty .u8,.call [] (.v (vT (A1 (mT p z1.msg z5)))) [],.ty .u8,.at 0,.keep [1,2,3,7,8],.sel [0,5]] (.next))))) (.leaf () [])),z18.Has [(1,.v (vI shape)),(2,.v (.c (.seq .ev l))),(3,.v (vP 0)),(7,.v (vO 1)),(8,.v (vI 0))] [.cells (Cd p),.lst .u8 ([]:List Int)]∧∀q1,z18.inv q1→(let z14:=q1.i.toNat;let z10:=List.drop z14 l;let z11:=q1.i+((upL 0 0 z10:Nat):Int);let z9:=List.drop (Int.toNat (q1.i+1)) (List.take (z11.toNat) l);let z12:=q1.i+((upL 0 0 z10:Nat):Int)≤z19;let z13:=vI (q1.i+((upL 0 0 z10:Nat):Int)+1);let z15:=q1.i+1≤q1.i+((upL 0 0 z10:Nat):Int);let z16:=(0:Int)≤q1.i+1;let z17:=(0:Int)≤q1.i;Bc (decide (q1.i<z19)) (El (l[q1.i.toNat]?) fun x1=>(let z4:=fieldAt p.shapes shape x1.field;let z3:=z4.getD fld0;(l[q1.i.toNat]? =some x1)∧z17∧(Fp 129 [.agg [.seq .shp p.shapes],vI shape,vI x1.field] [] (.tup [.agg (Dd z3),vB z4.isSome]) [])∧Bc (decide (x1.kind=2)) ((Fp 164 [.agg (Dd z3),.c (.seq .ev l),vI q1.i] [] (.v (vI ((Bt z3 z10:Nat):Int))) [])∧(wI (q1.i+((Bt z3 z10:Nat):Int)))∧(wI (q1.i+((Bt z3 z10:Nat):Int)))∧(q1.i+((Bt z3 z10:Nat):Int)≤z19)∧(q1.i≤q1.i+((Bt z3 z10:Nat):Int))∧z17∧(q1.i+((Bt z3 z10:Nat):Int)≤z19)∧(q1.i≤q1.i+((Bt z3 z10:Nat):Int))∧z17∧(Fp 165 [.agg (Dd z3),.c (.seq .ev (List.drop z14 (List.take (Int.toNat (q1.i+((Bt z3 z10:Nat):Int))) l)))] [] (.v (vT (C4 z3 (List.drop z14 (List.take (Int.toNat (q1.i+((Bt z3 z10:Nat):Int))) l))))) [])∧(wI (q1.i+((Bt z3 z10:Nat):Int)))∧Bc (!z3.packed) ((Fp 178 [vI z3.kind] [] (.v (vI (A3 z3.kind))) [])∧(Fp 227 [vI z3.number,vI (A3 z3.kind)] [] (.v (vT (Er z3.number (A3 z3.kind)))) [])∧(q1.out.length+List.length (List.map (fun b=>(UInt8.toNat b:Int)) (Er z3.number (A3 z3.kind)))≤Ba)∧(List.length (q1.out++(List.map (fun b=>(UInt8.toNat b:Int)) (Er z3.number (A3 z3.kind))))+List.length (List.map (fun b=>(UInt8.toNat b:Int)) (C4 z3 (List.drop z14 (List.take (Int.toNat (q1.i+((Bt z3 z10:Nat):Int))) l))))≤Ba)∧z18.Nxt q1 [(1,.v (vI shape)),(2,.v (.c (.seq .ev l))),(3,.v (vP 0)),(7,.v (vO 1)),(8,.v (vI (q1.i+((Bt z3 z10:Nat):Int))))] [.cells (Cd p),.lst .u8 ((q1.out++(List.map (fun b=>(UInt8.toNat b:Int)) (Er z3.number (A3 z3.kind))))++(List.map (fun b=>(UInt8.toNat b:Int)) (C4 z3 (List.drop z14 (List.take (Int.toNat (q1.i+((Bt z3 z10:Nat):Int))) l)))))]) ((Fp 227 [vI z3.number,vI 2] [] (.v (vT (Er z3.number 2))) [])∧(q1.out.length+List.length (List.map (fun b=>(UInt8.toNat b:Int)) (Er z3.number 2))≤Ba)∧(Fp 55 [vT (C4 z3 (List.drop z14 (List.take (Int.toNat (q1.i+((Bt z3 z10:Nat):Int))) l)))] [] (.v (vT (A1 (C4 z3 (List.drop z14 (List.take (Int.toNat (q1.i+((Bt z3 z10:Nat):Int))) l)))))) [])∧(List.length (q1.out++(List.map (fun b=>(UInt8.toNat b:Int)) (Er z3.number 2)))+List.length (List.map (fun b=>(UInt8.toNat b:Int)) (A1 (C4 z3 (List.drop z14 (List.take (Int.toNat (q1.i+((Bt z3 z10:Nat):Int))) l)))))≤Ba)∧z18.Nxt q1 [(1,.v (vI shape)),(2,.v (.c (.seq .ev l))),(3,.v (vP 0)),(7,.v (vO 1)),(8,.v (vI (q1.i+((Bt z3 z10:Nat):Int))))] [.cells (Cd p),.lst .u8 ((q1.out++(List.map (fun b=>(UInt8.toNat b:Int)) (Er z3.number 2)))++(List.map (fun b=>(UInt8.toNat b:Int)) (A1 (C4 z3 (List.drop z14 (List.take (Int.toNat (q1.i+((Bt z3 z10:Nat):Int))) l))))))])) (Bc (decide (x1.kind=3)) ((Fp 163 [.c (.seq .ev l),vI q1.i] [] (.v (vI z11)) [])∧(wI (q1.i+1))∧z12∧z15∧z16∧(Fp 166 [.c (.seq .ev z9)] [] (.v (vT (Dt z9))) [])∧((.v (vI (IntKind.i64.wrap (z11+1))):S)= .v z13)∧(Fp 227 [vI z3.number,vI 2] [] (.v (vT (Er z3.number 2))) [])∧(q1.out.length+List.length (List.map (fun b=>(UInt8.toNat b:Int)) (Er z3.number 2))≤Ba)∧(Fp 55 [vT (Dt z9)] [] (.v (vT (A1 (Dt z9)))) [])∧(List.length (q1.out++(List.map (fun b=>(UInt8.toNat b:Int)) (Er z3.number 2)))+List.length (List.map (fun b=>(UInt8.toNat b:Int)) (A1 (Dt z9)))≤Ba)∧z18.Nxt q1 [(1,.v (vI shape)),(2,.v (.c (.seq .ev l))),(3,.v (vP 0)),(7,.v (vO 1)),(8,.v z13)] [.cells (Cd p),.lst .u8 ((q1.out++(List.map (fun b=>(UInt8.toNat b:Int)) (Er z3.number 2)))++(List.map (fun b=>(UInt8.toNat b:Int)) (A1 (Dt z9))))]) ((Fp 163 [.c (.seq .ev l),vI q1.i] [] (.v (vI z11)) [])∧(wI (q1.i+1))∧(wI (q1.i+1))∧z12∧z15∧z16∧z12∧z15∧z16∧(Fp 167 [.agg (Cd p),vI z3.msg,.c (.seq .ev z9)] [] (.v (vT (mT p z3.msg z9))) [])∧((.v (vI (IntKind.i64.wrap (z11+1))):S)= .v z13)∧(Fp 227 [vI z3.number,vI 2] [] (.v (vT (Er z3.number 2))) [])∧(q1.out.length+List.length (List.map (fun b=>(UInt8.toNat b:Int)) (Er z3.number 2))≤Ba)∧(Fp 55 [vT (mT p z3.msg z9)] [] (.v (vT (A1 (mT p z3.msg z9)))) [])∧(List.length (q1.out++(List.map (fun b=>(UInt8.toNat b:Int)) (Er z3.number 2)))+List.length (List.map (fun b=>(UInt8.toNat b:Int)) (A1 (mT p z3.msg z9)))≤Ba)∧z18.Nxt q1 [(1,.v (vI shape)),(2,.v (.c (.seq .ev l))),(3,.v (vP 0)),(7,.v (vO 1)),(8,.v z13)] [.cells (Cd p),.lst .u8 ((q1.out++(List.map (fun b=>(UInt8.toNat b:Int)) (Er z3.number 2)))++(List.map (fun b=>(UInt8.toNat b:Int)) (A1 (mT p z3.msg z9))))])))) (Lf (.v (vT (List.map A5 q1.out))) (.v (vT (mT p shape l))) [] [])))) Q8 ?_
 refine⟨Bv (j:=(⟨([]:List Int),0⟩:L7)) rfl rfl (by dsimp only[L8];exact SInv.refl hp1),fun (q1:L7) hq_q1=>?_⟩
 have hi_q1:SInv p shape l q1.i (List.map A5 q1.out):=hq_q1
 have hlo:=hi_q1.lo
 have hhi:=hi_q1.hi
 have hso:=hi_q1.small hp1 hp2
 simp only[List.length_map] at hso
 refine dsp (fun h1 p1=>?_) fun h1 p1=>?_
 refine⟨(A8 (l:=l) (i:=q1.i.toNat) Q5),fun x1 hx1=>?_⟩
 refine⟨hx1,Q5,(Rf p.shapes _ _ Q5 (Cy hpt.2.1)),dsp (fun h2 p2=>?_) fun h2 p2=>?_⟩
 obtain ⟨f,hf,g1,g2,g3⟩:=hi_q1.num hx1 p2
 have hff:((fieldAt p.shapes shape x1.field).getD fld0)=f:=by rw[hf];rfl
 subst hff
 have hsm:=g3.small hp1 hp2
 have hev:EvsB (List.drop (q1.i.toNat) l):=hp2.drop _
 have hnv:=Yu (f:=((fieldAt p.shapes shape x1.field).getD fld0)) (l:=List.drop (q1.i.toNat) l) (by rw[List.length_drop];omega) hev.1 hev.2.2
 have hcut:List.drop (q1.i.toNat) (List.take (Int.toNat (q1.i+((Bt ((fieldAt p.shapes shape x1.field).getD fld0) (List.drop (q1.i.toNat) l):Nat):Int))) l)=List.take (Bt ((fieldAt p.shapes shape x1.field).getD fld0) (List.drop (q1.i.toNat) l)) (List.drop (q1.i.toNat) l):=by rw[Pz];congr 1;omega
 rw[←hcut] at hnv
 have hev2:=((hp2.take (Int.toNat (q1.i+((Bt ((fieldAt p.shapes shape x1.field).getD fld0) (List.drop (q1.i.toNat) l):Nat):Int)))).drop (q1.i.toNat))
 refine⟨(Agy ((fieldAt p.shapes shape x1.field).getD fld0) _ _ Q5 Q5),(Ac Q5 Q5),(Ac Q5 Q5),Q74,Q5,Q5,Q74,Q5,Q5,(Y2 ((fieldAt p.shapes shape x1.field).getD fld0) _ Q46 (hev2.2.2) Q46),(Ac Q5 Q5),fun h3=>have q3:=Ar h3;?_,fun h3=>have q3:=Ao h3;?_⟩
 have hpk:((fieldAt p.shapes shape x1.field).getD fld0).packed=false:=q3
 have hnm:=Ars (l:=List.drop (q1.i.toNat) l) hpk
 rw[←hcut] at hnm
 rw[hnm] at g3 hsm
 simp only[List.length_append,List.length_map] at hsm
 exact⟨(Ji _),(Xf _ _),Q23,Q60,Ay (j:=(⟨(q1.out++(List.map (fun b=>(UInt8.toNat b:Int)) (Er ((fieldAt p.shapes shape x1.field).getD fld0).number (A3 ((fieldAt p.shapes shape x1.field).getD fld0).kind))))++(List.map (fun b=>(UInt8.toNat b:Int)) (C4 ((fieldAt p.shapes shape x1.field).getD fld0) (List.drop (q1.i.toNat) (List.take (Int.toNat (q1.i+((Bt ((fieldAt p.shapes shape x1.field).getD fld0) (List.drop (q1.i.toNat) l):Nat):Int))) l)))),_⟩:L7)) rfl rfl Q47 (by dsimp only[L8];omega)⟩
 have hpk:((fieldAt p.shapes shape x1.field).getD fld0).packed=true:=q3
 have hnm:=Arr (l:=List.drop (q1.i.toNat) l) hpk
 rw[←hcut] at hnm
 rw[hnm] at g3 hsm
 simp only[List.length_append,List.length_map] at hsm
 exact⟨(Xf _ _),Q23,(Rc _ Q46),Q60,Ay (j:=(⟨(q1.out++(List.map (fun b=>(UInt8.toNat b:Int)) (Er ((fieldAt p.shapes shape x1.field).getD fld0).number 2)))++(List.map (fun b=>(UInt8.toNat b:Int)) (A1 (C4 ((fieldAt p.shapes shape x1.field).getD fld0) (List.drop (q1.i.toNat) (List.take (Int.toNat (q1.i+((Bt ((fieldAt p.shapes shape x1.field).getD fld0) (List.drop (q1.i.toNat) l):Nat):Int))) l))))),_⟩:L7)) rfl rfl Q47 (by dsimp only[L8];omega)⟩
 refine dsp (fun h3 p3=>?_) fun h3 p3=>?_
 obtain ⟨f,hf,g1,g2,g3⟩:=hi_q1.text hx1 p3 rfl
 have hff:((fieldAt p.shapes shape x1.field).getD fld0)=f:=by rw[hf];rfl
 subst hff
 have hsm:=g3.small hp1 hp2
 simp only[List.length_append,List.length_map] at hsm
 have hge:=Aa4 (Dt (List.drop (Int.toNat (q1.i+1)) (List.take (Int.toNat (q1.i+((upL 0 0 (List.drop (q1.i.toNat) l):Nat):Int))) l)))
 exact⟨(Auo _ _ Q5 Q5),(Ac Q5 Q5),Q74,Q5,Q5,(Adt _ Q46 Q46),(Ac Q5 Q5),(Xf _ _),Q23,(Rc _ Q46),Q60,Ay (j:=(⟨(q1.out++(List.map (fun b=>(UInt8.toNat b:Int)) (Er ((fieldAt p.shapes shape x1.field).getD fld0).number 2)))++(List.map (fun b=>(UInt8.toNat b:Int)) (A1 (Dt (List.drop (Int.toNat (q1.i+1)) (List.take (Int.toNat (q1.i+((upL 0 0 (List.drop (q1.i.toNat) l):Nat):Int))) l))))),_⟩:L7)) rfl rfl Q47 (by dsimp only[L8];omega)⟩
 obtain ⟨f,hf,g1,g2,g3,g4,g5⟩:=hi_q1.down hx1 p2 p3 rfl
 have hff:((fieldAt p.shapes shape x1.field).getD fld0)=f:=by rw[hf];rfl
 subst hff
 have hsm:=g5.small hp1 hp2
 simp only[List.length_append,List.length_map] at hsm
 have hge:=Aa4 (mT p ((fieldAt p.shapes shape x1.field).getD fld0).msg (List.drop (Int.toNat (q1.i+1)) (List.take (Int.toNat (q1.i+((upL 0 0 (List.drop (q1.i.toNat) l):Nat):Int))) l)))
 exact⟨(Auo _ _ Q5 Q5),(Ac Q5 Q5),(Ac Q5 Q5),Q74,Q5,Q5,Q74,Q5,Q5,(hM p _ _ (g3) ((hp2.take _).drop _) (hp3) Q46),(Ac Q5 Q5),(Xf _ _),Q23,(Rc _ Q46),Q60,Ay (j:=(⟨(q1.out++(List.map (fun b=>(UInt8.toNat b:Int)) (Er ((fieldAt p.shapes shape x1.field).getD fld0).number 2)))++(List.map (fun b=>(UInt8.toNat b:Int)) (A1 (mT p ((fieldAt p.shapes shape x1.field).getD fld0).msg (List.drop (Int.toNat (q1.i+1)) (List.take (Int.toNat (q1.i+((upL 0 0 (List.drop (q1.i.toNat) l):Nat):Int))) l))))),_⟩:L7)) rfl rfl Q47 (by dsimp only[L8];omega)⟩
 have hst:=hi_q1.end_ p1
 exact⟨(congrArg S.v (congrArg V.c (congrArg C.str (by first|(exact hst))))),rfl⟩
theorem Adu: ∀K,Atk K
 |0=>fun p shape l hp1 hp2 hp3 hp4=>absurd hp4 (Nat.not_lt_zero _)
 |K+1=>fun p shape l hp1 hp2 hp3 hp4=>Atm K (Adu K) p shape l hp1 hp2 hp3 (Nat.le_of_lt_succ hp4)
theorem Ap8 (p:Pln) (shape:Int) (l:List Ev) (hp1:Bd p shape l) (hp2:EvsB l) (hp3:B3 p=true):Fun Tryz.prog 167 [.agg (Cd p),vI shape,.c (.seq .ev l)] [] (.v (vT (mT p shape l))) []:=Adu _ p shape l hp1 hp2 hp3 (Nat.lt_succ_self _)
end Go.Proofs.YtijacopaadmncaaGreat.Ax
