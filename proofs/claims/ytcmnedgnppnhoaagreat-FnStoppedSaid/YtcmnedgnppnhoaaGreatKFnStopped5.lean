/- The reference: settling. The reference: frames, tags, lengths. The reference: lengths, numbers. The reference: bytes of numbers. -/
import Derived.Test.YtcmnedgnppnhoaaGreatKFnStopped3
import Derived.Test.YtcmnedgnppnhoaaGreatKFnStopped2
import Derived.Test.YtcmnedgnppnhoaaGreatKFnStopped4
set_option linter.unusedSimpArgs false
set_option linter.unusedVariables false
namespace Go.Proofs.YtcmnedgnppnhoaaGreat.Ax
open Go.RowKit
theorem Zr (a:List Ev): ∀(k:Nat) (d:Dcd) (o:List Ev),wM ⟨d,o⟩≤k→Ac ⟨d,a++o⟩=⟨(Ac ⟨d,o⟩).d,a++(Ac ⟨d,o⟩).out⟩:=by
 have hc: ∀(d:Dcd) (o:List Ev),A2 ⟨d,a++o⟩=(A2 ⟨d,o⟩).map fun q=>⟨q.d,a++q.out⟩:=by
  intro d o
  unfold A2 A0
  simp only
  split
  ·split<;>simp
  ·split
   ·rfl
   ·split
    ·split<;>simp
    ·rfl
 intro k
 induction k with
 |zero=>
  intro d o hk
  cases h:A2 ⟨d,o⟩ with
  |none=>rw[B5 h,B5 (by rw[hc,h];rfl)]
  |some q=>have:=(Ca h).1;omega
 |succ k ih=>
  intro d o hk
  cases h:A2 ⟨d,o⟩ with
  |none=>rw[B5 h,B5 (by rw[hc,h];rfl)]
  |some q=>
   have h2:A2 ⟨d,a++o⟩=some ⟨q.d,a++q.out⟩:=by rw[hc,h];rfl
   rw[Cr h,Cr h2]
   have h3:=(Ca h).1
   exact ih q.d q.out (by have:wM (⟨q.d,q.out⟩:Mac)=wM q:=rfl;omega)
theorem Cb (d:Dcd) (e:Ev):Ac ⟨d,[e]⟩=⟨(Ac ⟨d,[]⟩).d,e::(Ac ⟨d,[]⟩).out⟩:=Zr [e] _ d [] (Nat.le_refl _)
structure Hx where
 i:Nat
def Hy (d:Dcd):Fam:=⟨Hx,fun q1=>[(1,.v (vP 0)),(3,.v (vI ((q1.i:Nat):Int)))],fun _=>[.cells (Bt d)],fun q1=>q1.i≤List.length d.stack∧Ve (List.length d.plan.shapes:Int) (List.drop q1.i d.stack)+q1.i=Ve (List.length d.plan.shapes:Int) d.stack,fun q1=>List.length d.stack-q1.i⟩
theorem R3 (d:Dcd) (hp1:List.length (d).stack≤Bg) (hp2:List.length (d).plan.shapes≤Bg):Fun Tryz.prog 181 [.agg (Bt d)] [] (.v (vB (A7 d))) []:=by
 have hN:Bg=274877906944:=rfl
 refine Ar Tryz.func181 Q4 Q4 (w:=let z7:=((List.length d.plan.shapes:Nat):Int)-1;let z8:=(.v (vI (IntKind.i64.wrap z7)):S)= .v (vI z7);let z9:=((List.length d.stack:Nat):Int);let z10:=vB (A7 d);let z11:=(.v (vB false):S);let z12:=([]:List Blk);let z13:=Hy d;let z14:=Es d.plan;(.seg [.call [] (.v (vB z14)) []] (.br (.leaf () []) (.br (.leaf () []) (.seg [.at 0,.keep [1,3],.sel [0]] (.loop z13 fun q1=> .br (.intro (fun (x1:Lev)=>d.stack[q1.i]? =some x1) fun x1=>let z1:=Am x1.msg 0 z7;.case (!z1) (.seg [.ord (os 24 [12,21]) [],.el .lev x1,.as 35 (.v (vI z7)),.call [] (.v (vB z1)) [],.br true] (.leaf () [])) (.seg [.ord (os 24 [12,21]) [],.el .lev x1,.as 35 (.v (vI z7)),.call [] (.v (vB z1)) [],.br false,.el .lev x1,.call [] (.v (vB (Am x1.left 0 2000))) []] (.br (.leaf () []) (.seg [.as 23 (.v (vI (((q1.i:Nat):Int)+1))),.at 0,.keep [1,3],.sel [0]] (.next))))) (.leaf () []))))),(Fun Tryz.prog 34 [.agg (M1 d.plan)] [] (.v (vB z14)) [])∧((!z14)=true→z11= .v z10∧z12=[])∧((!z14)=false→((decide (d.plan.deep<z9))=true→z11= .v z10∧z12=[])∧((decide (d.plan.deep<z9))=false→z13.Has [(1,.v (vP 0)),(3,.v (vI 0))] [.cells (Bt d)]∧∀q1,z13.inv q1→(let z6:=((q1.i:Nat):Int);((decide (z6<z9))=true→(∃(x1:Lev),d.stack[q1.i]? =some x1)∧∀(x1:Lev),(d.stack[q1.i]? =some x1)→(let z2:=Am x1.msg 0 z7;let z3:=d.stack[q1.i]? =some x1;let z4:List V:=[vI x1.msg,vI 0,vI z7];let z5:=Am x1.left 0 2000;((!z2)=true→z3∧((0:Int)≤z6)∧z3∧((0:Int)≤z6)∧z8∧z8∧(Fun Tryz.prog 59 z4 [] (.v (vB z2)) [])∧((!z2)=true)∧z11= .v z10∧z12=[])∧((!z2)=false→z3∧((0:Int)≤z6)∧z3∧((0:Int)≤z6)∧z8∧z8∧(Fun Tryz.prog 59 z4 [] (.v (vB z2)) [])∧((!z2)=false)∧z3∧((0:Int)≤z6)∧z3∧((0:Int)≤z6)∧(Fun Tryz.prog 59 [vI x1.left,vI 0,vI 2000] [] (.v (vB z5)) [])∧((!z5)=true→z11= .v z10∧z12=[])∧((!z5)=false→((.v (vI (IntKind.i64.wrap (z6+1))):S)= .v (vI (z6+1)))∧z13.Nxt q1 [(1,.v (vP 0)),(3,.v (vI (z6+1)))] [.cells (Bt d)]))))∧((decide (z6<z9))=false→(.v (vB true):S)= .v z10∧z12=[])))))) Q4 ?_
 refine⟨(Tf d.plan),fun h1=>have q1:=Ap h1;?_,fun h1=>have q1:=Ao h1;have p1:=B6 q1;?_⟩
 refine⟨(sB ?_),rfl⟩
 rotate_left
 refine dsp (fun h2 p2=>?_) fun h2 p2=>?_
 refine⟨(sB ?_),rfl⟩
 rotate_left
 refine⟨Bk (j:=(⟨0⟩:Hx)) Q10 rfl (by dsimp only[Hy];exact⟨by omega,rfl⟩),fun (q1:Hx) hq_q1=>?_⟩
 have hi_q1:q1.i≤List.length d.stack∧Ve (List.length d.plan.shapes:Int) (List.drop q1.i d.stack)+q1.i=Ve (List.length d.plan.shapes:Int) d.stack:=hq_q1
 obtain ⟨v1,v2⟩:=hi_q1
 refine dsp (fun h3 p3=>?_) fun h3 p3=>?_
 refine⟨(Bm (l:=d.stack) (i:=q1.i) Q2),fun x1 hx1=>?_⟩
 rw[Ez hx1,Qv] at v2
 have hll:=congrArg List.length (Ez hx1)
 rw[List.length_drop,List.length_cons,List.length_drop] at hll
 refine⟨fun h4=>have q4:=Ap h4;have p4:=Az q4;?_,fun h4=>have q4:=Ao h4;have p4:=As q4;?_⟩
 refine⟨hx1,Q2,hx1,Q2,(Ae Q2 Q2),(Ae Q2 Q2),(Ba _ _ _),h4,(sB ?_),rfl⟩
 rotate_left
 refine⟨hx1,Q2,hx1,Q2,(Ae Q2 Q2),(Ae Q2 Q2),(Ba _ _ _),h4,hx1,Q2,hx1,Q2,(Ba _ _ _),fun h5=>have q5:=Ap h5;have p5:=Az q5;?_,fun h5=>have q5:=Ao h5;have p5:=As q5;?_⟩
 refine⟨(sB ?_),rfl⟩
 rotate_left
 exact⟨(Ae Q2 Q2),Bd (j:=(⟨q1.i+1⟩:Hx)) Q10 rfl (by dsimp only[Hy];exact⟨by omega,by simp_all[Ew];omega⟩) (by dsimp only[Hy];omega)⟩
 have hal:List.all d.stack (Ew (List.length d.plan.shapes:Int))=true:=by rw[Lw];rw[List.drop_eq_nil_of_le (by omega)] at v2;simp only[Ve] at v2;exact decide_eq_true (by omega)
 refine⟨(sB ?_),rfl⟩
 rotate_left
 all_goals first|(simp_all[A7];done)|((have hal:List.all d.stack (Ew (List.length d.plan.shapes:Int))=false:=(by rw[Lw];rw[if_neg (by simp_all[Ew])] at v2;exact decide_eq_false (by omega));simp[A7,hal];done))|(grind[A7])
theorem C1 (d:Dcd) (c:Int) (a:Int):Fun Tryz.prog 63 [.agg (Ad 0 1 d),vI c,vI a] [.tree d.plan.shapes,.lst .lev d.stack] (.tup [.agg (Ad 2 3 (A1 d c a)),vO 4]) [.dead,.dead,.tree (A1 d c a).plan.shapes,.lst .lev (A1 d c a).stack,.lst .ev [A3 c a]]:=by
 have hN:Bg=274877906944:=rfl
 refine Ar Tryz.func63 Q4 Q4 (w:=let zi:Int→C:= .int .i64;let z2:=A3 c a;let z1:List C:=[.int .u64 0,zi 0,zi d.start,zi d.at_,zi d.field.number,zi d.field.kind,.bool d.field.rep,.bool d.field.packed,zi d.field.msg,zi d.wire,zi 0,zi d.utf.want,zi d.utf.low,zi d.utf.high,zi z2.kind,zi z2.field,.int .u64 z2.bits,zi z2.len,.str z2.text,zi z2.code,zi z2.at_];(.seg [.call [] (.v (.agg (cEv z2))) [],.tree (fr (.two 3 (.one 4 (.first 5 (.done))) 4 (.one 3 (.first 5 (.done)))) 0 3) 6 [3],.ty .ev,.at 0,.keep [6,7],.sel [0,1,3,4],.ty .ev,.at 0,.keep [6,7],.sel [0,1,3,4],.at 0,.cut 2 0,.cut 2 5] (.leaf () [0,1,4,5,3]),(Fun Tryz.prog 110 [vI c,vI a] [] (.v (.agg (cEv z2))) [])∧(([.tree d.plan.shapes,.lst .lev d.stack,.cells (.own 0::zi d.plan.root::zi d.plan.deep::zi d.plan.most::zi 9:: .own 1::z1),.lst .ev [z2]]:List Blk)=[.tree d.plan.shapes,.lst .lev d.stack,.cells (.own 0::zi d.plan.root::zi d.plan.deep::zi d.plan.most::zi 9:: .own 1::z1),.lst .ev [z2]])∧(([(6,.v (vP 2)),(7,.v (vO 3))]:List (Nat×S))=[(6,.v (vP 2)),(7,.v (vO 3))])∧(.tup [.agg (.own 2::zi d.plan.root::zi d.plan.deep::zi d.plan.most::zi 9:: .own 3::z1),vO 4]:S)= .tup [.agg (Ad 2 3 (A1 d c a)),vO 4]∧([.dead,.dead,.tree d.plan.shapes,.lst .lev d.stack,.lst .ev [z2]]:List Blk)=[.dead,.dead,.tree (A1 d c a).plan.shapes,.lst .lev (A1 d c a).stack,.lst .ev [A3 c a]])) Q4 ?_
 refine⟨(Aec _ _),rfl,rfl,?_⟩
 refine have hm1:A1 d c a=(⟨d.plan,9,d.stack,(⟨0,0⟩:Scn),d.start,d.at_,d.field,d.wire,0,d.utf,(A3 c a)⟩:Dcd):=?_;?_
 rotate_left
 refine have hm2:[A3 c a]=[(A3 c a)]:=?_;?_
 rotate_left
 exact⟨Q5,Q9⟩
 all_goals first|(rfl)|(simp_all[A1])
structure Db where
 d:Dcd
 out:List Ev
def D4 (d:Dcd):Fam:=⟨Db,fun q1=>[(1,.v (vP 2)),(2,.v (vP 5)),(4,.v (vO 6))],fun q1=>[.dead,.dead,.cells (Ad 3 4 q1.d),.tree q1.d.plan.shapes,.lst .lev q1.d.stack,.cells [.nil,.int .i64 0,.int .i64 0,.int .i64 0,.int .i64 0,.nil,.int .u64 0,.int .i64 0,.int .i64 0,.int .i64 0,.int .i64 0,.int .i64 0,.bool false,.bool false,.int .i64 0,.int .i64 0,.int .i64 0,.int .i64 0,.int .i64 0,.int .i64 0,.int .i64 0,.int .i64 0,.int .u64 0,.int .i64 0,.str [],.int .i64 0,.int .i64 0],.lst .ev q1.out],fun q1=>Ac ⟨q1.d,q1.out⟩=Ac ⟨d,[]⟩∧List.length q1.out+wM ⟨q1.d,q1.out⟩≤wM ⟨d,[]⟩∧List.length (q1.d).stack≤List.length d.stack,fun q1=>wM ⟨q1.d,q1.out⟩⟩
theorem Gz (d:Dcd) (hp1:List.length (d).stack≤1000):Fun Tryz.prog 61 [.agg (Ad 0 1 d)] [.tree d.plan.shapes,.lst .lev d.stack] (.tup [.agg (Ad 2 3 (Ac ⟨d,[]⟩).d),vO 4]) [.dead,.dead,.tree (Ac ⟨d,[]⟩).d.plan.shapes,.lst .lev (Ac ⟨d,[]⟩).d.stack,.lst .ev (Ac ⟨d,[]⟩).out]:=by
 have hN:Bg=274877906944:=rfl
 have hwd:=Acw ⟨d,[]⟩
 simp only at hwd
 refine Ar Tryz.func61 Q4 Q4 (w:=let zi:Int→C:= .int .i64;let z14:List C:=[.nil,zi 0,zi 0,zi 0,zi 0,.nil,.int .u64 0,zi 0,zi 0,zi 0,zi 0,zi 0,.bool false,.bool false,zi 0,zi 0,zi 0,zi 0,zi 0,zi 0,zi 0,zi 0,.int .u64 0,zi 0,.str [],zi 0,zi 0];let z17:=D4 d;let z18:=Ac ⟨d,[]⟩;let z15:List Blk:=[.dead,.dead,.tree z18.d.plan.shapes,.lst .lev z18.d.stack,.lst .ev z18.out];let z16:=Ad 2 3 z18.d;(.seg [.ty .ev,.at 0,.cut 2 0,.cut 2 5,.keep [1,2,4],.sel [0,1,2,5,6,3,4]] (.loop z17 fun q1=>let z1:=((List.length q1.d.stack:Nat):Int)-1;let z2:=A1 q1.d 5 q1.d.at_;.br (.br (.br (.seg [.call [3,4] (.tup [.agg (Ad 2 3 z2),vO 4]) [.dead,.dead,.tree z2.plan.shapes,.lst .lev z2.stack,.lst .ev [A3 5 q1.d.at_]],.tree (fr (.one 3 (.one 4 (.first 5 (.done)))) 0 3) 4 [6,9],.ty .ev] (.leaf () [0,1,7,8,11])) (.seg [.ty .ev,.ty .ev,.at 0,.keep [1,2,4],.sel [0,1,2,3,4,5,8]] (.next))) (.seg [.br false] (.br (.br (.br (.seg [.as 86 (.v (vI z1))] (.intro (fun (x1:Lev)=>q1.d.stack[Int.toNat z1]? =some x1) fun x1=> .seg [.el .lev x1] (.br (.seg [.ty .lev,.as 96 (.v (vI z1)),.ty .lev] (.br (.seg [.ty .ev,.ty .ev,.at 0,.keep [1,2,4],.sel [0,1,2,3,8,5,10]] (.next)) (.seg [.ty .ev,.ty .ev,.at 0,.keep [1,2,4],.sel [0,1,2,3,8,5,10]] (.next)))) (.leaf () [0,1,3,4,6])))) (.leaf () [0,1,3,4,6])) (.leaf () [0,1,3,4,6])) (.leaf () [0,1,3,4,6])))) (.br (.br (.seg [.at 0,.keep [1,2,4],.sel [0,1,2,3,4,5,6]] (.next)) (.br (.br (.seg [.at 0,.keep [1,2,4],.sel [0,1,2,3,4,5,6]] (.next)) (.br (.seg [.br false] (.leaf () [0,1,3,4,6])) (.leaf () [0,1,3,4,6]))) (.br (.br (.br (.seg [.as 86 (.v (vI z1))] (.intro (fun (x1:Lev)=>q1.d.stack[Int.toNat z1]? =some x1) fun x1=> .seg [.el .lev x1] (.br (.seg [.ty .lev,.as 96 (.v (vI z1)),.ty .lev] (.br (.seg [.ty .ev,.ty .ev,.at 0,.keep [1,2,4],.sel [0,1,2,3,8,5,10]] (.next)) (.seg [.ty .ev,.ty .ev,.at 0,.keep [1,2,4],.sel [0,1,2,3,8,5,10]] (.next)))) (.leaf () [0,1,3,4,6])))) (.leaf () [0,1,3,4,6])) (.leaf () [0,1,3,4,6])) (.leaf () [0,1,3,4,6])))) (.br (.br (.br (.seg [.as 86 (.v (vI z1))] (.intro (fun (x1:Lev)=>q1.d.stack[Int.toNat z1]? =some x1) fun x1=> .seg [.el .lev x1] (.br (.seg [.ty .lev,.as 96 (.v (vI z1)),.ty .lev] (.br (.seg [.ty .ev,.ty .ev,.at 0,.keep [1,2,4],.sel [0,1,2,3,8,5,10]] (.next)) (.seg [.ty .ev,.ty .ev,.at 0,.keep [1,2,4],.sel [0,1,2,3,8,5,10]] (.next)))) (.leaf () [0,1,3,4,6])))) (.leaf () [0,1,3,4,6])) (.leaf () [0,1,3,4,6])) (.leaf () [0,1,3,4,6])))),z17.Has [(1,.v (vP 2)),(2,.v (vP 5)),(4,.v (vO 6))] [.dead,.dead,.cells (Ad 3 4 d),.tree d.plan.shapes,.lst .lev d.stack,.cells z14,.lst .ev ([]:List Ev)]∧∀q1,z17.inv q1→(let z5:List Blk:=[.dead,.dead,.cells [.own 3,zi q1.d.plan.root,zi q1.d.plan.deep,zi q1.d.plan.most,zi 2,.own 4,.int .u64 q1.d.scan.bits,zi q1.d.scan.have_,zi q1.d.start,zi q1.d.at_,zi q1.d.field.number,zi q1.d.field.kind,.bool q1.d.field.rep,.bool q1.d.field.packed,zi q1.d.field.msg,zi q1.d.wire,zi 0,zi q1.d.utf.want,zi q1.d.utf.low,zi q1.d.utf.high,zi q1.d.end_.kind,zi q1.d.end_.field,.int .u64 q1.d.end_.bits,zi q1.d.end_.len,.str q1.d.end_.text,zi q1.d.end_.code,zi q1.d.end_.at_],.tree q1.d.plan.shapes,.lst .lev q1.d.stack,.cells z14,.lst .ev q1.out];let z6:=((List.length q1.d.stack:Nat):Int);let z7:=([.dead,.dead,.tree q1.d.plan.shapes,.lst .lev q1.d.stack,.lst .ev q1.out]:List Blk);let z8:=(.tup [.agg (Ad 2 3 q1.d),vO 4]:S);let z9:=List.take ((Int.toNat (z6-1))-0) (List.drop 0 q1.d.stack);let z10:=decide (q1.d.scan.have_=0);let z11:=A1 q1.d 5 q1.d.at_;let z12:=decide (q1.d.want<1);let z13:=decide (q1.d.mode=2);let z3:=z13=true→(z10=true→((decide (0<z6))=true→((.v (vI (IntKind.i64.wrap (z6-1))):S)= .v (vI (z6-1)))∧(∃(x1:Lev),q1.d.stack[Int.toNat (z6-1)]? =some x1)∧∀(x1:Lev),(q1.d.stack[Int.toNat (z6-1)]? =some x1)→((z6-1<z6)∧((0:Int)≤z6-1)∧(q1.d.stack[Int.toNat (z6-1)]? =some x1)∧((decide (x1.left=0))=true→((.v (vI (IntKind.i64.wrap (z6-1))):S)= .v (vI (z6-1)))∧(z6-1≤z6)∧((0:Int)≤z6-1)∧(List.length ([]:List Lev)+List.length z9≤Bg)∧((decide (z6=1))=true→(List.length q1.out+List.length [(⟨8,0,0,0,[],0,0⟩:Ev)]≤Bg)∧z17.Nxt q1 [(1,.v (vP 2)),(2,.v (vP 5)),(4,.v (vO 6))] [.dead,.dead,.cells [.own 3,zi q1.d.plan.root,zi q1.d.plan.deep,zi q1.d.plan.most,zi 1,.own 4,.int .u64 q1.d.scan.bits,zi q1.d.scan.have_,zi q1.d.start,zi q1.d.at_,zi q1.d.field.number,zi q1.d.field.kind,.bool q1.d.field.rep,.bool q1.d.field.packed,zi q1.d.field.msg,zi q1.d.wire,zi q1.d.want,zi q1.d.utf.want,zi q1.d.utf.low,zi q1.d.utf.high,zi q1.d.end_.kind,zi q1.d.end_.field,.int .u64 q1.d.end_.bits,zi q1.d.end_.len,.str q1.d.end_.text,zi q1.d.end_.code,zi q1.d.end_.at_],.tree q1.d.plan.shapes,.lst .lev (([]:List Lev)++z9),.cells z14,.lst .ev (q1.out++[(⟨8,0,0,0,[],0,0⟩:Ev)])])∧((decide (z6=1))=false→(List.length q1.out+List.length [(⟨7,0,0,0,[],0,0⟩:Ev)]≤Bg)∧z17.Nxt q1 [(1,.v (vP 2)),(2,.v (vP 5)),(4,.v (vO 6))] [.dead,.dead,.cells (Ad 3 4 q1.d),.tree q1.d.plan.shapes,.lst .lev (([]:List Lev)++z9),.cells z14,.lst .ev (q1.out++[(⟨7,0,0,0,[],0,0⟩:Ev)])]))∧((decide (x1.left=0))=false→z8= .tup [.agg z16,vO 4]∧z7=z15)))∧((decide (0<z6))=false→z8= .tup [.agg z16,vO 4]∧z7=z15))∧(z10=false→z8= .tup [.agg z16,vO 4]∧z7=z15);let z4:=z13=false→z8= .tup [.agg z16,vO 4]∧z7=z15;((decide (q1.d.mode=6))=true→(z12=true→((decide (0<q1.d.utf.want))=true→(Fun Tryz.prog 63 [.agg (Ad 0 1 q1.d),vI 5,vI q1.d.at_] [.tree q1.d.plan.shapes,.lst .lev q1.d.stack] (.tup [.agg (Ad 2 3 z11),vO 4]) [.dead,.dead,.tree z11.plan.shapes,.lst .lev z11.stack,.lst .ev [A3 5 q1.d.at_]])∧(List.length q1.out+List.length [A3 5 q1.d.at_]≤Bg)∧(.tup [.agg (Ad 2 3 z11),vO 4]:S)= .tup [.agg z16,vO 4]∧([.dead,.dead,.tree z11.plan.shapes,.lst .lev z11.stack,.lst .ev (q1.out++[A3 5 q1.d.at_])]:List Blk)=z15)∧((decide (0<q1.d.utf.want))=false→(List.length q1.out+List.length [(⟨5,0,0,0,[],0,0⟩:Ev)]≤Bg)∧z17.Nxt q1 [(1,.v (vP 2)),(2,.v (vP 5)),(4,.v (vO 6))] [.dead,.dead,.cells [.own 3,zi q1.d.plan.root,zi q1.d.plan.deep,zi q1.d.plan.most,zi 2,.own 4,.int .u64 q1.d.scan.bits,zi q1.d.scan.have_,zi q1.d.start,zi q1.d.at_,zi q1.d.field.number,zi q1.d.field.kind,.bool q1.d.field.rep,.bool q1.d.field.packed,zi q1.d.field.msg,zi q1.d.wire,zi 0,zi 0,zi 0,zi 0,zi q1.d.end_.kind,zi q1.d.end_.field,.int .u64 q1.d.end_.bits,zi q1.d.end_.len,.str q1.d.end_.text,zi q1.d.end_.code,zi q1.d.end_.at_],.tree q1.d.plan.shapes,.lst .lev q1.d.stack,.cells z14,.lst .ev (q1.out++[(⟨5,0,0,0,[],0,0⟩:Ev)])]))∧(z12=false→(z12=false)∧z3∧z4))∧((decide (q1.d.mode=6))=false→(z12=true→((decide (q1.d.mode=7))=true→z17.Nxt q1 [(1,.v (vP 2)),(2,.v (vP 5)),(4,.v (vO 6))] z5)∧((decide (q1.d.mode=7))=false→((decide (q1.d.mode=8))=true→(z10=true→z17.Nxt q1 [(1,.v (vP 2)),(2,.v (vP 5)),(4,.v (vO 6))] z5)∧(z10=false→(z13=true→(z10=false)∧z8= .tup [.agg z16,vO 4]∧z7=z15)∧z4))∧((decide (q1.d.mode=8))=false→z3∧z4)))∧(z12=false→z3∧z4))))) Q4 ?_
 refine⟨Bk (j:=(⟨d,([]:List Ev)⟩:Db)) rfl rfl (by dsimp only[D4];exact⟨rfl,by simp,Nat.le_refl _⟩),fun (q1:Db) hq_q1=>?_⟩
 have hi_q1:Ac ⟨q1.d,q1.out⟩=Ac ⟨d,[]⟩∧List.length q1.out+wM ⟨q1.d,q1.out⟩≤wM ⟨d,[]⟩∧List.length (q1.d).stack≤List.length d.stack:=hq_q1
 obtain ⟨v1,v2,v3⟩:=hi_q1
 have hwq:=Acw ⟨q1.d,q1.out⟩
 refine dsp (fun h1 p1=>?_) fun h1 p1=>?_
 refine dsp (fun h2 p2=>?_) fun h2 p2=>?_
 refine dsp (fun h3 p3=>?_) fun h3 p3=>?_
 have hst:Ac ⟨d,[]⟩=A0 ⟨q1.d,q1.out⟩ 5 q1.d.at_:=by rw[←v1];exact X9 (by assumption) (by assumption) (by assumption)
 refine⟨(C1 q1.d _ _),Q6,?_⟩
 refine have hm1:(Ac ⟨d,[]⟩).d=(A1 q1.d 5 q1.d.at_):=?_;?_
 rotate_left
 refine have hm2:(Ac ⟨d,[]⟩).out=q1.out++[A3 5 q1.d.at_]:=?_;?_
 rotate_left
 exact⟨Q5,Q9⟩
 exact⟨Q6,Bd (j:=(⟨(⟨q1.d.plan,2,q1.d.stack,q1.d.scan,q1.d.start,q1.d.at_,q1.d.field,q1.d.wire,0,(⟨0,0,0⟩:Utf),q1.d.end_⟩:Dcd),q1.out++[(⟨5,0,0,0,[],0,0⟩:Ev)]⟩:Db)) rfl Q10 (by dsimp only[D4];have hcl:A2 ⟨q1.d,q1.out⟩=some ⟨(⟨q1.d.plan,2,q1.d.stack,q1.d.scan,q1.d.start,q1.d.at_,q1.d.field,q1.d.wire,0,(⟨0,0,0⟩:Utf),q1.d.end_⟩:Dcd),q1.out++[(⟨5,0,0,0,[],0,0⟩:Ev)]⟩:=Q34;exact⟨by rw[←v1];exact(Cr hcl).symm,by have:=Ca hcl;simp only at this;omega,by have:=(Jb hcl).1;simp only at this;omega⟩) (by dsimp only[D4];have hcl:A2 ⟨q1.d,q1.out⟩=some ⟨(⟨q1.d.plan,2,q1.d.stack,q1.d.scan,q1.d.start,q1.d.at_,q1.d.field,q1.d.wire,0,(⟨0,0,0⟩:Utf),q1.d.end_⟩:Dcd),q1.out++[(⟨5,0,0,0,[],0,0⟩:Ev)]⟩:=Q34;exact(Ca hcl).1)⟩
 refine⟨h2,dsp (fun h3 p3=>?_) fun h3 p3=>?_⟩
 refine dsp (fun h4 p4=>?_) fun h4 p4=>?_
 refine dsp (fun h5 p5=>?_) fun h5 p5=>?_
 refine⟨(Ae Q2 Q2),(Bm (l:=q1.d.stack) (i:=Int.toNat (((List.length q1.d.stack:Nat):Int)-1)) Q2),fun x1 hx1=>?_⟩
 refine⟨Q2,Q2,?_⟩
 have hll:=Hs (d:=q1.d) (by rw[←hx1];congr 1;omega)
 have hix:Int.toNat ((q1.d.stack.length:Int)-1)=q1.d.stack.length-1:=by omega
 refine⟨hx1,dsp (fun h6 p6=>?_) fun h6 p6=>?_⟩
 refine⟨(Ae Q2 Q2),Q2,Q2,Q61,dsp (fun h7 p7=>?_) fun h7 p7=>?_⟩
 exact⟨Q6,Bd (j:=(⟨(⟨q1.d.plan,1,([]:List Lev)++(List.take ((Int.toNat (((List.length q1.d.stack:Nat):Int)-1))-0) (List.drop 0 q1.d.stack)),q1.d.scan,q1.d.start,q1.d.at_,q1.d.field,q1.d.wire,q1.d.want,q1.d.utf,q1.d.end_⟩:Dcd),q1.out++[(⟨8,0,0,0,[],0,0⟩:Ev)]⟩:Db)) rfl Q10 Q22 Q29⟩
 exact⟨Q6,Bd (j:=(⟨(⟨q1.d.plan,q1.d.mode,([]:List Lev)++(List.take ((Int.toNat (((List.length q1.d.stack:Nat):Int)-1))-0) (List.drop 0 q1.d.stack)),q1.d.scan,q1.d.start,q1.d.at_,q1.d.field,q1.d.wire,q1.d.want,q1.d.utf,q1.d.end_⟩:Dcd),q1.out++[(⟨7,0,0,0,[],0,0⟩:Ev)]⟩:Db)) rfl Q10 Q21 Q27⟩
 refine have hm1:(Ac ⟨d,[]⟩).d=q1.d:=?_;?_
 rotate_left
 refine have hm2:(Ac ⟨d,[]⟩).out=q1.out:=?_;?_
 rotate_left
 exact⟨Q5,Q9⟩
 refine have hm1:(Ac ⟨d,[]⟩).d=q1.d:=?_;?_
 rotate_left
 refine have hm2:(Ac ⟨d,[]⟩).out=q1.out:=?_;?_
 rotate_left
 exact⟨Q5,Q9⟩
 refine have hm1:(Ac ⟨d,[]⟩).d=q1.d:=?_;?_
 rotate_left
 refine have hm2:(Ac ⟨d,[]⟩).out=q1.out:=?_;?_
 rotate_left
 exact⟨Q5,Q9⟩
 refine have hm1:(Ac ⟨d,[]⟩).d=q1.d:=?_;?_
 rotate_left
 refine have hm2:(Ac ⟨d,[]⟩).out=q1.out:=?_;?_
 rotate_left
 exact⟨Q5,Q9⟩
 refine dsp (fun h2 p2=>?_) fun h2 p2=>?_
 refine dsp (fun h3 p3=>?_) fun h3 p3=>?_
 exact Bd (j:=(⟨(⟨q1.d.plan,2,q1.d.stack,q1.d.scan,q1.d.start,q1.d.at_,q1.d.field,q1.d.wire,0,q1.d.utf,q1.d.end_⟩:Dcd),q1.out⟩:Db)) rfl Q10 Q40 Q56
 refine dsp (fun h4 p4=>?_) fun h4 p4=>?_
 refine dsp (fun h5 p5=>?_) fun h5 p5=>?_
 exact Bd (j:=(⟨(⟨q1.d.plan,2,q1.d.stack,q1.d.scan,q1.d.start,q1.d.at_,q1.d.field,q1.d.wire,0,q1.d.utf,q1.d.end_⟩:Dcd),q1.out⟩:Db)) rfl Q10 Q40 Q56
 refine dsp (fun h6 p6=>?_) fun h6 p6=>?_
 refine⟨h5,?_⟩
 refine have hm1:(Ac ⟨d,[]⟩).d=q1.d:=?_;?_
 rotate_left
 refine have hm2:(Ac ⟨d,[]⟩).out=q1.out:=?_;?_
 rotate_left
 exact⟨Q5,Q9⟩
 refine have hm1:(Ac ⟨d,[]⟩).d=q1.d:=?_;?_
 rotate_left
 refine have hm2:(Ac ⟨d,[]⟩).out=q1.out:=?_;?_
 rotate_left
 exact⟨Q5,Q9⟩
 refine dsp (fun h5 p5=>?_) fun h5 p5=>?_
 refine dsp (fun h6 p6=>?_) fun h6 p6=>?_
 refine dsp (fun h7 p7=>?_) fun h7 p7=>?_
 refine⟨(Ae Q2 Q2),(Bm (l:=q1.d.stack) (i:=Int.toNat (((List.length q1.d.stack:Nat):Int)-1)) Q2),fun x1 hx1=>?_⟩
 refine⟨Q2,Q2,?_⟩
 have hll:=Hs (d:=q1.d) (by rw[←hx1];congr 1;omega)
 have hix:Int.toNat ((q1.d.stack.length:Int)-1)=q1.d.stack.length-1:=by omega
 refine⟨hx1,dsp (fun h8 p8=>?_) fun h8 p8=>?_⟩
 refine⟨(Ae Q2 Q2),Q2,Q2,Q61,dsp (fun h9 p9=>?_) fun h9 p9=>?_⟩
 exact⟨Q6,Bd (j:=(⟨(⟨q1.d.plan,1,([]:List Lev)++(List.take ((Int.toNat (((List.length q1.d.stack:Nat):Int)-1))-0) (List.drop 0 q1.d.stack)),q1.d.scan,q1.d.start,q1.d.at_,q1.d.field,q1.d.wire,q1.d.want,q1.d.utf,q1.d.end_⟩:Dcd),q1.out++[(⟨8,0,0,0,[],0,0⟩:Ev)]⟩:Db)) rfl Q10 Q22 Q29⟩
 exact⟨Q6,Bd (j:=(⟨(⟨q1.d.plan,q1.d.mode,([]:List Lev)++(List.take ((Int.toNat (((List.length q1.d.stack:Nat):Int)-1))-0) (List.drop 0 q1.d.stack)),q1.d.scan,q1.d.start,q1.d.at_,q1.d.field,q1.d.wire,q1.d.want,q1.d.utf,q1.d.end_⟩:Dcd),q1.out++[(⟨7,0,0,0,[],0,0⟩:Ev)]⟩:Db)) rfl Q10 Q21 Q27⟩
 refine have hm1:(Ac ⟨d,[]⟩).d=q1.d:=?_;?_
 rotate_left
 refine have hm2:(Ac ⟨d,[]⟩).out=q1.out:=?_;?_
 rotate_left
 exact⟨Q5,Q9⟩
 refine have hm1:(Ac ⟨d,[]⟩).d=q1.d:=?_;?_
 rotate_left
 refine have hm2:(Ac ⟨d,[]⟩).out=q1.out:=?_;?_
 rotate_left
 exact⟨Q5,Q9⟩
 refine have hm1:(Ac ⟨d,[]⟩).d=q1.d:=?_;?_
 rotate_left
 refine have hm2:(Ac ⟨d,[]⟩).out=q1.out:=?_;?_
 rotate_left
 exact⟨Q5,Q9⟩
 refine have hm1:(Ac ⟨d,[]⟩).d=q1.d:=?_;?_
 rotate_left
 refine have hm2:(Ac ⟨d,[]⟩).out=q1.out:=?_;?_
 rotate_left
 exact⟨Q5,Q9⟩
 refine dsp (fun h3 p3=>?_) fun h3 p3=>?_
 refine dsp (fun h4 p4=>?_) fun h4 p4=>?_
 refine dsp (fun h5 p5=>?_) fun h5 p5=>?_
 refine⟨(Ae Q2 Q2),(Bm (l:=q1.d.stack) (i:=Int.toNat (((List.length q1.d.stack:Nat):Int)-1)) Q2),fun x1 hx1=>?_⟩
 refine⟨Q2,Q2,?_⟩
 have hll:=Hs (d:=q1.d) (by rw[←hx1];congr 1;omega)
 have hix:Int.toNat ((q1.d.stack.length:Int)-1)=q1.d.stack.length-1:=by omega
 refine⟨hx1,dsp (fun h6 p6=>?_) fun h6 p6=>?_⟩
 refine⟨(Ae Q2 Q2),Q2,Q2,Q61,dsp (fun h7 p7=>?_) fun h7 p7=>?_⟩
 exact⟨Q6,Bd (j:=(⟨(⟨q1.d.plan,1,([]:List Lev)++(List.take ((Int.toNat (((List.length q1.d.stack:Nat):Int)-1))-0) (List.drop 0 q1.d.stack)),q1.d.scan,q1.d.start,q1.d.at_,q1.d.field,q1.d.wire,q1.d.want,q1.d.utf,q1.d.end_⟩:Dcd),q1.out++[(⟨8,0,0,0,[],0,0⟩:Ev)]⟩:Db)) rfl Q10 Q22 Q29⟩
 exact⟨Q6,Bd (j:=(⟨(⟨q1.d.plan,q1.d.mode,([]:List Lev)++(List.take ((Int.toNat (((List.length q1.d.stack:Nat):Int)-1))-0) (List.drop 0 q1.d.stack)),q1.d.scan,q1.d.start,q1.d.at_,q1.d.field,q1.d.wire,q1.d.want,q1.d.utf,q1.d.end_⟩:Dcd),q1.out++[(⟨7,0,0,0,[],0,0⟩:Ev)]⟩:Db)) rfl Q10 Q21 Q27⟩
 refine have hm1:(Ac ⟨d,[]⟩).d=q1.d:=?_;?_
 rotate_left
 refine have hm2:(Ac ⟨d,[]⟩).out=q1.out:=?_;?_
 rotate_left
 exact⟨Q5,Q9⟩
 refine have hm1:(Ac ⟨d,[]⟩).d=q1.d:=?_;?_
 rotate_left
 refine have hm2:(Ac ⟨d,[]⟩).out=q1.out:=?_;?_
 rotate_left
 exact⟨Q5,Q9⟩
 refine have hm1:(Ac ⟨d,[]⟩).d=q1.d:=?_;?_
 rotate_left
 refine have hm2:(Ac ⟨d,[]⟩).out=q1.out:=?_;?_
 rotate_left
 exact⟨Q5,Q9⟩
 refine have hm1:(Ac ⟨d,[]⟩).d=q1.d:=?_;?_
 rotate_left
 refine have hm2:(Ac ⟨d,[]⟩).out=q1.out:=?_;?_
 rotate_left
 exact⟨Q5,Q9⟩
 all_goals first|((rw[hst];rfl))|((rw[←v1,B5 (by first|((simp_all[A2,Ue,Ahm,J7,utf0];done))|(grind[A2,Ue,Ahm,J7,utf0]))]))
theorem G0 (d:Dcd) (e:Ev) (hp1:List.length (d).stack≤1000):Fun Tryz.prog 64 [.agg (Ad 0 1 d),.agg (cEv e)] [.tree d.plan.shapes,.lst .lev d.stack] (.tup [.agg (Ad 2 3 (Ac ⟨d,[]⟩).d),vO 4]) [.dead,.dead,.tree (Ac ⟨d,[]⟩).d.plan.shapes,.lst .lev (Ac ⟨d,[]⟩).d.stack,.lst .ev (e::(Ac ⟨d,[]⟩).out)]:=by
 have hN:Bg=274877906944:=rfl
 have hso:=Uf ⟨d,[]⟩
 have hwd:=Acw ⟨d,[]⟩
 simp only[List.length_nil] at hwd hso
 refine Ar Tryz.func64 Q4 Q4 (w:=let z1:=Ac ⟨d,[]⟩;let z2:List Blk:=[.dead,.dead,.tree z1.d.plan.shapes,.lst .lev z1.d.stack,.lst .ev z1.out];let z3:=Ad 2 3 z1.d;(.seg [.call [0,1] (.tup [.agg z3,vO 4]) z2,.tree (.first 0 (.first 1 (.first 3 (.one 2 (.one 4 (.one 5 (.first 6 (.done)))))))) 5 [7],.ty .ev,.ty .ev] (.leaf () [0,1,5,6,10]),(Fun Tryz.prog 61 [.agg (Ad 0 1 d)] [.tree d.plan.shapes,.lst .lev d.stack] (.tup [.agg z3,vO 4]) z2)∧(List.length [e]+List.length z1.out≤Bg)∧(.tup [.agg z3,vO 4]:S)= .tup [.agg z3,vO 4]∧([.dead,.dead,.tree z1.d.plan.shapes,.lst .lev z1.d.stack,.lst .ev ([e]++z1.out)]:List Blk)=[.dead,.dead,.tree z1.d.plan.shapes,.lst .lev z1.d.stack,.lst .ev (e::z1.out)])) Q4 ?_
 exact⟨(Gz d Q2),Q6,rfl,(Ah rfl (Ah rfl (Ah rfl (Ah rfl (Ah (congrArg (Blk.lst .ev) (by rfl)) rfl)))))⟩
theorem Aep (d:Dcd) (u:Int) (hp1:A7 d=true) (hp2:(0:Int)≤u∧u≤18446744073709551615):Fun Tryz.prog 130 [.agg (Bt d),.c (.int .u64 u)] [] (.tup [.agg (Ad 0 1 (Cs ⟨d,[]⟩ u).d),vO 2]) [.tree (Cs ⟨d,[]⟩ u).d.plan.shapes,.lst .lev (Cs ⟨d,[]⟩ u).d.stack,.lst .ev (Cs ⟨d,[]⟩ u).out]:=by
 have hN:Bg=274877906944:=rfl
 have hlv:=B0 hp1
 have hpt:=B6 hlv.1
 have htb:=Gk hp1
 refine Ar Tryz.func130 Q4 Q4 (w:=let zi:Int→C:= .int .i64;let z1:List C:=[.own 1,.int .u64 0,zi 0,zi d.start,zi d.at_,zi d.field.number,zi d.field.kind,.bool d.field.rep,.bool d.field.packed,zi d.field.msg,zi d.wire,zi d.want,zi d.utf.want,zi d.utf.low,zi d.utf.high,zi d.end_.kind,zi d.end_.field,.int .u64 d.end_.bits,zi d.end_.len,.str d.end_.text,zi d.end_.code,zi d.end_.at_];let z2:=Ac ⟨(⟨d.plan,2,[(⟨d.plan.root,u⟩:Lev)],(⟨0,0⟩:Scn),d.start,d.at_,d.field,d.wire,d.want,d.utf,d.end_⟩:Dcd),[]⟩;let z3:=A1 (⟨d.plan,d.mode,d.stack,(⟨0,0⟩:Scn),d.start,d.at_,d.field,d.wire,d.want,d.utf,d.end_⟩:Dcd) 7 d.start;let z4:=Cs ⟨d,[]⟩ u;let z6:List Blk:=[.dead,.dead,.tree z3.plan.shapes,.lst .lev z3.stack,.lst .ev [A3 7 d.start]];let z7:=(.v (vI (IntKind.i64.wrap (u))):S)= .v (vI u);let z8:=(⟨1,0,0,u,[],0,0⟩:Ev)::z2.out;let z5:List Blk:=[.dead,.dead,.tree z2.d.plan.shapes,.lst .lev z2.d.stack,.lst .ev z8];(.seg [.call [] (.v (.agg (Ad 0 1 d))) [.tree d.plan.shapes,.lst .lev d.stack],.call [] (.v (vB (A7 d))) [],.br false,.as 20 (.v (.c (.int .u64 d.plan.most)))] (.br (.seg [.call [2,3] (.tup [.agg (Ad 2 3 z3),vO 4]) z6] (.leaf () [5,6,7])) (.seg [.as 32 (.v (vI u)),.ty .lev,.as 39 (.v (vI u)),.call [2,5] (.tup [.agg (Ad 2 3 z2.d),vO 4]) z5] (.leaf () [6,7,8]))),(Fun Tryz.prog 58 [.agg (Bt d)] [] (.v (.agg (Ad 0 1 d))) [.tree d.plan.shapes,.lst .lev d.stack])∧(Fun Tryz.prog 181 [.agg (Bt d)] [] (.v (vB (A7 d))) [])∧((!(A7 d))=false)∧((.v (.c (.int .u64 (IntKind.u64.wrap (d.plan.most)))):S)= .v (.c (.int .u64 d.plan.most)))∧((decide (d.plan.most<u))=true→(Fun Tryz.prog 63 [.agg (.own 0::zi d.plan.root::zi d.plan.deep::zi d.plan.most::zi d.mode::z1),vI 7,vI d.start] [.tree d.plan.shapes,.lst .lev d.stack] (.tup [.agg (Ad 2 3 z3),vO 4]) z6)∧(.tup [.agg (Ad 0 1 z3),vO 2]:S)= .tup [.agg (Ad 0 1 z4.d),vO 2]∧([.tree z3.plan.shapes,.lst .lev z3.stack,.lst .ev [A3 7 d.start]]:List Blk)=[.tree z4.d.plan.shapes,.lst .lev z4.d.stack,.lst .ev z4.out])∧((decide (d.plan.most<u))=false→z7∧z7∧(Fun Tryz.prog 64 [.agg (.own 0::zi d.plan.root::zi d.plan.deep::zi d.plan.most::zi 2::z1),.agg [zi 1,zi 0,.int .u64 0,zi u,.str [],zi 0,zi 0]] [.tree d.plan.shapes,.lst .lev [(⟨d.plan.root,u⟩:Lev)]] (.tup [.agg (Ad 2 3 z2.d),vO 4]) z5)∧(.tup [.agg (Ad 0 1 z2.d),vO 2]:S)= .tup [.agg (Ad 0 1 z4.d),vO 2]∧([.tree z2.d.plan.shapes,.lst .lev z2.d.stack,.lst .ev z8]:List Blk)=[.tree z4.d.plan.shapes,.lst .lev z4.d.stack,.lst .ev z4.out]))) Q4 ?_
 refine⟨(Nn d Q2 (D7 hpt.2.1) Q2),(R3 d Q2 Q2),(by simp[hp1]),(Bv Q2 Q2),dsp (fun h1 p1=>?_) fun h1 p1=>?_⟩
 refine⟨(C1 (⟨d.plan,d.mode,d.stack,(⟨0,0⟩:Scn),d.start,d.at_,d.field,d.wire,d.want,d.utf,d.end_⟩:Dcd) _ _),?_⟩
 refine have hm1:(Cs ⟨d,[]⟩ u).d=(A1 (⟨d.plan,d.mode,d.stack,(⟨0,0⟩:Scn),d.start,d.at_,d.field,d.wire,d.want,d.utf,d.end_⟩:Dcd) 7 d.start):=?_;?_
 rotate_left
 refine have hm2:(Cs ⟨d,[]⟩ u).out=[A3 7 d.start]:=?_;?_
 rotate_left
 exact⟨Q5,Q9⟩
 refine⟨(Ae Q2 Q2),(Ae Q2 Q2),(G0 (⟨d.plan,2,[(⟨d.plan.root,u⟩:Lev)],(⟨0,0⟩:Scn),d.start,d.at_,d.field,d.wire,d.want,d.utf,d.end_⟩:Dcd) (⟨1,0,0,u,[],0,0⟩:Ev) Q15),?_⟩
 refine have hm1:(Cs ⟨d,[]⟩ u).d=(Ac ⟨(⟨d.plan,2,[(⟨d.plan.root,u⟩:Lev)],(⟨0,0⟩:Scn),d.start,d.at_,d.field,d.wire,d.want,d.utf,d.end_⟩:Dcd),[]⟩).d:=?_;?_
 rotate_left
 refine have hm2:(Cs ⟨d,[]⟩ u).out=(⟨1,0,0,u,[],0,0⟩:Ev)::(Ac ⟨(⟨d.plan,2,[(⟨d.plan.root,u⟩:Lev)],(⟨0,0⟩:Scn),d.start,d.at_,d.field,d.wire,d.want,d.utf,d.end_⟩:Dcd),[]⟩).out:=?_;?_
 rotate_left
 exact⟨Q5,Q9⟩
 all_goals first|(simp_all[Cs,Ad5,A0,A1,scn0,utf0,Cb];done)|(grind[Cs,Ad5,A0,A1,scn0,utf0,Cb])
set_option maxHeartbeats 1600000 in
theorem Ajx (d:Dcd) (u:Int) (hp1:A7 d=true) (hp2:(0:Int)≤u∧u≤18446744073709551615):Fun Tryz.prog 131 [.agg (Bt d),.c (.int .u64 u)] [] (.tup [.agg (Ad 0 1 (D6 ⟨d,[]⟩ u).d),vO 2]) [.tree (D6 ⟨d,[]⟩ u).d.plan.shapes,.lst .lev (D6 ⟨d,[]⟩ u).d.stack,.lst .ev (D6 ⟨d,[]⟩ u).out]:=by
 have hN:Bg=274877906944:=rfl
 have hlv:=B0 hp1
 have hpt:=B6 hlv.1
 have htb:=Gk hp1
 have htw:=Ahn u
 have hwb:=Dy (Aj u)
 have hmx:max (Ay (Aj u)) 1=if 1>Ay (Aj u) then 1 else Ay (Aj u):=by split<;>omega
 have hw1:Dx (Aj u)=true→¬Aj u=0→¬Aj u=2→1≤Ay (Aj u):=by
  intro a b c
  simp[Dx] at a
  unfold Ay
  split<;>(try split)<;>omega
 refine Ar Tryz.func131 Q4 Q4 (w:=let zi:Int→C:= .int .i64;let z11:List C:=[zi d.want,zi d.utf.want,zi d.utf.low,zi d.utf.high,zi d.end_.kind,zi d.end_.field,.int .u64 d.end_.bits,zi d.end_.len,.str d.end_.text,zi d.end_.code,zi d.end_.at_];let z12:List C:=[.nil,zi 0,zi 0,zi 0,zi 0,.nil,.int .u64 0,zi 0,zi 0,zi 0,zi 0,zi 0,.bool false,.bool false,zi 0,zi 0,zi 0,zi 0,zi 0,zi 0,zi 0,zi 0,.int .u64 0,zi 0,.str [],zi 0,zi 0];let z14:=((List.length d.stack:Nat):Int);let z15:=D6 ⟨d,[]⟩ u;let z16:=(⟨0,0⟩:Scn);let z13:=(⟨d.plan,d.mode,d.stack,z16,d.start,d.at_,d.field,d.wire,d.want,d.utf,d.end_⟩:Dcd);let z19:=Aj u;let z20:=A1 z13 2 d.start;let z18:List Blk:=[.dead,.dead,.tree z20.plan.shapes,.lst .lev z20.stack,.lst .ev [A3 2 d.start]];let z21:=Ad 0 1 z15.d;let z22:=([.tree d.plan.shapes,.lst .lev d.stack,.lst .ev ([]:List Ev)]:List Blk);let z23:=A1 z13 3 d.start;let z24:=A1 z13 4 d.start;let z25:=(0:Int)≤z14-1;let z26:=([.tree z20.plan.shapes,.lst .lev z20.stack,.lst .ev [A3 2 d.start]]:List Blk);let z27:=vI (z14-1);let z17:=(.v (vI (IntKind.i64.wrap (z14-1))):S)= .v z27;let z28:List Blk:=[.dead,.dead,.tree z23.plan.shapes,.lst .lev z23.stack,.lst .ev [A3 3 d.start]];let z29:List Blk:=[.dead,.dead,.tree z24.plan.shapes,.lst .lev z24.stack,.lst .ev [A3 4 d.start]];let z30:=decide (Aj u=0);let z31:=decide (Aj u=2);let z32:=vI (Ay z19);let z33:=Ad 2 3 z20;let z34:=(.tup [.agg (Ad 0 1 z20),vO 2]:S);let z35:=Bu u;(.seg [.call [] (.v (.agg (Ad 0 1 d))) [.tree d.plan.shapes,.lst .lev d.stack],.call [] (.v (vB (A7 d))) [],.br false,.call [] (.tup [vI z35,vI z19,vB (Hr u)]) []] (.br (.seg [.call [2,3] (.tup [.agg z33,vO 4]) z18] (.leaf () [5,6,7])) (.br (.seg [.call [2,3] (.tup [.agg z33,vO 4]) z18] (.leaf () [5,6,7])) (.intro (fun (x1:Lev)=>d.stack[Int.toNat (z14-1)]? =some x1) fun x1=>let z2:=fieldAt d.plan.shapes x1.msg z35;let z1:=z2.getD fld0;.seg [.tree (fr (.two 11 (fr (.one 15 (.one 16 (.first 17 (.done)))) 12 3) 15 (.one 11 (fr (.one 16 (.first 17 (.done))) 12 3))) 0 11) 18 [],.as 51 (.v z27),.el .lev x1,.call [] (.tup [.agg (Fm z1),vB z2.isSome]) [],.at 0,.keep [2,4,6,8,10,11,12],.sel [0,1,4,2,3,5],.call [] (.tup [.agg (Fm z1),vB z2.isSome]) [],.at 0,.keep [2,4,6,8,10,11,12],.sel [0,1,4,2,3,5],.call [] (.v (vB (Dx z19))) []] (.br (.seg [.call [3,4] (.tup [.agg (Ad 2 3 z23),vO 4]) z28] (.leaf () [6,7,8])) (.br (.seg [.call [] (.v (vB (Cy z1 z19))) []] (.br (.seg [.call [3,4] (.tup [.agg (Ad 2 3 z24),vO 4]) z29] (.leaf () [6,7,8])) (.br (.seg [.as 98 (.v z27),.el .lev x1] (.br (.seg [.call [3,4] (.tup [.agg (Ad 2 3 (A1 (⟨d.plan,3,d.stack,z16,d.start,d.at_,z1,Aj u,d.want,d.utf,d.end_⟩:Dcd) 9 d.at_)),vO 4]) [.dead,.dead,.tree (A1 (⟨d.plan,3,d.stack,z16,d.start,d.at_,z1,Aj u,d.want,d.utf,d.end_⟩:Dcd) 9 d.at_).plan.shapes,.lst .lev (A1 (⟨d.plan,3,d.stack,z16,d.start,d.at_,z1,Aj u,d.want,d.utf,d.end_⟩:Dcd) 9 d.at_).stack,.lst .ev [A3 9 d.at_]]] (.leaf () [6,7,8])) (.seg [.ty .ev] (.leaf () [3,4,6])))) (.br (.seg [.as 98 (.v z27),.el .lev x1] (.br (.seg [.call [3,4] (.tup [.agg (Ad 2 3 (A1 (⟨d.plan,4,d.stack,z16,d.start,d.at_,z1,Aj u,d.want,d.utf,d.end_⟩:Dcd) 9 d.at_)),vO 4]) [.dead,.dead,.tree (A1 (⟨d.plan,4,d.stack,z16,d.start,d.at_,z1,Aj u,d.want,d.utf,d.end_⟩:Dcd) 9 d.at_).plan.shapes,.lst .lev (A1 (⟨d.plan,4,d.stack,z16,d.start,d.at_,z1,Aj u,d.want,d.utf,d.end_⟩:Dcd) 9 d.at_).stack,.lst .ev [A3 9 d.at_]]] (.leaf () [6,7,8])) (.seg [.ty .ev] (.leaf () [3,4,6])))) (.seg [.call [] (.v z32) [],.as 98 (.v z27),.el .lev x1] (.br (.seg [.call [3,4] (.tup [.agg (Ad 2 3 (A1 (⟨d.plan,5,d.stack,z16,d.start,d.at_,z1,Aj u,d.want,d.utf,d.end_⟩:Dcd) 9 d.at_)),vO 4]) [.dead,.dead,.tree (A1 (⟨d.plan,5,d.stack,z16,d.start,d.at_,z1,Aj u,d.want,d.utf,d.end_⟩:Dcd) 9 d.at_).plan.shapes,.lst .lev (A1 (⟨d.plan,5,d.stack,z16,d.start,d.at_,z1,Aj u,d.want,d.utf,d.end_⟩:Dcd) 9 d.at_).stack,.lst .ev [A3 9 d.at_]]] (.leaf () [6,7,8])) (.seg [.ty .ev] (.leaf () [3,4,6])))))))) (.br (.seg [.as 98 (.v z27),.el .lev x1] (.br (.seg [.call [3,4] (.tup [.agg (Ad 2 3 (A1 (⟨d.plan,3,d.stack,z16,d.start,d.at_,z1,Aj u,d.want,d.utf,d.end_⟩:Dcd) 9 d.at_)),vO 4]) [.dead,.dead,.tree (A1 (⟨d.plan,3,d.stack,z16,d.start,d.at_,z1,Aj u,d.want,d.utf,d.end_⟩:Dcd) 9 d.at_).plan.shapes,.lst .lev (A1 (⟨d.plan,3,d.stack,z16,d.start,d.at_,z1,Aj u,d.want,d.utf,d.end_⟩:Dcd) 9 d.at_).stack,.lst .ev [A3 9 d.at_]]] (.leaf () [6,7,8])) (.seg [.ty .ev] (.leaf () [3,4,6])))) (.br (.seg [.as 98 (.v z27),.el .lev x1] (.br (.seg [.call [3,4] (.tup [.agg (Ad 2 3 (A1 (⟨d.plan,4,d.stack,z16,d.start,d.at_,z1,Aj u,d.want,d.utf,d.end_⟩:Dcd) 9 d.at_)),vO 4]) [.dead,.dead,.tree (A1 (⟨d.plan,4,d.stack,z16,d.start,d.at_,z1,Aj u,d.want,d.utf,d.end_⟩:Dcd) 9 d.at_).plan.shapes,.lst .lev (A1 (⟨d.plan,4,d.stack,z16,d.start,d.at_,z1,Aj u,d.want,d.utf,d.end_⟩:Dcd) 9 d.at_).stack,.lst .ev [A3 9 d.at_]]] (.leaf () [6,7,8])) (.seg [.ty .ev] (.leaf () [3,4,6])))) (.seg [.call [] (.v z32) [],.as 98 (.v z27),.el .lev x1] (.br (.seg [.call [3,4] (.tup [.agg (Ad 2 3 (A1 (⟨d.plan,5,d.stack,z16,d.start,d.at_,z1,Aj u,d.want,d.utf,d.end_⟩:Dcd) 9 d.at_)),vO 4]) [.dead,.dead,.tree (A1 (⟨d.plan,5,d.stack,z16,d.start,d.at_,z1,Aj u,d.want,d.utf,d.end_⟩:Dcd) 9 d.at_).plan.shapes,.lst .lev (A1 (⟨d.plan,5,d.stack,z16,d.start,d.at_,z1,Aj u,d.want,d.utf,d.end_⟩:Dcd) 9 d.at_).stack,.lst .ev [A3 9 d.at_]]] (.leaf () [6,7,8])) (.seg [.ty .ev] (.leaf () [3,4,6]))))))))))),(Fun Tryz.prog 58 [.agg (Bt d)] [] (.v (.agg (Ad 0 1 d))) [.tree d.plan.shapes,.lst .lev d.stack])∧(Fun Tryz.prog 181 [.agg (Bt d)] [] (.v (vB (A7 d))) [])∧((!(A7 d))=false)∧(Fun Tryz.prog 182 [.c (.int .u64 u)] [] (.tup [vI z35,vI z19,vB (Hr u)]) [])∧((!(Hr u))=true→(Fun Tryz.prog 63 [.agg (.own 0::zi d.plan.root::zi d.plan.deep::zi d.plan.most::zi d.mode:: .own 1:: .int .u64 0::zi 0::zi d.start::zi d.at_::zi d.field.number::zi d.field.kind:: .bool d.field.rep:: .bool d.field.packed::zi d.field.msg::zi d.wire::z11),vI 2,vI d.start] [.tree d.plan.shapes,.lst .lev d.stack] (.tup [.agg z33,vO 4]) z18)∧z34= .tup [.agg z21,vO 2]∧z26=[.tree z15.d.plan.shapes,.lst .lev z15.d.stack,.lst .ev z15.out])∧((!(Hr u))=false→((decide (z14=0))=true→(Fun Tryz.prog 63 [.agg (.own 0::zi d.plan.root::zi d.plan.deep::zi d.plan.most::zi d.mode:: .own 1:: .int .u64 0::zi 0::zi d.start::zi d.at_::zi d.field.number::zi d.field.kind:: .bool d.field.rep:: .bool d.field.packed::zi d.field.msg::zi d.wire::z11),vI 2,vI d.start] [.tree d.plan.shapes,.lst .lev d.stack] (.tup [.agg z33,vO 4]) z18)∧z34= .tup [.agg z21,vO 2]∧z26=[.tree z15.d.plan.shapes,.lst .lev z15.d.stack,.lst .ev z15.out])∧((decide (z14=0))=false→(∃(x1:Lev),d.stack[Int.toNat (z14-1)]? =some x1)∧∀(x1:Lev),(d.stack[Int.toNat (z14-1)]? =some x1)→(let z7:=d.stack[Int.toNat (z14-1)]? =some x1;let z8:=fieldAt d.plan.shapes x1.msg z35;let z3:=z8.getD fld0;let z9:=decide (x1.left<1);let z5:=z9=false→(.tup [.agg (.own 0::zi d.plan.root::zi d.plan.deep::zi d.plan.most::zi 3:: .own 1:: .int .u64 0::zi 0::zi d.start::zi d.at_::zi z3.number::zi z3.kind:: .bool z3.rep:: .bool z3.packed::zi z3.msg::zi z19::z11),vO 2]:S)= .tup [.agg z21,vO 2]∧z22=[.tree z15.d.plan.shapes,.lst .lev z15.d.stack,.lst .ev z15.out];let z6:=z9=false→(.tup [.agg (.own 0::zi d.plan.root::zi d.plan.deep::zi d.plan.most::zi 4:: .own 1:: .int .u64 0::zi 0::zi d.start::zi d.at_::zi z3.number::zi z3.kind:: .bool z3.rep:: .bool z3.packed::zi z3.msg::zi z19::z11),vO 2]:S)= .tup [.agg z21,vO 2]∧z22=[.tree z15.d.plan.shapes,.lst .lev z15.d.stack,.lst .ev z15.out];let z10:=decide (x1.left<Ay z19);let z4:=z10=false→(.tup [.agg (.own 0::zi d.plan.root::zi d.plan.deep::zi d.plan.most::zi 5:: .own 1:: .int .u64 0::zi 0::zi d.start::zi d.at_::zi z3.number::zi z3.kind:: .bool z3.rep:: .bool z3.packed::zi z3.msg::zi z19::z11),vO 2]:S)= .tup [.agg z21,vO 2]∧z22=[.tree z15.d.plan.shapes,.lst .lev z15.d.stack,.lst .ev z15.out];z17∧z17∧z7∧z25∧z7∧z25∧(Fun Tryz.prog 133 [.agg [.seq .shp d.plan.shapes],vI x1.msg,vI z35] [] (.tup [.agg (Fm z3),vB z8.isSome]) [])∧(Fun Tryz.prog 133 [.agg [.seq .shp d.plan.shapes],vI x1.msg,vI z35] [] (.tup [.agg (Fm z3),vB z8.isSome]) [])∧(([.cells (Bt d),.cells z12,.cells (.own 3::zi d.plan.root::zi d.plan.deep::zi d.plan.most::zi d.mode:: .own 4:: .int .u64 0::zi 0::zi d.start::zi d.at_::zi d.field.number::zi d.field.kind:: .bool d.field.rep:: .bool d.field.packed::zi d.field.msg::zi d.wire::z11),.tree d.plan.shapes,.lst .lev d.stack,.cells (Fm z3)]:List Blk)=[.cells (Bt d),.cells z12,.cells (.own 3::zi d.plan.root::zi d.plan.deep::zi d.plan.most::zi d.mode:: .own 4:: .int .u64 0::zi 0::zi d.start::zi d.at_::zi d.field.number::zi d.field.kind:: .bool d.field.rep:: .bool d.field.packed::zi d.field.msg::zi d.wire::z11),.tree d.plan.shapes,.lst .lev d.stack,.cells (Fm z3)])∧(([(2,.v (vP 0)),(4,.v (vP 1)),(6,.v (vP 2)),(8,.v (vI z19)),(10,.v (vI z14)),(11,.v (vP 5)),(12,.v (vB z8.isSome))]:List (Nat×S))=[(2,.v (vP 0)),(4,.v (vP 1)),(6,.v (vP 2)),(8,.v (vI z19)),(10,.v (vI z14)),(11,.v (vP 5)),(12,.v (vB z8.isSome))])∧(Fun Tryz.prog 69 [vI z19] [] (.v (vB (Dx z19))) [])∧((!(Dx z19))=true→(Fun Tryz.prog 63 [.agg (.own 0::zi d.plan.root::zi d.plan.deep::zi d.plan.most::zi d.mode:: .own 1:: .int .u64 0::zi 0::zi d.start::zi d.at_::zi d.field.number::zi d.field.kind:: .bool d.field.rep:: .bool d.field.packed::zi d.field.msg::zi d.wire::z11),vI 3,vI d.start] [.tree d.plan.shapes,.lst .lev d.stack] (.tup [.agg (Ad 2 3 z23),vO 4]) z28)∧(.tup [.agg (Ad 0 1 z23),vO 2]:S)= .tup [.agg z21,vO 2]∧([.tree z23.plan.shapes,.lst .lev z23.stack,.lst .ev [A3 3 d.start]]:List Blk)=[.tree z15.d.plan.shapes,.lst .lev z15.d.stack,.lst .ev z15.out])∧((!(Dx z19))=false→(z8.isSome=true→(Fun Tryz.prog 75 [.agg (Fm z3),vI z19] [] (.v (vB (Cy z3 z19))) [])∧((!(Cy z3 z19))=true→(Fun Tryz.prog 63 [.agg (.own 0::zi d.plan.root::zi d.plan.deep::zi d.plan.most::zi d.mode:: .own 1:: .int .u64 0::zi 0::zi d.start::zi d.at_::zi d.field.number::zi d.field.kind:: .bool d.field.rep:: .bool d.field.packed::zi d.field.msg::zi d.wire::z11),vI 4,vI d.start] [.tree d.plan.shapes,.lst .lev d.stack] (.tup [.agg (Ad 2 3 z24),vO 4]) z29)∧(.tup [.agg (Ad 0 1 z24),vO 2]:S)= .tup [.agg z21,vO 2]∧([.tree z24.plan.shapes,.lst .lev z24.stack,.lst .ev [A3 4 d.start]]:List Blk)=[.tree z15.d.plan.shapes,.lst .lev z15.d.stack,.lst .ev z15.out])∧((!(Cy z3 z19))=false→(z30=true→z17∧z7∧z25∧(z9=true→(Fun Tryz.prog 63 [.agg (.own 0::zi d.plan.root::zi d.plan.deep::zi d.plan.most::zi 3:: .own 1:: .int .u64 0::zi 0::zi d.start::zi d.at_::zi z3.number::zi z3.kind:: .bool z3.rep:: .bool z3.packed::zi z3.msg::zi z19::z11),vI 9,vI d.at_] [.tree d.plan.shapes,.lst .lev d.stack] (.tup [.agg (Ad 2 3 (A1 (⟨d.plan,3,d.stack,z16,d.start,d.at_,z3,Aj u,d.want,d.utf,d.end_⟩:Dcd) 9 d.at_)),vO 4]) [.dead,.dead,.tree (A1 (⟨d.plan,3,d.stack,z16,d.start,d.at_,z3,Aj u,d.want,d.utf,d.end_⟩:Dcd) 9 d.at_).plan.shapes,.lst .lev (A1 (⟨d.plan,3,d.stack,z16,d.start,d.at_,z3,Aj u,d.want,d.utf,d.end_⟩:Dcd) 9 d.at_).stack,.lst .ev [A3 9 d.at_]])∧(.tup [.agg (Ad 0 1 (A1 (⟨d.plan,3,d.stack,z16,d.start,d.at_,z3,Aj u,d.want,d.utf,d.end_⟩:Dcd) 9 d.at_)),vO 2]:S)= .tup [.agg z21,vO 2]∧([.tree (A1 (⟨d.plan,3,d.stack,z16,d.start,d.at_,z3,Aj u,d.want,d.utf,d.end_⟩:Dcd) 9 d.at_).plan.shapes,.lst .lev (A1 (⟨d.plan,3,d.stack,z16,d.start,d.at_,z3,Aj u,d.want,d.utf,d.end_⟩:Dcd) 9 d.at_).stack,.lst .ev [A3 9 d.at_]]:List Blk)=[.tree z15.d.plan.shapes,.lst .lev z15.d.stack,.lst .ev z15.out])∧z5)∧(z30=false→(z31=true→z17∧z7∧z25∧(z9=true→(Fun Tryz.prog 63 [.agg (.own 0::zi d.plan.root::zi d.plan.deep::zi d.plan.most::zi 4:: .own 1:: .int .u64 0::zi 0::zi d.start::zi d.at_::zi z3.number::zi z3.kind:: .bool z3.rep:: .bool z3.packed::zi z3.msg::zi z19::z11),vI 9,vI d.at_] [.tree d.plan.shapes,.lst .lev d.stack] (.tup [.agg (Ad 2 3 (A1 (⟨d.plan,4,d.stack,z16,d.start,d.at_,z3,Aj u,d.want,d.utf,d.end_⟩:Dcd) 9 d.at_)),vO 4]) [.dead,.dead,.tree (A1 (⟨d.plan,4,d.stack,z16,d.start,d.at_,z3,Aj u,d.want,d.utf,d.end_⟩:Dcd) 9 d.at_).plan.shapes,.lst .lev (A1 (⟨d.plan,4,d.stack,z16,d.start,d.at_,z3,Aj u,d.want,d.utf,d.end_⟩:Dcd) 9 d.at_).stack,.lst .ev [A3 9 d.at_]])∧(.tup [.agg (Ad 0 1 (A1 (⟨d.plan,4,d.stack,z16,d.start,d.at_,z3,Aj u,d.want,d.utf,d.end_⟩:Dcd) 9 d.at_)),vO 2]:S)= .tup [.agg z21,vO 2]∧([.tree (A1 (⟨d.plan,4,d.stack,z16,d.start,d.at_,z3,Aj u,d.want,d.utf,d.end_⟩:Dcd) 9 d.at_).plan.shapes,.lst .lev (A1 (⟨d.plan,4,d.stack,z16,d.start,d.at_,z3,Aj u,d.want,d.utf,d.end_⟩:Dcd) 9 d.at_).stack,.lst .ev [A3 9 d.at_]]:List Blk)=[.tree z15.d.plan.shapes,.lst .lev z15.d.stack,.lst .ev z15.out])∧z6)∧(z31=false→(Fun Tryz.prog 74 [vI z19] [] (.v z32) [])∧z17∧z7∧z25∧(z10=true→(Fun Tryz.prog 63 [.agg (.own 0::zi d.plan.root::zi d.plan.deep::zi d.plan.most::zi 5:: .own 1:: .int .u64 0::zi 0::zi d.start::zi d.at_::zi z3.number::zi z3.kind:: .bool z3.rep:: .bool z3.packed::zi z3.msg::zi z19::z11),vI 9,vI d.at_] [.tree d.plan.shapes,.lst .lev d.stack] (.tup [.agg (Ad 2 3 (A1 (⟨d.plan,5,d.stack,z16,d.start,d.at_,z3,Aj u,d.want,d.utf,d.end_⟩:Dcd) 9 d.at_)),vO 4]) [.dead,.dead,.tree (A1 (⟨d.plan,5,d.stack,z16,d.start,d.at_,z3,Aj u,d.want,d.utf,d.end_⟩:Dcd) 9 d.at_).plan.shapes,.lst .lev (A1 (⟨d.plan,5,d.stack,z16,d.start,d.at_,z3,Aj u,d.want,d.utf,d.end_⟩:Dcd) 9 d.at_).stack,.lst .ev [A3 9 d.at_]])∧(.tup [.agg (Ad 0 1 (A1 (⟨d.plan,5,d.stack,z16,d.start,d.at_,z3,Aj u,d.want,d.utf,d.end_⟩:Dcd) 9 d.at_)),vO 2]:S)= .tup [.agg z21,vO 2]∧([.tree (A1 (⟨d.plan,5,d.stack,z16,d.start,d.at_,z3,Aj u,d.want,d.utf,d.end_⟩:Dcd) 9 d.at_).plan.shapes,.lst .lev (A1 (⟨d.plan,5,d.stack,z16,d.start,d.at_,z3,Aj u,d.want,d.utf,d.end_⟩:Dcd) 9 d.at_).stack,.lst .ev [A3 9 d.at_]]:List Blk)=[.tree z15.d.plan.shapes,.lst .lev z15.d.stack,.lst .ev z15.out])∧z4))))∧(z8.isSome=false→(z30=true→z17∧z7∧z25∧(z9=true→(Fun Tryz.prog 63 [.agg (.own 0::zi d.plan.root::zi d.plan.deep::zi d.plan.most::zi 3:: .own 1:: .int .u64 0::zi 0::zi d.start::zi d.at_::zi z3.number::zi z3.kind:: .bool z3.rep:: .bool z3.packed::zi z3.msg::zi z19::z11),vI 9,vI d.at_] [.tree d.plan.shapes,.lst .lev d.stack] (.tup [.agg (Ad 2 3 (A1 (⟨d.plan,3,d.stack,z16,d.start,d.at_,z3,Aj u,d.want,d.utf,d.end_⟩:Dcd) 9 d.at_)),vO 4]) [.dead,.dead,.tree (A1 (⟨d.plan,3,d.stack,z16,d.start,d.at_,z3,Aj u,d.want,d.utf,d.end_⟩:Dcd) 9 d.at_).plan.shapes,.lst .lev (A1 (⟨d.plan,3,d.stack,z16,d.start,d.at_,z3,Aj u,d.want,d.utf,d.end_⟩:Dcd) 9 d.at_).stack,.lst .ev [A3 9 d.at_]])∧(.tup [.agg (Ad 0 1 (A1 (⟨d.plan,3,d.stack,z16,d.start,d.at_,z3,Aj u,d.want,d.utf,d.end_⟩:Dcd) 9 d.at_)),vO 2]:S)= .tup [.agg z21,vO 2]∧([.tree (A1 (⟨d.plan,3,d.stack,z16,d.start,d.at_,z3,Aj u,d.want,d.utf,d.end_⟩:Dcd) 9 d.at_).plan.shapes,.lst .lev (A1 (⟨d.plan,3,d.stack,z16,d.start,d.at_,z3,Aj u,d.want,d.utf,d.end_⟩:Dcd) 9 d.at_).stack,.lst .ev [A3 9 d.at_]]:List Blk)=[.tree z15.d.plan.shapes,.lst .lev z15.d.stack,.lst .ev z15.out])∧z5)∧(z30=false→(z31=true→z17∧z7∧z25∧(z9=true→(Fun Tryz.prog 63 [.agg (.own 0::zi d.plan.root::zi d.plan.deep::zi d.plan.most::zi 4:: .own 1:: .int .u64 0::zi 0::zi d.start::zi d.at_::zi z3.number::zi z3.kind:: .bool z3.rep:: .bool z3.packed::zi z3.msg::zi z19::z11),vI 9,vI d.at_] [.tree d.plan.shapes,.lst .lev d.stack] (.tup [.agg (Ad 2 3 (A1 (⟨d.plan,4,d.stack,z16,d.start,d.at_,z3,Aj u,d.want,d.utf,d.end_⟩:Dcd) 9 d.at_)),vO 4]) [.dead,.dead,.tree (A1 (⟨d.plan,4,d.stack,z16,d.start,d.at_,z3,Aj u,d.want,d.utf,d.end_⟩:Dcd) 9 d.at_).plan.shapes,.lst .lev (A1 (⟨d.plan,4,d.stack,z16,d.start,d.at_,z3,Aj u,d.want,d.utf,d.end_⟩:Dcd) 9 d.at_).stack,.lst .ev [A3 9 d.at_]])∧(.tup [.agg (Ad 0 1 (A1 (⟨d.plan,4,d.stack,z16,d.start,d.at_,z3,Aj u,d.want,d.utf,d.end_⟩:Dcd) 9 d.at_)),vO 2]:S)= .tup [.agg z21,vO 2]∧([.tree (A1 (⟨d.plan,4,d.stack,z16,d.start,d.at_,z3,Aj u,d.want,d.utf,d.end_⟩:Dcd) 9 d.at_).plan.shapes,.lst .lev (A1 (⟨d.plan,4,d.stack,z16,d.start,d.at_,z3,Aj u,d.want,d.utf,d.end_⟩:Dcd) 9 d.at_).stack,.lst .ev [A3 9 d.at_]]:List Blk)=[.tree z15.d.plan.shapes,.lst .lev z15.d.stack,.lst .ev z15.out])∧z6)∧(z31=false→(Fun Tryz.prog 74 [vI z19] [] (.v z32) [])∧z17∧z7∧z25∧(z10=true→(Fun Tryz.prog 63 [.agg (.own 0::zi d.plan.root::zi d.plan.deep::zi d.plan.most::zi 5:: .own 1:: .int .u64 0::zi 0::zi d.start::zi d.at_::zi z3.number::zi z3.kind:: .bool z3.rep:: .bool z3.packed::zi z3.msg::zi z19::z11),vI 9,vI d.at_] [.tree d.plan.shapes,.lst .lev d.stack] (.tup [.agg (Ad 2 3 (A1 (⟨d.plan,5,d.stack,z16,d.start,d.at_,z3,Aj u,d.want,d.utf,d.end_⟩:Dcd) 9 d.at_)),vO 4]) [.dead,.dead,.tree (A1 (⟨d.plan,5,d.stack,z16,d.start,d.at_,z3,Aj u,d.want,d.utf,d.end_⟩:Dcd) 9 d.at_).plan.shapes,.lst .lev (A1 (⟨d.plan,5,d.stack,z16,d.start,d.at_,z3,Aj u,d.want,d.utf,d.end_⟩:Dcd) 9 d.at_).stack,.lst .ev [A3 9 d.at_]])∧(.tup [.agg (Ad 0 1 (A1 (⟨d.plan,5,d.stack,z16,d.start,d.at_,z3,Aj u,d.want,d.utf,d.end_⟩:Dcd) 9 d.at_)),vO 2]:S)= .tup [.agg z21,vO 2]∧([.tree (A1 (⟨d.plan,5,d.stack,z16,d.start,d.at_,z3,Aj u,d.want,d.utf,d.end_⟩:Dcd) 9 d.at_).plan.shapes,.lst .lev (A1 (⟨d.plan,5,d.stack,z16,d.start,d.at_,z3,Aj u,d.want,d.utf,d.end_⟩:Dcd) 9 d.at_).stack,.lst .ev [A3 9 d.at_]]:List Blk)=[.tree z15.d.plan.shapes,.lst .lev z15.d.stack,.lst .ev z15.out])∧z4))))))))) Q4 ?_
 refine⟨(Nn d Q2 (D7 hpt.2.1) Q2),(R3 d Q2 Q2),(by simp[hp1]),(Aih _ Q2),fun h1=>have q1:=Ap h1;?_,fun h1=>have q1:=Ao h1;?_⟩
 refine⟨(C1 (⟨d.plan,d.mode,d.stack,(⟨0,0⟩:Scn),d.start,d.at_,d.field,d.wire,d.want,d.utf,d.end_⟩:Dcd) _ _),?_⟩
 refine have hm1:(D6 ⟨d,[]⟩ u).d=(A1 (⟨d.plan,d.mode,d.stack,(⟨0,0⟩:Scn),d.start,d.at_,d.field,d.wire,d.want,d.utf,d.end_⟩:Dcd) 2 d.start):=?_;?_
 rotate_left
 refine have hm2:(D6 ⟨d,[]⟩ u).out=[A3 2 d.start]:=?_;?_
 rotate_left
 exact⟨Q5,Q9⟩
 refine dsp (fun h2 p2=>?_) fun h2 p2=>?_
 refine⟨(C1 (⟨d.plan,d.mode,d.stack,(⟨0,0⟩:Scn),d.start,d.at_,d.field,d.wire,d.want,d.utf,d.end_⟩:Dcd) _ _),?_⟩
 refine have hm1:(D6 ⟨d,[]⟩ u).d=(A1 (⟨d.plan,d.mode,d.stack,(⟨0,0⟩:Scn),d.start,d.at_,d.field,d.wire,d.want,d.utf,d.end_⟩:Dcd) 2 d.start):=?_;?_
 rotate_left
 refine have hm2:(D6 ⟨d,[]⟩ u).out=[A3 2 d.start]:=?_;?_
 rotate_left
 exact⟨Q5,Q9⟩
 refine⟨(Bm (l:=d.stack) (i:=Int.toNat (((List.length d.stack:Nat):Int)-1)) Q2),fun x1 hx1=>?_⟩
 have hll:=Hs (d:=d) (by rw[←hx1];congr 1;omega)
 have hix:Int.toNat ((d.stack.length:Int)-1)=d.stack.length-1:=by omega
 refine⟨(Ae Q2 Q2),(Ae Q2 Q2),hx1,Q2,hx1,Q2,(Uk d.plan.shapes _ _ Q2 (Dj hpt.2.1)),(Uk d.plan.shapes _ _ Q2 (Dj hpt.2.1)),rfl,rfl,(Aav _),fun h3=>have q3:=Ap h3;?_,fun h3=>have q3:=Ao h3;?_⟩
 refine⟨(C1 (⟨d.plan,d.mode,d.stack,(⟨0,0⟩:Scn),d.start,d.at_,d.field,d.wire,d.want,d.utf,d.end_⟩:Dcd) _ _),?_⟩
 refine have hm1:(D6 ⟨d,[]⟩ u).d=(A1 (⟨d.plan,d.mode,d.stack,(⟨0,0⟩:Scn),d.start,d.at_,d.field,d.wire,d.want,d.utf,d.end_⟩:Dcd) 3 d.start):=?_;?_
 rotate_left
 refine have hm2:(D6 ⟨d,[]⟩ u).out=[A3 3 d.start]:=?_;?_
 rotate_left
 exact⟨Q5,Q9⟩
 refine⟨fun h4=>?_,fun h4=>?_⟩
 refine⟨(Yc ((fieldAt d.plan.shapes x1.msg (Bu u)).getD fld0) _ Q2),fun h5=>have q5:=Ap h5;?_,fun h5=>have q5:=Ao h5;?_⟩
 refine⟨(C1 (⟨d.plan,d.mode,d.stack,(⟨0,0⟩:Scn),d.start,d.at_,d.field,d.wire,d.want,d.utf,d.end_⟩:Dcd) _ _),?_⟩
 refine have hm1:(D6 ⟨d,[]⟩ u).d=(A1 (⟨d.plan,d.mode,d.stack,(⟨0,0⟩:Scn),d.start,d.at_,d.field,d.wire,d.want,d.utf,d.end_⟩:Dcd) 4 d.start):=?_;?_
 rotate_left
 refine have hm2:(D6 ⟨d,[]⟩ u).out=[A3 4 d.start]:=?_;?_
 rotate_left
 exact⟨Q5,Q9⟩
 refine dsp (fun h6 p6=>?_) fun h6 p6=>?_
 refine⟨(Ae Q2 Q2),hx1,Q2,dsp (fun h7 p7=>?_) fun h7 p7=>?_⟩
 refine⟨(C1 (⟨d.plan,3,d.stack,(⟨0,0⟩:Scn),d.start,d.at_,((fieldAt d.plan.shapes x1.msg (Bu u)).getD fld0),Aj u,d.want,d.utf,d.end_⟩:Dcd) _ _),?_⟩
 refine have hm1:(D6 ⟨d,[]⟩ u).d=(A1 (⟨d.plan,3,d.stack,(⟨0,0⟩:Scn),d.start,d.at_,((fieldAt d.plan.shapes x1.msg (Bu u)).getD fld0),Aj u,d.want,d.utf,d.end_⟩:Dcd) 9 d.at_):=?_;?_
 rotate_left
 refine have hm2:(D6 ⟨d,[]⟩ u).out=[A3 9 d.at_]:=?_;?_
 rotate_left
 exact⟨Q5,Q9⟩
 refine have hm1:(D6 ⟨d,[]⟩ u).d=(⟨d.plan,3,d.stack,(⟨0,0⟩:Scn),d.start,d.at_,((fieldAt d.plan.shapes x1.msg (Bu u)).getD fld0),Aj u,d.want,d.utf,d.end_⟩:Dcd):=?_;?_
 rotate_left
 refine have hm2:(D6 ⟨d,[]⟩ u).out=([]:List Ev):=?_;?_
 rotate_left
 exact⟨Q5,Q9⟩
 refine dsp (fun h7 p7=>?_) fun h7 p7=>?_
 refine⟨(Ae Q2 Q2),hx1,Q2,dsp (fun h8 p8=>?_) fun h8 p8=>?_⟩
 refine⟨(C1 (⟨d.plan,4,d.stack,(⟨0,0⟩:Scn),d.start,d.at_,((fieldAt d.plan.shapes x1.msg (Bu u)).getD fld0),Aj u,d.want,d.utf,d.end_⟩:Dcd) _ _),?_⟩
 refine have hm1:(D6 ⟨d,[]⟩ u).d=(A1 (⟨d.plan,4,d.stack,(⟨0,0⟩:Scn),d.start,d.at_,((fieldAt d.plan.shapes x1.msg (Bu u)).getD fld0),Aj u,d.want,d.utf,d.end_⟩:Dcd) 9 d.at_):=?_;?_
 rotate_left
 refine have hm2:(D6 ⟨d,[]⟩ u).out=[A3 9 d.at_]:=?_;?_
 rotate_left
 exact⟨Q5,Q9⟩
 refine have hm1:(D6 ⟨d,[]⟩ u).d=(⟨d.plan,4,d.stack,(⟨0,0⟩:Scn),d.start,d.at_,((fieldAt d.plan.shapes x1.msg (Bu u)).getD fld0),Aj u,d.want,d.utf,d.end_⟩:Dcd):=?_;?_
 rotate_left
 refine have hm2:(D6 ⟨d,[]⟩ u).out=([]:List Ev):=?_;?_
 rotate_left
 exact⟨Q5,Q9⟩
 refine⟨(Dk _),(Ae Q2 Q2),hx1,Q2,dsp (fun h8 p8=>?_) fun h8 p8=>?_⟩
 refine⟨(C1 (⟨d.plan,5,d.stack,(⟨0,0⟩:Scn),d.start,d.at_,((fieldAt d.plan.shapes x1.msg (Bu u)).getD fld0),Aj u,d.want,d.utf,d.end_⟩:Dcd) _ _),?_⟩
 refine have hm1:(D6 ⟨d,[]⟩ u).d=(A1 (⟨d.plan,5,d.stack,(⟨0,0⟩:Scn),d.start,d.at_,((fieldAt d.plan.shapes x1.msg (Bu u)).getD fld0),Aj u,d.want,d.utf,d.end_⟩:Dcd) 9 d.at_):=?_;?_
 rotate_left
 refine have hm2:(D6 ⟨d,[]⟩ u).out=[A3 9 d.at_]:=?_;?_
 rotate_left
 exact⟨Q5,Q9⟩
 refine have hm1:(D6 ⟨d,[]⟩ u).d=(⟨d.plan,5,d.stack,(⟨0,0⟩:Scn),d.start,d.at_,((fieldAt d.plan.shapes x1.msg (Bu u)).getD fld0),Aj u,d.want,d.utf,d.end_⟩:Dcd):=?_;?_
 rotate_left
 refine have hm2:(D6 ⟨d,[]⟩ u).out=([]:List Ev):=?_;?_
 rotate_left
 exact⟨Q5,Q9⟩
 refine dsp (fun h5 p5=>?_) fun h5 p5=>?_
 refine⟨(Ae Q2 Q2),hx1,Q2,dsp (fun h6 p6=>?_) fun h6 p6=>?_⟩
 refine⟨(C1 (⟨d.plan,3,d.stack,(⟨0,0⟩:Scn),d.start,d.at_,((fieldAt d.plan.shapes x1.msg (Bu u)).getD fld0),Aj u,d.want,d.utf,d.end_⟩:Dcd) _ _),?_⟩
 refine have hm1:(D6 ⟨d,[]⟩ u).d=(A1 (⟨d.plan,3,d.stack,(⟨0,0⟩:Scn),d.start,d.at_,((fieldAt d.plan.shapes x1.msg (Bu u)).getD fld0),Aj u,d.want,d.utf,d.end_⟩:Dcd) 9 d.at_):=?_;?_
 rotate_left
 refine have hm2:(D6 ⟨d,[]⟩ u).out=[A3 9 d.at_]:=?_;?_
 rotate_left
 exact⟨Q5,Q9⟩
 refine have hm1:(D6 ⟨d,[]⟩ u).d=(⟨d.plan,3,d.stack,(⟨0,0⟩:Scn),d.start,d.at_,((fieldAt d.plan.shapes x1.msg (Bu u)).getD fld0),Aj u,d.want,d.utf,d.end_⟩:Dcd):=?_;?_
 rotate_left
 refine have hm2:(D6 ⟨d,[]⟩ u).out=([]:List Ev):=?_;?_
 rotate_left
 exact⟨Q5,Q9⟩
 refine dsp (fun h6 p6=>?_) fun h6 p6=>?_
 refine⟨(Ae Q2 Q2),hx1,Q2,dsp (fun h7 p7=>?_) fun h7 p7=>?_⟩
 refine⟨(C1 (⟨d.plan,4,d.stack,(⟨0,0⟩:Scn),d.start,d.at_,((fieldAt d.plan.shapes x1.msg (Bu u)).getD fld0),Aj u,d.want,d.utf,d.end_⟩:Dcd) _ _),?_⟩
 refine have hm1:(D6 ⟨d,[]⟩ u).d=(A1 (⟨d.plan,4,d.stack,(⟨0,0⟩:Scn),d.start,d.at_,((fieldAt d.plan.shapes x1.msg (Bu u)).getD fld0),Aj u,d.want,d.utf,d.end_⟩:Dcd) 9 d.at_):=?_;?_
 rotate_left
 refine have hm2:(D6 ⟨d,[]⟩ u).out=[A3 9 d.at_]:=?_;?_
 rotate_left
 exact⟨Q5,Q9⟩
 refine have hm1:(D6 ⟨d,[]⟩ u).d=(⟨d.plan,4,d.stack,(⟨0,0⟩:Scn),d.start,d.at_,((fieldAt d.plan.shapes x1.msg (Bu u)).getD fld0),Aj u,d.want,d.utf,d.end_⟩:Dcd):=?_;?_
 rotate_left
 refine have hm2:(D6 ⟨d,[]⟩ u).out=([]:List Ev):=?_;?_
 rotate_left
 exact⟨Q5,Q9⟩
 refine⟨(Dk _),(Ae Q2 Q2),hx1,Q2,dsp (fun h7 p7=>?_) fun h7 p7=>?_⟩
 refine⟨(C1 (⟨d.plan,5,d.stack,(⟨0,0⟩:Scn),d.start,d.at_,((fieldAt d.plan.shapes x1.msg (Bu u)).getD fld0),Aj u,d.want,d.utf,d.end_⟩:Dcd) _ _),?_⟩
 refine have hm1:(D6 ⟨d,[]⟩ u).d=(A1 (⟨d.plan,5,d.stack,(⟨0,0⟩:Scn),d.start,d.at_,((fieldAt d.plan.shapes x1.msg (Bu u)).getD fld0),Aj u,d.want,d.utf,d.end_⟩:Dcd) 9 d.at_):=?_;?_
 rotate_left
 refine have hm2:(D6 ⟨d,[]⟩ u).out=[A3 9 d.at_]:=?_;?_
 rotate_left
 exact⟨Q5,Q9⟩
 refine have hm1:(D6 ⟨d,[]⟩ u).d=(⟨d.plan,5,d.stack,(⟨0,0⟩:Scn),d.start,d.at_,((fieldAt d.plan.shapes x1.msg (Bu u)).getD fld0),Aj u,d.want,d.utf,d.end_⟩:Dcd):=?_;?_
 rotate_left
 refine have hm2:(D6 ⟨d,[]⟩ u).out=([]:List Ev):=?_;?_
 rotate_left
 exact⟨Q5,Q9⟩
 all_goals first|((unfold D6;simp only[hll.1,hll.2];(repeat' split)<;>first|(simp_all[Ay,A0,A1,scn0];done)|(exfalso;simp_all[Ay];omega)|grind[Ay,A0,A1,scn0]))|(first|(simp_all[D6,Ay,A0,A1,scn0,utf0,Cb];done)|(grind[D6,Ay,A0,A1,scn0,utf0,Cb]))
set_option maxHeartbeats 1600000 in
theorem Ahq (d:Dcd) (u:Int) (hp1:A7 d=true) (hp2:(0:Int)≤u∧u≤18446744073709551615) (hp3:((d).field=fld0∨known (d).plan.shapes (d).field=true)):Fun Tryz.prog 132 [.agg (Bt d),.c (.int .u64 u)] [] (.tup [.agg (Ad 0 1 (Cg ⟨d,[]⟩ u).d),vO 2]) [.tree (Cg ⟨d,[]⟩ u).d.plan.shapes,.lst .lev (Cg ⟨d,[]⟩ u).d.stack,.lst .ev (Cg ⟨d,[]⟩ u).out]:=by
 have hN:Bg=274877906944:=rfl
 have hlv:=B0 hp1
 have hpt:=B6 hlv.1
 have htb:=Gk hp1
 have hwb:=Dy (Bs d.field.kind)
 refine Ar Tryz.func132 Q4 Q4 (w:=let zi:Int→C:= .int .i64;let z7:List C:=[zi d.end_.kind,zi d.end_.field,.int .u64 d.end_.bits,zi d.end_.len,.str d.end_.text,zi d.end_.code,zi d.end_.at_];let z6:List C:= .own 1:: .int .u64 0::zi 0::zi d.start::zi d.at_::zi d.field.number::zi d.field.kind:: .bool d.field.rep:: .bool d.field.packed::zi d.field.msg::zi d.wire::zi u::zi d.utf.want::zi d.utf.low::zi d.utf.high::z7;let z8:List C:=[zi d.field.number,.int .u64 0,zi u,.str [],zi 0,zi 0];let z14:=((List.length d.stack:Nat):Int);let z15:=Cg ⟨d,[]⟩ u;let z20:=decide (d.field.number=0)&&(decide (d.field.kind=0)&&(decide (d.field.rep=false)&&(decide (d.field.packed=false)&&decide (d.field.msg=0))));let z21:=Ad 0 1 z15.d;let z24:=Bs d.field.kind;let z26:=(⟨6,d.field.number,0,u,[],0,0⟩:Ev);let z30:=(0:Int)≤z14-1;let z32:=(⟨0,0⟩:Scn);let z9:=(⟨d.plan,8,d.stack,z32,d.start,d.at_,d.field,d.wire,u,d.utf,d.end_⟩:Dcd);let z10:=Ac ⟨(⟨d.plan,6,d.stack,z32,d.start,d.at_,d.field,d.wire,u,(⟨0,0,0⟩:Utf),d.end_⟩:Dcd),[]⟩;let z11:=A1 (⟨d.plan,d.mode,d.stack,z32,d.start,d.at_,d.field,d.wire,d.want,d.utf,d.end_⟩:Dcd) 8 d.start;let z12:=Ac ⟨(⟨d.plan,7,d.stack,z32,d.start,d.at_,d.field,d.wire,u,d.utf,d.end_⟩:Dcd),[]⟩;let z13:=A1 (⟨d.plan,d.mode,d.stack,z32,d.start,d.at_,d.field,d.wire,u,d.utf,d.end_⟩:Dcd) 6 d.start;let z18:List Blk:=[.dead,.dead,.tree z11.plan.shapes,.lst .lev z11.stack,.lst .ev [A3 8 d.start]];let z19:=Ac ⟨z9,[]⟩;let z17:List Blk:=[.dead,.dead,.tree z19.d.plan.shapes,.lst .lev z19.d.stack,.lst .ev z19.out];let z23:=A1 z9 9 d.at_;let z25:=([.tree z11.plan.shapes,.lst .lev z11.stack,.lst .ev [A3 8 d.start]]:List Blk);let z27:List Blk:=[.dead,.dead,.tree z13.plan.shapes,.lst .lev z13.stack,.lst .ev [A3 6 d.start]];let z28:=([.tree z19.d.plan.shapes,.lst .lev z19.d.stack,.lst .ev z19.out]:List Blk);let z29:List Blk:=[.dead,.dead,.tree z23.plan.shapes,.lst .lev z23.stack,.lst .ev [A3 9 d.at_]];let z31:List Blk:=[.dead,.dead,.tree z12.d.plan.shapes,.lst .lev z12.d.stack,.lst .ev z12.out];let z33:=(⟨d.field.msg,u⟩:Lev);let z34:=(⟨3,d.field.number,0,u,[],0,0⟩:Ev)::z10.out;let z16:List Blk:=[.dead,.dead,.tree z10.d.plan.shapes,.lst .lev z10.d.stack,.lst .ev z34];let z22:=([.tree z10.d.plan.shapes,.lst .lev z10.d.stack,.lst .ev z34]:List Blk);let z35:=Ad 2 3 z10.d;let z36:=Ad 2 3 z19.d;let z37:=Ad 2 3 z11;let z38:=(.tup [.agg (Ad 0 1 z10.d),vO 2]:S);let z39:=(.tup [.agg (Ad 0 1 z19.d),vO 2]:S);let z40:=(.tup [.agg (Ad 0 1 z11),vO 2]:S);(.seg [.call [] (.v (.agg (Ad 0 1 d))) [.tree d.plan.shapes,.lst .lev d.stack],.call [] (.v (vB (A7 d))) [],.br false,.as 22 (.v (vI (z14-1)))] (.br (.seg [.call [2,3] (.tup [.agg z37,vO 4]) z18] (.leaf () [5,6,7])) (.intro (fun (x1:Lev)=>d.stack[Int.toNat (z14-1)]? =some x1) fun x1=>let z1:=Ac ⟨(⟨d.plan,2,(List.set d.stack (Int.toNat (z14-1)) (⟨x1.msg,x1.left-u⟩:Lev))++[z33],z32,d.start,d.at_,d.field,d.wire,0,d.utf,d.end_⟩:Dcd),[]⟩;.seg [.el .lev x1,.as 33 (.v (.c (.int .u64 x1.left)))] (.br (.seg [.call [2,3] (.tup [.agg z37,vO 4]) z18] (.leaf () [5,6,7])) (.seg [.as 45 (.v (vI u))] (.br (.seg [.call [2,3] (.tup [.agg (Ad 2 3 z12.d),vO 4]) z31] (.leaf () [6,7,8])) (.br (.br (.seg [.call [2,3] (.tup [.agg (Ad 2 3 z13),vO 4]) z27] (.leaf () [6,7,8])) (.seg [.ord (os 14 [13]) [],.el .lev x1,.as 84 (.v (vI (x1.left-u))),.el .lev x1,.ty .lev,.ty .lev,.call [2,7] (.tup [.agg (Ad 2 3 z1.d),vO 4]) [.dead,.dead,.tree z1.d.plan.shapes,.lst .lev z1.d.stack,.lst .ev (z26::z1.out)]] (.leaf () [8,9,10]))) (.br (.seg [.call [2,3] (.tup [.agg z35,vO 4]) z16] (.leaf () [6,7,8])) (.br (.seg [.call [2,3] (.tup [.agg z35,vO 4]) z16] (.leaf () [6,7,8])) (.br (.seg [.call [] (.v (vI z24)) [],.call [] (.v (vI (Ay z24))) []] (.br (.seg [.call [2,3] (.tup [.agg (Ad 2 3 z23),vO 4]) z29] (.leaf () [6,7,8])) (.seg [.call [2,3] (.tup [.agg z36,vO 4]) z17] (.leaf () [6,7,8])))) (.seg [.call [2,3] (.tup [.agg z36,vO 4]) z17] (.leaf () [6,7,8]))))))))))),(Fun Tryz.prog 58 [.agg (Bt d)] [] (.v (.agg (Ad 0 1 d))) [.tree d.plan.shapes,.lst .lev d.stack])∧(Fun Tryz.prog 181 [.agg (Bt d)] [] (.v (vB (A7 d))) [])∧((!(A7 d))=false)∧((.v (vI (IntKind.i64.wrap (z14-1))):S)= .v (vI (z14-1)))∧((decide (z14-1<0))=true→(Fun Tryz.prog 63 [.agg (.own 0::zi d.plan.root::zi d.plan.deep::zi d.plan.most::zi d.mode:: .own 1:: .int .u64 0::zi 0::zi d.start::zi d.at_::zi d.field.number::zi d.field.kind:: .bool d.field.rep:: .bool d.field.packed::zi d.field.msg::zi d.wire::zi d.want::zi d.utf.want::zi d.utf.low::zi d.utf.high::z7),vI 8,vI d.start] [.tree d.plan.shapes,.lst .lev d.stack] (.tup [.agg z37,vO 4]) z18)∧z40= .tup [.agg z21,vO 2]∧z25=[.tree z15.d.plan.shapes,.lst .lev z15.d.stack,.lst .ev z15.out])∧((decide (z14-1<0))=false→(∃(x1:Lev),d.stack[Int.toNat (z14-1)]? =some x1)∧∀(x1:Lev),(d.stack[Int.toNat (z14-1)]? =some x1)→(let z3:=d.stack[Int.toNat (z14-1)]? =some x1;let z4:=List.set d.stack (Int.toNat (z14-1)) (⟨x1.msg,x1.left-u⟩:Lev);let z2:=Ac ⟨(⟨d.plan,2,z4++[z33],z32,d.start,d.at_,d.field,d.wire,0,d.utf,d.end_⟩:Dcd),[]⟩;let z5:=(.v (vI (IntKind.i64.wrap (x1.left-u))):S)= .v (vI (x1.left-u));z3∧z30∧((.v (.c (.int .u64 (IntKind.u64.wrap (x1.left)))):S)= .v (.c (.int .u64 x1.left)))∧((decide (x1.left<u))=true→(Fun Tryz.prog 63 [.agg (.own 0::zi d.plan.root::zi d.plan.deep::zi d.plan.most::zi d.mode:: .own 1:: .int .u64 0::zi 0::zi d.start::zi d.at_::zi d.field.number::zi d.field.kind:: .bool d.field.rep:: .bool d.field.packed::zi d.field.msg::zi d.wire::zi d.want::zi d.utf.want::zi d.utf.low::zi d.utf.high::z7),vI 8,vI d.start] [.tree d.plan.shapes,.lst .lev d.stack] (.tup [.agg z37,vO 4]) z18)∧z40= .tup [.agg z21,vO 2]∧z25=[.tree z15.d.plan.shapes,.lst .lev z15.d.stack,.lst .ev z15.out])∧((decide (x1.left<u))=false→((.v (vI (IntKind.i64.wrap (u))):S)= .v (vI u))∧(z20=true→(Fun Tryz.prog 61 [.agg (.own 0::zi d.plan.root::zi d.plan.deep::zi d.plan.most::zi 7::z6)] [.tree d.plan.shapes,.lst .lev d.stack] (.tup [.agg (Ad 2 3 z12.d),vO 4]) z31)∧(.tup [.agg (Ad 0 1 z12.d),vO 2]:S)= .tup [.agg z21,vO 2]∧([.tree z12.d.plan.shapes,.lst .lev z12.d.stack,.lst .ev z12.out]:List Blk)=[.tree z15.d.plan.shapes,.lst .lev z15.d.stack,.lst .ev z15.out])∧(z20=false→((decide (d.field.kind=8))=true→((decide (d.plan.deep≤z14))=true→(Fun Tryz.prog 63 [.agg (.own 0::zi d.plan.root::zi d.plan.deep::zi d.plan.most::zi d.mode::z6),vI 6,vI d.start] [.tree d.plan.shapes,.lst .lev d.stack] (.tup [.agg (Ad 2 3 z13),vO 4]) z27)∧(.tup [.agg (Ad 0 1 z13),vO 2]:S)= .tup [.agg z21,vO 2]∧([.tree z13.plan.shapes,.lst .lev z13.stack,.lst .ev [A3 6 d.start]]:List Blk)=[.tree z15.d.plan.shapes,.lst .lev z15.d.stack,.lst .ev z15.out])∧((decide (d.plan.deep≤z14))=false→z3∧z30∧z3∧z30∧z5∧z5∧(z14-1<z14)∧z30∧(z14-1<z14)∧z30∧z3∧(List.length z4+List.length [z33]≤Bg)∧(Fun Tryz.prog 64 [.agg (.own 0::zi d.plan.root::zi d.plan.deep::zi d.plan.most::zi 2:: .own 1:: .int .u64 0::zi 0::zi d.start::zi d.at_::zi d.field.number::zi d.field.kind:: .bool d.field.rep:: .bool d.field.packed::zi d.field.msg::zi d.wire::zi 0::zi d.utf.want::zi d.utf.low::zi d.utf.high::z7),.agg (zi 6::z8)] [.tree d.plan.shapes,.lst .lev (z4++[z33])] (.tup [.agg (Ad 2 3 z2.d),vO 4]) [.dead,.dead,.tree z2.d.plan.shapes,.lst .lev z2.d.stack,.lst .ev (z26::z2.out)])∧(.tup [.agg (Ad 0 1 z2.d),vO 2]:S)= .tup [.agg z21,vO 2]∧([.tree z2.d.plan.shapes,.lst .lev z2.d.stack,.lst .ev (z26::z2.out)]:List Blk)=[.tree z15.d.plan.shapes,.lst .lev z15.d.stack,.lst .ev z15.out]))∧((decide (d.field.kind=8))=false→((decide (d.field.kind=6))=true→(Fun Tryz.prog 64 [.agg (.own 0::zi d.plan.root::zi d.plan.deep::zi d.plan.most::zi 6:: .own 1:: .int .u64 0::zi 0::zi d.start::zi d.at_::zi d.field.number::zi d.field.kind:: .bool d.field.rep:: .bool d.field.packed::zi d.field.msg::zi d.wire::zi u::zi 0::zi 0::zi 0::z7),.agg (zi 3::z8)] [.tree d.plan.shapes,.lst .lev d.stack] (.tup [.agg z35,vO 4]) z16)∧z38= .tup [.agg z21,vO 2]∧z22=[.tree z15.d.plan.shapes,.lst .lev z15.d.stack,.lst .ev z15.out])∧((decide (d.field.kind=6))=false→((decide (d.field.kind=7))=true→(Fun Tryz.prog 64 [.agg (.own 0::zi d.plan.root::zi d.plan.deep::zi d.plan.most::zi 6:: .own 1:: .int .u64 0::zi 0::zi d.start::zi d.at_::zi d.field.number::zi d.field.kind:: .bool d.field.rep:: .bool d.field.packed::zi d.field.msg::zi d.wire::zi u::zi 0::zi 0::zi 0::z7),.agg (zi 3::z8)] [.tree d.plan.shapes,.lst .lev d.stack] (.tup [.agg z35,vO 4]) z16)∧z38= .tup [.agg z21,vO 2]∧z22=[.tree z15.d.plan.shapes,.lst .lev z15.d.stack,.lst .ev z15.out])∧((decide (d.field.kind=7))=false→((decide (0<u))=true→(Fun Tryz.prog 124 [vI d.field.kind] [] (.v (vI z24)) [])∧(Fun Tryz.prog 74 [vI z24] [] (.v (vI (Ay z24))) [])∧((decide (u<Ay z24))=true→(Fun Tryz.prog 63 [.agg (.own 0::zi d.plan.root::zi d.plan.deep::zi d.plan.most::zi 8::z6),vI 9,vI d.at_] [.tree d.plan.shapes,.lst .lev d.stack] (.tup [.agg (Ad 2 3 z23),vO 4]) z29)∧(.tup [.agg (Ad 0 1 z23),vO 2]:S)= .tup [.agg z21,vO 2]∧([.tree z23.plan.shapes,.lst .lev z23.stack,.lst .ev [A3 9 d.at_]]:List Blk)=[.tree z15.d.plan.shapes,.lst .lev z15.d.stack,.lst .ev z15.out])∧((decide (u<Ay z24))=false→(Fun Tryz.prog 61 [.agg (.own 0::zi d.plan.root::zi d.plan.deep::zi d.plan.most::zi 8::z6)] [.tree d.plan.shapes,.lst .lev d.stack] (.tup [.agg z36,vO 4]) z17)∧z39= .tup [.agg z21,vO 2]∧z28=[.tree z15.d.plan.shapes,.lst .lev z15.d.stack,.lst .ev z15.out]))∧((decide (0<u))=false→(Fun Tryz.prog 61 [.agg (.own 0::zi d.plan.root::zi d.plan.deep::zi d.plan.most::zi 8::z6)] [.tree d.plan.shapes,.lst .lev d.stack] (.tup [.agg z36,vO 4]) z17)∧z39= .tup [.agg z21,vO 2]∧z28=[.tree z15.d.plan.shapes,.lst .lev z15.d.stack,.lst .ev z15.out])))))))))) Q4 ?_
 refine⟨(Nn d Q2 (D7 hpt.2.1) Q2),(R3 d Q2 Q2),(by simp[hp1]),(Ae Q2 Q2),dsp (fun h1 p1=>?_) fun h1 p1=>?_⟩
 refine⟨(C1 (⟨d.plan,d.mode,d.stack,(⟨0,0⟩:Scn),d.start,d.at_,d.field,d.wire,d.want,d.utf,d.end_⟩:Dcd) _ _),?_⟩
 refine have hm1:(Cg ⟨d,[]⟩ u).d=(A1 (⟨d.plan,d.mode,d.stack,(⟨0,0⟩:Scn),d.start,d.at_,d.field,d.wire,d.want,d.utf,d.end_⟩:Dcd) 8 d.start):=?_;?_
 rotate_left
 refine have hm2:(Cg ⟨d,[]⟩ u).out=[A3 8 d.start]:=?_;?_
 rotate_left
 exact⟨Q5,Q9⟩
 refine⟨(Bm (l:=d.stack) (i:=Int.toNat (((List.length d.stack:Nat):Int)-1)) Q2),fun x1 hx1=>?_⟩
 have hll:=Hs (d:=d) (by rw[←hx1];congr 1;omega)
 have hix:Int.toNat ((d.stack.length:Int)-1)=d.stack.length-1:=by omega
 refine⟨hx1,Q2,(Bv Q2 Q2),dsp (fun h2 p2=>?_) fun h2 p2=>?_⟩
 refine⟨(C1 (⟨d.plan,d.mode,d.stack,(⟨0,0⟩:Scn),d.start,d.at_,d.field,d.wire,d.want,d.utf,d.end_⟩:Dcd) _ _),?_⟩
 refine have hm1:(Cg ⟨d,[]⟩ u).d=(A1 (⟨d.plan,d.mode,d.stack,(⟨0,0⟩:Scn),d.start,d.at_,d.field,d.wire,d.want,d.utf,d.end_⟩:Dcd) 8 d.start):=?_;?_
 rotate_left
 refine have hm2:(Cg ⟨d,[]⟩ u).out=[A3 8 d.start]:=?_;?_
 rotate_left
 exact⟨Q5,Q9⟩
 refine⟨(Ae Q2 Q2),fun h3=>have p3:=(Cc dT (Cc dT (Cc dT (Cc dT dT)))).1 h3;?_,fun h3=>have p3:=(Cd dT (Cd dT (Cd dT (Cd dT dF)))).1 h3;?_⟩
 refine⟨(Gz (⟨d.plan,7,d.stack,(⟨0,0⟩:Scn),d.start,d.at_,d.field,d.wire,u,d.utf,d.end_⟩:Dcd) Q7),?_⟩
 refine have hm1:(Cg ⟨d,[]⟩ u).d=(Ac ⟨(⟨d.plan,7,d.stack,(⟨0,0⟩:Scn),d.start,d.at_,d.field,d.wire,u,d.utf,d.end_⟩:Dcd),[]⟩).d:=?_;?_
 rotate_left
 refine have hm2:(Cg ⟨d,[]⟩ u).out=(Ac ⟨(⟨d.plan,7,d.stack,(⟨0,0⟩:Scn),d.start,d.at_,d.field,d.wire,u,d.utf,d.end_⟩:Dcd),[]⟩).out:=?_;?_
 rotate_left
 exact⟨Q5,Q9⟩
 refine dsp (fun h4 p4=>?_) fun h4 p4=>?_
 refine dsp (fun h5 p5=>?_) fun h5 p5=>?_
 refine⟨(C1 (⟨d.plan,d.mode,d.stack,(⟨0,0⟩:Scn),d.start,d.at_,d.field,d.wire,u,d.utf,d.end_⟩:Dcd) _ _),?_⟩
 refine have hm1:(Cg ⟨d,[]⟩ u).d=(A1 (⟨d.plan,d.mode,d.stack,(⟨0,0⟩:Scn),d.start,d.at_,d.field,d.wire,u,d.utf,d.end_⟩:Dcd) 6 d.start):=?_;?_
 rotate_left
 refine have hm2:(Cg ⟨d,[]⟩ u).out=[A3 6 d.start]:=?_;?_
 rotate_left
 exact⟨Q5,Q9⟩
 refine⟨hx1,Q2,hx1,Q2,(Ae Q2 Q2),(Ae Q2 Q2),Q2,Q2,Q2,Q2,hx1,Q69,(G0 (⟨d.plan,2,(List.set d.stack (Int.toNat (((List.length d.stack:Nat):Int)-1)) (⟨x1.msg,x1.left-u⟩:Lev))++[(⟨d.field.msg,u⟩:Lev)],(⟨0,0⟩:Scn),d.start,d.at_,d.field,d.wire,0,d.utf,d.end_⟩:Dcd) (⟨6,d.field.number,0,u,[],0,0⟩:Ev) Q15),?_⟩
 refine have hm1:(Cg ⟨d,[]⟩ u).d=(Ac ⟨(⟨d.plan,2,(List.set d.stack (Int.toNat (((List.length d.stack:Nat):Int)-1)) (⟨x1.msg,x1.left-u⟩:Lev))++[(⟨d.field.msg,u⟩:Lev)],(⟨0,0⟩:Scn),d.start,d.at_,d.field,d.wire,0,d.utf,d.end_⟩:Dcd),[]⟩).d:=?_;?_
 rotate_left
 refine have hm2:(Cg ⟨d,[]⟩ u).out=(⟨6,d.field.number,0,u,[],0,0⟩:Ev)::(Ac ⟨(⟨d.plan,2,(List.set d.stack (Int.toNat (((List.length d.stack:Nat):Int)-1)) (⟨x1.msg,x1.left-u⟩:Lev))++[(⟨d.field.msg,u⟩:Lev)],(⟨0,0⟩:Scn),d.start,d.at_,d.field,d.wire,0,d.utf,d.end_⟩:Dcd),[]⟩).out:=?_;?_
 rotate_left
 exact⟨Q5,Q9⟩
 refine dsp (fun h5 p5=>?_) fun h5 p5=>?_
 refine⟨(G0 (⟨d.plan,6,d.stack,(⟨0,0⟩:Scn),d.start,d.at_,d.field,d.wire,u,(⟨0,0,0⟩:Utf),d.end_⟩:Dcd) (⟨3,d.field.number,0,u,[],0,0⟩:Ev) Q7),?_⟩
 refine have hm1:(Cg ⟨d,[]⟩ u).d=(Ac ⟨(⟨d.plan,6,d.stack,(⟨0,0⟩:Scn),d.start,d.at_,d.field,d.wire,u,(⟨0,0,0⟩:Utf),d.end_⟩:Dcd),[]⟩).d:=?_;?_
 rotate_left
 refine have hm2:(Cg ⟨d,[]⟩ u).out=(⟨3,d.field.number,0,u,[],0,0⟩:Ev)::(Ac ⟨(⟨d.plan,6,d.stack,(⟨0,0⟩:Scn),d.start,d.at_,d.field,d.wire,u,(⟨0,0,0⟩:Utf),d.end_⟩:Dcd),[]⟩).out:=?_;?_
 rotate_left
 exact⟨Q5,Q9⟩
 refine dsp (fun h6 p6=>?_) fun h6 p6=>?_
 refine⟨(G0 (⟨d.plan,6,d.stack,(⟨0,0⟩:Scn),d.start,d.at_,d.field,d.wire,u,(⟨0,0,0⟩:Utf),d.end_⟩:Dcd) (⟨3,d.field.number,0,u,[],0,0⟩:Ev) Q7),?_⟩
 refine have hm1:(Cg ⟨d,[]⟩ u).d=(Ac ⟨(⟨d.plan,6,d.stack,(⟨0,0⟩:Scn),d.start,d.at_,d.field,d.wire,u,(⟨0,0,0⟩:Utf),d.end_⟩:Dcd),[]⟩).d:=?_;?_
 rotate_left
 refine have hm2:(Cg ⟨d,[]⟩ u).out=(⟨3,d.field.number,0,u,[],0,0⟩:Ev)::(Ac ⟨(⟨d.plan,6,d.stack,(⟨0,0⟩:Scn),d.start,d.at_,d.field,d.wire,u,(⟨0,0,0⟩:Utf),d.end_⟩:Dcd),[]⟩).out:=?_;?_
 rotate_left
 exact⟨Q5,Q9⟩
 refine dsp (fun h7 p7=>?_) fun h7 p7=>?_
 refine⟨(Pa _),(Dk _),dsp (fun h8 p8=>?_) fun h8 p8=>?_⟩
 refine⟨(C1 (⟨d.plan,8,d.stack,(⟨0,0⟩:Scn),d.start,d.at_,d.field,d.wire,u,d.utf,d.end_⟩:Dcd) _ _),?_⟩
 refine have hm1:(Cg ⟨d,[]⟩ u).d=(A1 (⟨d.plan,8,d.stack,(⟨0,0⟩:Scn),d.start,d.at_,d.field,d.wire,u,d.utf,d.end_⟩:Dcd) 9 d.at_):=?_;?_
 rotate_left
 refine have hm2:(Cg ⟨d,[]⟩ u).out=[A3 9 d.at_]:=?_;?_
 rotate_left
 exact⟨Q5,Q9⟩
 refine⟨(Gz (⟨d.plan,8,d.stack,(⟨0,0⟩:Scn),d.start,d.at_,d.field,d.wire,u,d.utf,d.end_⟩:Dcd) Q7),?_⟩
 refine have hm1:(Cg ⟨d,[]⟩ u).d=(Ac ⟨(⟨d.plan,8,d.stack,(⟨0,0⟩:Scn),d.start,d.at_,d.field,d.wire,u,d.utf,d.end_⟩:Dcd),[]⟩).d:=?_;?_
 rotate_left
 refine have hm2:(Cg ⟨d,[]⟩ u).out=(Ac ⟨(⟨d.plan,8,d.stack,(⟨0,0⟩:Scn),d.start,d.at_,d.field,d.wire,u,d.utf,d.end_⟩:Dcd),[]⟩).out:=?_;?_
 rotate_left
 exact⟨Q5,Q9⟩
 refine⟨(Gz (⟨d.plan,8,d.stack,(⟨0,0⟩:Scn),d.start,d.at_,d.field,d.wire,u,d.utf,d.end_⟩:Dcd) Q7),?_⟩
 refine have hm1:(Cg ⟨d,[]⟩ u).d=(Ac ⟨(⟨d.plan,8,d.stack,(⟨0,0⟩:Scn),d.start,d.at_,d.field,d.wire,u,d.utf,d.end_⟩:Dcd),[]⟩).d:=?_;?_
 rotate_left
 refine have hm2:(Cg ⟨d,[]⟩ u).out=(Ac ⟨(⟨d.plan,8,d.stack,(⟨0,0⟩:Scn),d.start,d.at_,d.field,d.wire,u,d.utf,d.end_⟩:Dcd),[]⟩).out:=?_;?_
 rotate_left
 exact⟨Q5,Q9⟩
 all_goals first|(simp_all[Cg,Zm,Zn,Ct,Fq,A0,A1,scn0,utf0,Cb];done)|((have e0:d.field≠fld0:=(fun h=>by have:=congrArg Fld.kind h;simp only[fld0] at this;omega);have e1: ¬(d.stack.length=0∨Dh d<u):=(by omega);have e2: ¬d.plan.deep≤(d.stack.length:Int):=(by omega);unfold Cg;simp only;rw[if_neg e1,if_neg e0,if_pos (by assumption),if_neg e2,hll.1,hll.2];simp only[List.nil_append,Cb,hix];rfl))|((unfold Cg;simp only[hll.1,hll.2,hix,List.nil_append,Cb,Ct,Fq];(repeat' split)<;>first|rfl|(exfalso;omega)|(simp_all[Zm,Zn,A0,A1,scn0,utf0,Cb];done)|(exfalso;simp_all;omega)|(exfalso;grind)|grind[Zm,Zn,A0,A1,scn0,utf0,Cb]))|(grind[Cg,Zm,Zn,Ct,Fq,A0,A1,scn0,utf0,Cb])
theorem Uo (d:Dcd) (u:Int) (hp1:List.length (d).stack≤1000) (hp2:(0:Int)≤u∧u≤18446744073709551615):Fun Tryz.prog 128 [.agg (Ad 0 1 d),.c (.int .u64 u)] [.tree d.plan.shapes,.lst .lev d.stack] (.tup [.agg (Ad 2 3 (Ac (Bn ⟨d,[]⟩ u)).d),vO 4]) [.dead,.dead,.tree (Ac (Bn ⟨d,[]⟩ u)).d.plan.shapes,.lst .lev (Ac (Bn ⟨d,[]⟩ u)).d.stack,.lst .ev (Ac (Bn ⟨d,[]⟩ u)).out]:=by
 have hN:Bg=274877906944:=rfl
 refine Ar Tryz.func128 Q4 Q4 (w:=let zi:Int→C:= .int .i64;let z1:List C:=[.own 0,zi d.plan.root,zi d.plan.deep,zi d.plan.most,zi 2,.own 1,.int .u64 d.scan.bits,zi d.scan.have_,zi d.start,zi d.at_,zi d.field.number,zi d.field.kind,.bool d.field.rep,.bool d.field.packed,zi d.field.msg,zi d.wire,zi d.want,zi d.utf.want,zi d.utf.low,zi d.utf.high,zi d.end_.kind,zi d.end_.field,.int .u64 d.end_.bits,zi d.end_.len,.str d.end_.text,zi d.end_.code,zi d.end_.at_];let z2:=Ac ⟨(⟨d.plan,2,d.stack,d.scan,d.start,d.at_,d.field,d.wire,d.want,d.utf,d.end_⟩:Dcd),[]⟩;let z3:=decide (d.field.number=0)&&(decide (d.field.kind=0)&&(decide (d.field.rep=false)&&(decide (d.field.packed=false)&&decide (d.field.msg=0))));let z5:=Ac ⟨d,[]⟩;let z6:List Blk:=[.dead,.dead,.tree z2.d.plan.shapes,.lst .lev z2.d.stack,.lst .ev ((Eu d.field u)::z2.out)];let z7:List Blk:=[.dead,.dead,.tree z5.d.plan.shapes,.lst .lev z5.d.stack,.lst .ev ((Eu d.field u)::z5.out)];let z8:=Ac (Bn ⟨d,[]⟩ u);let z4:List Blk:=[.dead,.dead,.tree z8.d.plan.shapes,.lst .lev z8.d.stack,.lst .ev z8.out];let z9:List Blk:=[.dead,.dead,.tree z2.d.plan.shapes,.lst .lev z2.d.stack,.lst .ev z2.out];let z10:List Blk:=[.dead,.dead,.tree z5.d.plan.shapes,.lst .lev z5.d.stack,.lst .ev z5.out];let z11:=cEv (Eu d.field u);let z12:=Ad 2 3 z2.d;let z13:=Ad 2 3 z5.d;let z14:=fr (.one 4 (.one 5 (.first 6 (.first 7 (.one 8 (.first 9 (.done))))))) 0 4;let z15:=Ad 2 3 z8.d;(.br (.br (.seg [.call [0,1] (.tup [.agg z12,vO 4]) z9] (.leaf () [0,1,4,5,6])) (.seg [.tree z14 8 [0,1],.call [] (.v (.agg z11)) [],.call [0,1] (.tup [.agg z12,vO 4]) z6] (.leaf () [0,1,4,5,6]))) (.br (.seg [.call [0,1] (.tup [.agg z13,vO 4]) z10] (.leaf () [0,1,4,5,6])) (.seg [.tree z14 8 [0,1],.call [] (.v (.agg z11)) [],.call [0,1] (.tup [.agg z13,vO 4]) z7] (.leaf () [0,1,4,5,6]))),((!decide (d.mode=8))=true→(z3=true→(Fun Tryz.prog 61 [.agg z1] [.tree d.plan.shapes,.lst .lev d.stack] (.tup [.agg z12,vO 4]) z9)∧(.tup [.agg z12,vO 4]:S)= .tup [.agg z15,vO 4]∧(z9:List Blk)=z4)∧(z3=false→(Fun Tryz.prog 127 [.agg (Fm d.field),.c (.int .u64 u)] [] (.v (.agg z11)) [])∧(Fun Tryz.prog 64 [.agg z1,.agg z11] [.tree d.plan.shapes,.lst .lev d.stack] (.tup [.agg z12,vO 4]) z6)∧(.tup [.agg z12,vO 4]:S)= .tup [.agg z15,vO 4]∧(z6:List Blk)=z4))∧((!decide (d.mode=8))=false→(z3=true→(Fun Tryz.prog 61 [.agg (Ad 0 1 d)] [.tree d.plan.shapes,.lst .lev d.stack] (.tup [.agg z13,vO 4]) z10)∧(.tup [.agg z13,vO 4]:S)= .tup [.agg z15,vO 4]∧(z10:List Blk)=z4)∧(z3=false→(Fun Tryz.prog 127 [.agg (Fm d.field),.c (.int .u64 u)] [] (.v (.agg z11)) [])∧(Fun Tryz.prog 64 [.agg (Ad 0 1 d),.agg z11] [.tree d.plan.shapes,.lst .lev d.stack] (.tup [.agg z13,vO 4]) z7)∧(.tup [.agg z13,vO 4]:S)= .tup [.agg z15,vO 4]∧(z7:List Blk)=z4)))) Q4 ?_
 refine⟨fun h1=>have q1:=Ap h1;have p1:=of_decide_eq_false q1;?_,fun h1=>have q1:=Ao h1;have p1:=of_decide_eq_true q1;?_⟩
 refine⟨fun h2=>have p2:=(Cc dT (Cc dT (Cc dT (Cc dT dT)))).1 h2;?_,fun h2=>have p2:=(Cd dT (Cd dT (Cd dT (Cd dT dF)))).1 h2;?_⟩
 refine⟨(Gz (⟨d.plan,2,d.stack,d.scan,d.start,d.at_,d.field,d.wire,d.want,d.utf,d.end_⟩:Dcd) Q7),?_⟩
 refine have hm1:(Ac (Bn ⟨d,[]⟩ u)).d=(Ac ⟨(⟨d.plan,2,d.stack,d.scan,d.start,d.at_,d.field,d.wire,d.want,d.utf,d.end_⟩:Dcd),[]⟩).d:=?_;?_
 rotate_left
 refine have hm2:(Ac (Bn ⟨d,[]⟩ u)).out=(Ac ⟨(⟨d.plan,2,d.stack,d.scan,d.start,d.at_,d.field,d.wire,d.want,d.utf,d.end_⟩:Dcd),[]⟩).out:=?_;?_
 rotate_left
 exact⟨Q5,Q9⟩
 refine⟨(Rx d.field _ Q2),(G0 (⟨d.plan,2,d.stack,d.scan,d.start,d.at_,d.field,d.wire,d.want,d.utf,d.end_⟩:Dcd) (Eu d.field u) Q7),?_⟩
 refine have hm1:(Ac (Bn ⟨d,[]⟩ u)).d=(Ac ⟨(⟨d.plan,2,d.stack,d.scan,d.start,d.at_,d.field,d.wire,d.want,d.utf,d.end_⟩:Dcd),[]⟩).d:=?_;?_
 rotate_left
 refine have hm2:(Ac (Bn ⟨d,[]⟩ u)).out=(Eu d.field u)::(Ac ⟨(⟨d.plan,2,d.stack,d.scan,d.start,d.at_,d.field,d.wire,d.want,d.utf,d.end_⟩:Dcd),[]⟩).out:=?_;?_
 rotate_left
 exact⟨Q5,Q9⟩
 refine⟨fun h2=>have p2:=(Cc dT (Cc dT (Cc dT (Cc dT dT)))).1 h2;?_,fun h2=>have p2:=(Cd dT (Cd dT (Cd dT (Cd dT dF)))).1 h2;?_⟩
 refine⟨(Gz d Q2),?_⟩
 refine have hm1:(Ac (Bn ⟨d,[]⟩ u)).d=(Ac ⟨d,[]⟩).d:=?_;?_
 rotate_left
 refine have hm2:(Ac (Bn ⟨d,[]⟩ u)).out=(Ac ⟨d,[]⟩).out:=?_;?_
 rotate_left
 exact⟨Q5,Q9⟩
 refine⟨(Rx d.field _ Q2),(G0 d (Eu d.field u) Q2),?_⟩
 refine have hm1:(Ac (Bn ⟨d,[]⟩ u)).d=(Ac ⟨d,[]⟩).d:=?_;?_
 rotate_left
 refine have hm2:(Ac (Bn ⟨d,[]⟩ u)).out=(Eu d.field u)::(Ac ⟨d,[]⟩).out:=?_;?_
 rotate_left
 exact⟨Q5,Q9⟩
 all_goals first|((rw[Ad6 (by assumption) (Ad3 (f:=fld0) (by assumption))];simp[Cb];done))|((rw[Ad7 (by assumption) (Wz (by assumption))];done))|(simp_all[Bn,Ct,Cb];done)|((cases d;simp_all[Bn,Ct,Cb];done))|(grind[Bn,Ct,Cb])
set_option maxHeartbeats 1600000 in
theorem Ti (d:Dcd) (b:Int) (a:Int) (hp1:MW d) (hp2:(0:Int)≤b∧b≤255):Fun Tryz.prog 66 [.agg (Ad 0 1 d),vI b,vI a] [.tree d.plan.shapes,.lst .lev d.stack] (.tup [.agg (Ad 2 3 (Bo ⟨d,[]⟩ b a).d),vO 4]) [.dead,.dead,.tree (Bo ⟨d,[]⟩ b a).d.plan.shapes,.lst .lev (Bo ⟨d,[]⟩ b a).d.stack,.lst .ev (Bo ⟨d,[]⟩ b a).out]:=by
 have hN:Bg=274877906944:=rfl
 have hlv:=B0 hp1.lv
 have hpt:=B6 hlv.1
 have htb:=Gk hp1.lv
 have hbb:=hp1.b0
 have hat:=hp1.at_
 have hwt:=hp1.want
 have hwd:=Hw d
 have hsb:=N9 (b:=b) hbb.1 hbb.2
 refine Ar Tryz.func66 Q4 Q4 (w:=let zi:Int→C:= .int .i64;let z1:List C:=[zi d.at_,zi d.field.number,zi d.field.kind,.bool d.field.rep,.bool d.field.packed,zi d.field.msg,zi d.wire,zi d.want,zi d.utf.want,zi d.utf.low,zi d.utf.high,zi d.end_.kind,zi d.end_.field,.int .u64 d.end_.bits,zi d.end_.len,.str d.end_.text,zi d.end_.code,zi d.end_.at_];let z4:=(⟨d.plan,d.mode,d.stack,(⟨0,0⟩:Scn),d.start,d.at_,d.field,d.wire,d.want,d.utf,d.end_⟩:Dcd);let z6:=Af d.scan b;let z2:=A1 (⟨d.plan,d.mode,d.stack,z6.1,a,d.at_,d.field,d.wire,d.want,d.utf,d.end_⟩:Dcd) 9 d.at_;let z3:=A1 (⟨d.plan,d.mode,d.stack,z6.1,d.start,d.at_,d.field,d.wire,d.want,d.utf,d.end_⟩:Dcd) 9 d.at_;let z7:=(⟨d.plan,d.mode,d.stack,(⟨0,0⟩:Scn),a,d.at_,d.field,d.wire,d.want,d.utf,d.end_⟩:Dcd);let z8:=A1 (⟨d.plan,d.mode,d.stack,d.scan,a,d.at_,d.field,d.wire,d.want,d.utf,d.end_⟩:Dcd) 1 a;let z9:=(.tup [.agg (.own 2::zi d.plan.root::zi d.plan.deep::zi d.plan.most::zi d.mode:: .own 3:: .int .u64 z6.1.bits::zi z6.1.have_::zi a::z1),vO 4]:S);let z10:List Blk:=[.dead,.dead,.tree z2.plan.shapes,.lst .lev z2.stack,.lst .ev [A3 9 d.at_]];let z11:=([.dead,.dead,.tree d.plan.shapes,.lst .lev d.stack,.lst .ev ([]:List Ev)]:List Blk);let z13:=(.tup [.agg (.own 2::zi d.plan.root::zi d.plan.deep::zi d.plan.most::zi d.mode:: .own 3:: .int .u64 z6.1.bits::zi z6.1.have_::zi d.start::z1),vO 4]:S);let z14:List Blk:=[.dead,.dead,.tree z3.plan.shapes,.lst .lev z3.stack,.lst .ev [A3 9 d.at_]];let z16:List Blk:=[.dead,.dead,.tree z8.plan.shapes,.lst .lev z8.stack,.lst .ev [A3 1 a]];let z17:List Blk:=[.dead,.dead,.tree (A1 d 1 a).plan.shapes,.lst .lev (A1 d 1 a).stack,.lst .ev [A3 1 a]];let z18:=decide (d.mode=8);let z19:=decide (d.want=0);let z20:=Ad 2 3 z2;let z21:=Ac (Bn ⟨z4,[]⟩ z6.1.bits);let z15:List Blk:=[.dead,.dead,.tree z21.d.plan.shapes,.lst .lev z21.d.stack,.lst .ev z21.out];let z22:=Cs ⟨z7,[]⟩ z6.1.bits;let z23:=Cs ⟨z4,[]⟩ z6.1.bits;let z24:=Cg ⟨z7,[]⟩ z6.1.bits;let z25:=Cg ⟨z4,[]⟩ z6.1.bits;let z28:=D6 ⟨z7,[]⟩ z6.1.bits;let z29:=D6 ⟨z4,[]⟩ z6.1.bits;let z30:=Ad 2 3 z3;let z31:=(.tup [.agg z20,vO 4]:S);let z32:= !decide (d.mode=1);let z33:=decide (Dh d=0);let z36:=decide (z6.2=2);let z37:=decide (z6.2=0);let z38:=decide (d.mode=1);let z39:=Ad 2 3 (A1 d 1 a);let z40:=(.tup [.agg z30,vO 4]:S);let z41:=decide (d.mode=2);let z42:=Ad 2 3 z8;let z43:=vI (Dh d);let z44:=decide (d.mode=4);let z45:=Ad 2 3 z21.d;let z46:=J0 z6.1;let z47:=(.tup [.agg z42,vO 4]:S);let z48:=Bo ⟨d,[]⟩ b a;let z5:List Blk:=[.dead,.dead,.tree z48.d.plan.shapes,.lst .lev z48.d.stack,.lst .ev z48.out];let z12:=Ad 2 3 z48.d;let z26:=z19=false→z9= .tup [.agg z12,vO 4]∧z11=z5;let z27:=z18=false→z9= .tup [.agg z12,vO 4]∧z11=z5;let z34:=z19=false→z13= .tup [.agg z12,vO 4]∧z11=z5;let z35:=z18=false→z13= .tup [.agg z12,vO 4]∧z11=z5;let z49:=J0 d.scan;(.br (.br (.seg [.call [] (.tup [.agg z46,vI z6.2]) []] (.br (.seg [.call [0,1] (.tup [.agg z42,vO 4]) z16] (.leaf () [0,1,5,6,7])) (.br (.br (.seg [.call [] (.v z43) []] (.br (.seg [.call [0,1] (.tup [.agg z20,vO 4]) z10] (.leaf () [0,1,5,6,7])) (.br (.br (.seg [.call [0,1] (.tup [.agg z20,vO 4]) z10] (.leaf () [0,1,5,6,7])) (.seg [.ty .ev,.at 0,.cut 3 0,.cut 3 5] (.leaf () [0,1,6,7,5]))) (.seg [.ty .ev,.at 0,.cut 3 0,.cut 3 5] (.leaf () [0,1,6,7,5]))))) (.br (.br (.seg [.call [0,1] (.tup [.agg z20,vO 4]) z10] (.leaf () [0,1,5,6,7])) (.seg [.ty .ev,.at 0,.cut 3 0,.cut 3 5] (.leaf () [0,1,6,7,5]))) (.seg [.ty .ev,.at 0,.cut 3 0,.cut 3 5] (.leaf () [0,1,6,7,5])))) (.seg [.br true,.call [] (.tup [.agg (Ad 0 1 z22.d),vO 2]) [.tree z22.d.plan.shapes,.lst .lev z22.d.stack,.lst .ev z22.out],.at 0,.kill 0,.kill 1] (.leaf () [0,1,5,6,7]))))) (.br (.seg [.call [] (.tup [.agg z46,vI z6.2]) []] (.br (.seg [.call [0,1] (.tup [.agg z42,vO 4]) z16] (.leaf () [0,1,5,6,7])) (.br (.br (.seg [.call [] (.v z43) []] (.br (.seg [.call [0,1] (.tup [.agg z20,vO 4]) z10] (.leaf () [0,1,5,6,7])) (.br (.br (.seg [.call [0,1] (.tup [.agg z20,vO 4]) z10] (.leaf () [0,1,5,6,7])) (.seg [.ty .ev,.at 0,.cut 3 0,.cut 3 5] (.leaf () [0,1,6,7,5]))) (.seg [.ty .ev,.at 0,.cut 3 0,.cut 3 5] (.leaf () [0,1,6,7,5]))))) (.br (.br (.seg [.call [0,1] (.tup [.agg z20,vO 4]) z10] (.leaf () [0,1,5,6,7])) (.seg [.ty .ev,.at 0,.cut 3 0,.cut 3 5] (.leaf () [0,1,6,7,5]))) (.seg [.ty .ev,.at 0,.cut 3 0,.cut 3 5] (.leaf () [0,1,6,7,5])))) (.seg [.br false,.br true,.call [] (.tup [.agg (Ad 0 1 z28.d),vO 2]) [.tree z28.d.plan.shapes,.lst .lev z28.d.stack,.lst .ev z28.out],.at 0,.kill 0,.kill 1] (.leaf () [0,1,5,6,7]))))) (.br (.seg [.call [] (.tup [.agg z46,vI z6.2]) []] (.br (.seg [.call [0,1] (.tup [.agg z42,vO 4]) z16] (.leaf () [0,1,5,6,7])) (.br (.br (.seg [.call [] (.v z43) []] (.br (.seg [.call [0,1] (.tup [.agg z20,vO 4]) z10] (.leaf () [0,1,5,6,7])) (.br (.br (.seg [.call [0,1] (.tup [.agg z20,vO 4]) z10] (.leaf () [0,1,5,6,7])) (.seg [.ty .ev,.at 0,.cut 3 0,.cut 3 5] (.leaf () [0,1,6,7,5]))) (.seg [.ty .ev,.at 0,.cut 3 0,.cut 3 5] (.leaf () [0,1,6,7,5]))))) (.br (.br (.seg [.call [0,1] (.tup [.agg z20,vO 4]) z10] (.leaf () [0,1,5,6,7])) (.seg [.ty .ev,.at 0,.cut 3 0,.cut 3 5] (.leaf () [0,1,6,7,5]))) (.seg [.ty .ev,.at 0,.cut 3 0,.cut 3 5] (.leaf () [0,1,6,7,5])))) (.seg [.br false,.br false,.br true,.call [] (.tup [.agg (Ad 0 1 z24.d),vO 2]) [.tree z24.d.plan.shapes,.lst .lev z24.d.stack,.lst .ev z24.out],.at 0,.kill 0,.kill 1] (.leaf () [0,1,5,6,7]))))) (.seg [.call [] (.tup [.agg z46,vI z6.2]) []] (.br (.seg [.call [0,1] (.tup [.agg z39,vO 4]) z17] (.leaf () [0,1,5,6,7])) (.br (.br (.seg [.call [] (.v z43) []] (.br (.seg [.call [0,1] (.tup [.agg z30,vO 4]) z14] (.leaf () [0,1,5,6,7])) (.br (.br (.seg [.call [0,1] (.tup [.agg z30,vO 4]) z14] (.leaf () [0,1,5,6,7])) (.seg [.ty .ev,.at 0,.cut 3 0,.cut 3 5] (.leaf () [0,1,6,7,5]))) (.seg [.ty .ev,.at 0,.cut 3 0,.cut 3 5] (.leaf () [0,1,6,7,5]))))) (.br (.br (.seg [.call [0,1] (.tup [.agg z30,vO 4]) z14] (.leaf () [0,1,5,6,7])) (.seg [.ty .ev,.at 0,.cut 3 0,.cut 3 5] (.leaf () [0,1,6,7,5]))) (.seg [.ty .ev,.at 0,.cut 3 0,.cut 3 5] (.leaf () [0,1,6,7,5])))) (.seg [.br false,.br false,.br false,.call [0,1] (.tup [.agg z45,vO 4]) z15] (.leaf () [0,1,5,6,7])))))))) (.seg [.call [] (.tup [.agg z46,vI z6.2]) []] (.br (.seg [.call [0,1] (.tup [.agg z39,vO 4]) z17] (.leaf () [0,1,5,6,7])) (.br (.br (.seg [.call [] (.v z43) []] (.br (.seg [.call [0,1] (.tup [.agg z30,vO 4]) z14] (.leaf () [0,1,5,6,7])) (.br (.br (.seg [.call [0,1] (.tup [.agg z30,vO 4]) z14] (.leaf () [0,1,5,6,7])) (.seg [.ty .ev,.at 0,.cut 3 0,.cut 3 5] (.leaf () [0,1,6,7,5]))) (.seg [.ty .ev,.at 0,.cut 3 0,.cut 3 5] (.leaf () [0,1,6,7,5]))))) (.br (.br (.seg [.call [0,1] (.tup [.agg z30,vO 4]) z14] (.leaf () [0,1,5,6,7])) (.seg [.ty .ev,.at 0,.cut 3 0,.cut 3 5] (.leaf () [0,1,6,7,5]))) (.seg [.ty .ev,.at 0,.cut 3 0,.cut 3 5] (.leaf () [0,1,6,7,5])))) (.br (.seg [.call [] (.tup [.agg (Ad 0 1 z23.d),vO 2]) [.tree z23.d.plan.shapes,.lst .lev z23.d.stack,.lst .ev z23.out],.at 0,.kill 0,.kill 1] (.leaf () [0,1,5,6,7])) (.br (.seg [.call [] (.tup [.agg (Ad 0 1 z29.d),vO 2]) [.tree z29.d.plan.shapes,.lst .lev z29.d.stack,.lst .ev z29.out],.at 0,.kill 0,.kill 1] (.leaf () [0,1,5,6,7])) (.br (.seg [.call [] (.tup [.agg (Ad 0 1 z25.d),vO 2]) [.tree z25.d.plan.shapes,.lst .lev z25.d.stack,.lst .ev z25.out],.at 0,.kill 0,.kill 1] (.leaf () [0,1,5,6,7])) (.seg [.call [0,1] (.tup [.agg z45,vO 4]) z15] (.leaf () [0,1,5,6,7])))))))),((decide (d.scan.have_=0))=true→(z38=true→(Fun Tryz.prog 129 [.agg z49,vI b] [] (.tup [.agg z46,vI z6.2]) [])∧(z36=true→(Fun Tryz.prog 63 [.agg (.own 0::zi d.plan.root::zi d.plan.deep::zi d.plan.most::zi d.mode:: .own 1:: .int .u64 d.scan.bits::zi d.scan.have_::zi a::z1),vI 1,vI a] [.tree d.plan.shapes,.lst .lev d.stack] (.tup [.agg z42,vO 4]) z16)∧z47= .tup [.agg z12,vO 4]∧(z16:List Blk)=z5)∧(z36=false→(z37=true→(z32=true→(Fun Tryz.prog 73 [.agg (.seq .shp d.plan.shapes::zi d.plan.root::zi d.plan.deep::zi d.plan.most::zi d.mode:: .seq .lev d.stack:: .int .u64 z6.1.bits::zi z6.1.have_::zi a::z1)] [] (.v z43) [])∧(z33=true→(Fun Tryz.prog 63 [.agg (.own 0::zi d.plan.root::zi d.plan.deep::zi d.plan.most::zi d.mode:: .own 1:: .int .u64 z6.1.bits::zi z6.1.have_::zi a::z1),vI 9,vI d.at_] [.tree d.plan.shapes,.lst .lev d.stack] (.tup [.agg z20,vO 4]) z10)∧z31= .tup [.agg z12,vO 4]∧(z10:List Blk)=z5)∧(z33=false→(z18=true→(z19=true→(Fun Tryz.prog 63 [.agg (.own 0::zi d.plan.root::zi d.plan.deep::zi d.plan.most::zi d.mode:: .own 1:: .int .u64 z6.1.bits::zi z6.1.have_::zi a::z1),vI 9,vI d.at_] [.tree d.plan.shapes,.lst .lev d.stack] (.tup [.agg z20,vO 4]) z10)∧z31= .tup [.agg z12,vO 4]∧(z10:List Blk)=z5)∧z26)∧z27))∧(z32=false→(z18=true→(z19=true→(Fun Tryz.prog 63 [.agg (.own 0::zi d.plan.root::zi d.plan.deep::zi d.plan.most::zi d.mode:: .own 1:: .int .u64 z6.1.bits::zi z6.1.have_::zi a::z1),vI 9,vI d.at_] [.tree d.plan.shapes,.lst .lev d.stack] (.tup [.agg z20,vO 4]) z10)∧z31= .tup [.agg z12,vO 4]∧(z10:List Blk)=z5)∧z26)∧z27))∧(z37=false→(z38=true)∧(Fun Tryz.prog 130 [.agg (.seq .shp d.plan.shapes::zi d.plan.root::zi d.plan.deep::zi d.plan.most::zi d.mode:: .seq .lev d.stack:: .int .u64 0::zi 0::zi a::z1),.c (.int .u64 z6.1.bits)] [] (.tup [.agg (Ad 0 1 z22.d),vO 2]) [.tree z22.d.plan.shapes,.lst .lev z22.d.stack,.lst .ev z22.out])∧(.tup [.agg (Ad 2 3 z22.d),vO 4]:S)= .tup [.agg z12,vO 4]∧([.dead,.dead,.tree z22.d.plan.shapes,.lst .lev z22.d.stack,.lst .ev z22.out]:List Blk)=z5)))∧(z38=false→(z41=true→(Fun Tryz.prog 129 [.agg z49,vI b] [] (.tup [.agg z46,vI z6.2]) [])∧(z36=true→(Fun Tryz.prog 63 [.agg (.own 0::zi d.plan.root::zi d.plan.deep::zi d.plan.most::zi d.mode:: .own 1:: .int .u64 d.scan.bits::zi d.scan.have_::zi a::z1),vI 1,vI a] [.tree d.plan.shapes,.lst .lev d.stack] (.tup [.agg z42,vO 4]) z16)∧z47= .tup [.agg z12,vO 4]∧(z16:List Blk)=z5)∧(z36=false→(z37=true→(z32=true→(Fun Tryz.prog 73 [.agg (.seq .shp d.plan.shapes::zi d.plan.root::zi d.plan.deep::zi d.plan.most::zi d.mode:: .seq .lev d.stack:: .int .u64 z6.1.bits::zi z6.1.have_::zi a::z1)] [] (.v z43) [])∧(z33=true→(Fun Tryz.prog 63 [.agg (.own 0::zi d.plan.root::zi d.plan.deep::zi d.plan.most::zi d.mode:: .own 1:: .int .u64 z6.1.bits::zi z6.1.have_::zi a::z1),vI 9,vI d.at_] [.tree d.plan.shapes,.lst .lev d.stack] (.tup [.agg z20,vO 4]) z10)∧z31= .tup [.agg z12,vO 4]∧(z10:List Blk)=z5)∧(z33=false→(z18=true→(z19=true→(Fun Tryz.prog 63 [.agg (.own 0::zi d.plan.root::zi d.plan.deep::zi d.plan.most::zi d.mode:: .own 1:: .int .u64 z6.1.bits::zi z6.1.have_::zi a::z1),vI 9,vI d.at_] [.tree d.plan.shapes,.lst .lev d.stack] (.tup [.agg z20,vO 4]) z10)∧z31= .tup [.agg z12,vO 4]∧(z10:List Blk)=z5)∧z26)∧z27))∧(z32=false→(z18=true→(z19=true→(Fun Tryz.prog 63 [.agg (.own 0::zi d.plan.root::zi d.plan.deep::zi d.plan.most::zi d.mode:: .own 1:: .int .u64 z6.1.bits::zi z6.1.have_::zi a::z1),vI 9,vI d.at_] [.tree d.plan.shapes,.lst .lev d.stack] (.tup [.agg z20,vO 4]) z10)∧z31= .tup [.agg z12,vO 4]∧(z10:List Blk)=z5)∧z26)∧z27))∧(z37=false→(z38=false)∧(z41=true)∧(Fun Tryz.prog 131 [.agg (.seq .shp d.plan.shapes::zi d.plan.root::zi d.plan.deep::zi d.plan.most::zi d.mode:: .seq .lev d.stack:: .int .u64 0::zi 0::zi a::z1),.c (.int .u64 z6.1.bits)] [] (.tup [.agg (Ad 0 1 z28.d),vO 2]) [.tree z28.d.plan.shapes,.lst .lev z28.d.stack,.lst .ev z28.out])∧(.tup [.agg (Ad 2 3 z28.d),vO 4]:S)= .tup [.agg z12,vO 4]∧([.dead,.dead,.tree z28.d.plan.shapes,.lst .lev z28.d.stack,.lst .ev z28.out]:List Blk)=z5)))∧(z41=false→(z44=true→(Fun Tryz.prog 129 [.agg z49,vI b] [] (.tup [.agg z46,vI z6.2]) [])∧(z36=true→(Fun Tryz.prog 63 [.agg (.own 0::zi d.plan.root::zi d.plan.deep::zi d.plan.most::zi d.mode:: .own 1:: .int .u64 d.scan.bits::zi d.scan.have_::zi a::z1),vI 1,vI a] [.tree d.plan.shapes,.lst .lev d.stack] (.tup [.agg z42,vO 4]) z16)∧z47= .tup [.agg z12,vO 4]∧(z16:List Blk)=z5)∧(z36=false→(z37=true→(z32=true→(Fun Tryz.prog 73 [.agg (.seq .shp d.plan.shapes::zi d.plan.root::zi d.plan.deep::zi d.plan.most::zi d.mode:: .seq .lev d.stack:: .int .u64 z6.1.bits::zi z6.1.have_::zi a::z1)] [] (.v z43) [])∧(z33=true→(Fun Tryz.prog 63 [.agg (.own 0::zi d.plan.root::zi d.plan.deep::zi d.plan.most::zi d.mode:: .own 1:: .int .u64 z6.1.bits::zi z6.1.have_::zi a::z1),vI 9,vI d.at_] [.tree d.plan.shapes,.lst .lev d.stack] (.tup [.agg z20,vO 4]) z10)∧z31= .tup [.agg z12,vO 4]∧(z10:List Blk)=z5)∧(z33=false→(z18=true→(z19=true→(Fun Tryz.prog 63 [.agg (.own 0::zi d.plan.root::zi d.plan.deep::zi d.plan.most::zi d.mode:: .own 1:: .int .u64 z6.1.bits::zi z6.1.have_::zi a::z1),vI 9,vI d.at_] [.tree d.plan.shapes,.lst .lev d.stack] (.tup [.agg z20,vO 4]) z10)∧z31= .tup [.agg z12,vO 4]∧(z10:List Blk)=z5)∧z26)∧z27))∧(z32=false→(z18=true→(z19=true→(Fun Tryz.prog 63 [.agg (.own 0::zi d.plan.root::zi d.plan.deep::zi d.plan.most::zi d.mode:: .own 1:: .int .u64 z6.1.bits::zi z6.1.have_::zi a::z1),vI 9,vI d.at_] [.tree d.plan.shapes,.lst .lev d.stack] (.tup [.agg z20,vO 4]) z10)∧z31= .tup [.agg z12,vO 4]∧(z10:List Blk)=z5)∧z26)∧z27))∧(z37=false→(z38=false)∧(z41=false)∧(z44=true)∧(Fun Tryz.prog 132 [.agg (.seq .shp d.plan.shapes::zi d.plan.root::zi d.plan.deep::zi d.plan.most::zi d.mode:: .seq .lev d.stack:: .int .u64 0::zi 0::zi a::z1),.c (.int .u64 z6.1.bits)] [] (.tup [.agg (Ad 0 1 z24.d),vO 2]) [.tree z24.d.plan.shapes,.lst .lev z24.d.stack,.lst .ev z24.out])∧(.tup [.agg (Ad 2 3 z24.d),vO 4]:S)= .tup [.agg z12,vO 4]∧([.dead,.dead,.tree z24.d.plan.shapes,.lst .lev z24.d.stack,.lst .ev z24.out]:List Blk)=z5)))∧(z44=false→(Fun Tryz.prog 129 [.agg z49,vI b] [] (.tup [.agg z46,vI z6.2]) [])∧(z36=true→(Fun Tryz.prog 63 [.agg (Ad 0 1 d),vI 1,vI a] [.tree d.plan.shapes,.lst .lev d.stack] (.tup [.agg z39,vO 4]) z17)∧(.tup [.agg z39,vO 4]:S)= .tup [.agg z12,vO 4]∧(z17:List Blk)=z5)∧(z36=false→(z37=true→(z32=true→(Fun Tryz.prog 73 [.agg (.seq .shp d.plan.shapes::zi d.plan.root::zi d.plan.deep::zi d.plan.most::zi d.mode:: .seq .lev d.stack:: .int .u64 z6.1.bits::zi z6.1.have_::zi d.start::z1)] [] (.v z43) [])∧(z33=true→(Fun Tryz.prog 63 [.agg (.own 0::zi d.plan.root::zi d.plan.deep::zi d.plan.most::zi d.mode:: .own 1:: .int .u64 z6.1.bits::zi z6.1.have_::zi d.start::z1),vI 9,vI d.at_] [.tree d.plan.shapes,.lst .lev d.stack] (.tup [.agg z30,vO 4]) z14)∧z40= .tup [.agg z12,vO 4]∧(z14:List Blk)=z5)∧(z33=false→(z18=true→(z19=true→(Fun Tryz.prog 63 [.agg (.own 0::zi d.plan.root::zi d.plan.deep::zi d.plan.most::zi d.mode:: .own 1:: .int .u64 z6.1.bits::zi z6.1.have_::zi d.start::z1),vI 9,vI d.at_] [.tree d.plan.shapes,.lst .lev d.stack] (.tup [.agg z30,vO 4]) z14)∧z40= .tup [.agg z12,vO 4]∧(z14:List Blk)=z5)∧z34)∧z35))∧(z32=false→(z18=true→(z19=true→(Fun Tryz.prog 63 [.agg (.own 0::zi d.plan.root::zi d.plan.deep::zi d.plan.most::zi d.mode:: .own 1:: .int .u64 z6.1.bits::zi z6.1.have_::zi d.start::z1),vI 9,vI d.at_] [.tree d.plan.shapes,.lst .lev d.stack] (.tup [.agg z30,vO 4]) z14)∧z40= .tup [.agg z12,vO 4]∧(z14:List Blk)=z5)∧z34)∧z35))∧(z37=false→(z38=false)∧(z41=false)∧(z44=false)∧(Fun Tryz.prog 128 [.agg (.own 0::zi d.plan.root::zi d.plan.deep::zi d.plan.most::zi d.mode:: .own 1:: .int .u64 0::zi 0::zi d.start::z1),.c (.int .u64 z6.1.bits)] [.tree d.plan.shapes,.lst .lev d.stack] (.tup [.agg z45,vO 4]) z15)∧(.tup [.agg z45,vO 4]:S)= .tup [.agg z12,vO 4]∧(z15:List Blk)=z5))))))∧((decide (d.scan.have_=0))=false→(Fun Tryz.prog 129 [.agg z49,vI b] [] (.tup [.agg z46,vI z6.2]) [])∧(z36=true→(Fun Tryz.prog 63 [.agg (Ad 0 1 d),vI 1,vI a] [.tree d.plan.shapes,.lst .lev d.stack] (.tup [.agg z39,vO 4]) z17)∧(.tup [.agg z39,vO 4]:S)= .tup [.agg z12,vO 4]∧(z17:List Blk)=z5)∧(z36=false→(z37=true→(z32=true→(Fun Tryz.prog 73 [.agg (.seq .shp d.plan.shapes::zi d.plan.root::zi d.plan.deep::zi d.plan.most::zi d.mode:: .seq .lev d.stack:: .int .u64 z6.1.bits::zi z6.1.have_::zi d.start::z1)] [] (.v z43) [])∧(z33=true→(Fun Tryz.prog 63 [.agg (.own 0::zi d.plan.root::zi d.plan.deep::zi d.plan.most::zi d.mode:: .own 1:: .int .u64 z6.1.bits::zi z6.1.have_::zi d.start::z1),vI 9,vI d.at_] [.tree d.plan.shapes,.lst .lev d.stack] (.tup [.agg z30,vO 4]) z14)∧z40= .tup [.agg z12,vO 4]∧(z14:List Blk)=z5)∧(z33=false→(z18=true→(z19=true→(Fun Tryz.prog 63 [.agg (.own 0::zi d.plan.root::zi d.plan.deep::zi d.plan.most::zi d.mode:: .own 1:: .int .u64 z6.1.bits::zi z6.1.have_::zi d.start::z1),vI 9,vI d.at_] [.tree d.plan.shapes,.lst .lev d.stack] (.tup [.agg z30,vO 4]) z14)∧z40= .tup [.agg z12,vO 4]∧(z14:List Blk)=z5)∧z34)∧z35))∧(z32=false→(z18=true→(z19=true→(Fun Tryz.prog 63 [.agg (.own 0::zi d.plan.root::zi d.plan.deep::zi d.plan.most::zi d.mode:: .own 1:: .int .u64 z6.1.bits::zi z6.1.have_::zi d.start::z1),vI 9,vI d.at_] [.tree d.plan.shapes,.lst .lev d.stack] (.tup [.agg z30,vO 4]) z14)∧z40= .tup [.agg z12,vO 4]∧(z14:List Blk)=z5)∧z34)∧z35))∧(z37=false→(z38=true→(Fun Tryz.prog 130 [.agg (.seq .shp d.plan.shapes::zi d.plan.root::zi d.plan.deep::zi d.plan.most::zi d.mode:: .seq .lev d.stack:: .int .u64 0::zi 0::zi d.start::z1),.c (.int .u64 z6.1.bits)] [] (.tup [.agg (Ad 0 1 z23.d),vO 2]) [.tree z23.d.plan.shapes,.lst .lev z23.d.stack,.lst .ev z23.out])∧(.tup [.agg (Ad 2 3 z23.d),vO 4]:S)= .tup [.agg z12,vO 4]∧([.dead,.dead,.tree z23.d.plan.shapes,.lst .lev z23.d.stack,.lst .ev z23.out]:List Blk)=z5)∧(z38=false→(z41=true→(Fun Tryz.prog 131 [.agg (.seq .shp d.plan.shapes::zi d.plan.root::zi d.plan.deep::zi d.plan.most::zi d.mode:: .seq .lev d.stack:: .int .u64 0::zi 0::zi d.start::z1),.c (.int .u64 z6.1.bits)] [] (.tup [.agg (Ad 0 1 z29.d),vO 2]) [.tree z29.d.plan.shapes,.lst .lev z29.d.stack,.lst .ev z29.out])∧(.tup [.agg (Ad 2 3 z29.d),vO 4]:S)= .tup [.agg z12,vO 4]∧([.dead,.dead,.tree z29.d.plan.shapes,.lst .lev z29.d.stack,.lst .ev z29.out]:List Blk)=z5)∧(z41=false→(z44=true→(Fun Tryz.prog 132 [.agg (.seq .shp d.plan.shapes::zi d.plan.root::zi d.plan.deep::zi d.plan.most::zi d.mode:: .seq .lev d.stack:: .int .u64 0::zi 0::zi d.start::z1),.c (.int .u64 z6.1.bits)] [] (.tup [.agg (Ad 0 1 z25.d),vO 2]) [.tree z25.d.plan.shapes,.lst .lev z25.d.stack,.lst .ev z25.out])∧(.tup [.agg (Ad 2 3 z25.d),vO 4]:S)= .tup [.agg z12,vO 4]∧([.dead,.dead,.tree z25.d.plan.shapes,.lst .lev z25.d.stack,.lst .ev z25.out]:List Blk)=z5)∧(z44=false→(Fun Tryz.prog 128 [.agg (.own 0::zi d.plan.root::zi d.plan.deep::zi d.plan.most::zi d.mode:: .own 1:: .int .u64 0::zi 0::zi d.start::z1),.c (.int .u64 z6.1.bits)] [.tree d.plan.shapes,.lst .lev d.stack] (.tup [.agg z45,vO 4]) z15)∧(.tup [.agg z45,vO 4]:S)= .tup [.agg z12,vO 4]∧(z15:List Blk)=z5)))))))) Q4 ?_
 refine dsp (fun h1 p1=>?_) fun h1 p1=>?_
 refine dsp (fun h2 p2=>?_) fun h2 p2=>?_
 refine⟨(Jd d.scan _ Q2),dsp (fun h3 p3=>?_) fun h3 p3=>?_⟩
 refine⟨(C1 (⟨d.plan,d.mode,d.stack,d.scan,a,d.at_,d.field,d.wire,d.want,d.utf,d.end_⟩:Dcd) _ _),?_⟩
 refine have hm1:(Bo ⟨d,[]⟩ b a).d=(A1 (⟨d.plan,d.mode,d.stack,d.scan,a,d.at_,d.field,d.wire,d.want,d.utf,d.end_⟩:Dcd) 1 a):=?_;?_
 rotate_left
 refine have hm2:(Bo ⟨d,[]⟩ b a).out=[A3 1 a]:=?_;?_
 rotate_left
 exact⟨Q5,Q9⟩
 refine dsp (fun h4 p4=>?_) fun h4 p4=>?_
 refine⟨fun h5=>have q5:=Ap h5;have p5:=of_decide_eq_false q5;?_,fun h5=>have q5:=Ao h5;have p5:=of_decide_eq_true q5;?_⟩
 refine⟨(Mx (⟨d.plan,d.mode,d.stack,(Af d.scan b).1,a,d.at_,d.field,d.wire,d.want,d.utf,d.end_⟩:Dcd) Q7),dsp (fun h6 p6=>?_) fun h6 p6=>?_⟩
 refine⟨(C1 (⟨d.plan,d.mode,d.stack,(Af d.scan b).1,a,d.at_,d.field,d.wire,d.want,d.utf,d.end_⟩:Dcd) _ _),?_⟩
 refine have hm1:(Bo ⟨d,[]⟩ b a).d=(A1 (⟨d.plan,d.mode,d.stack,(Af d.scan b).1,a,d.at_,d.field,d.wire,d.want,d.utf,d.end_⟩:Dcd) 9 d.at_):=?_;?_
 rotate_left
 refine have hm2:(Bo ⟨d,[]⟩ b a).out=[A3 9 d.at_]:=?_;?_
 rotate_left
 exact⟨Q5,Q9⟩
 refine dsp (fun h7 p7=>?_) fun h7 p7=>?_
 refine dsp (fun h8 p8=>?_) fun h8 p8=>?_
 refine⟨(C1 (⟨d.plan,d.mode,d.stack,(Af d.scan b).1,a,d.at_,d.field,d.wire,d.want,d.utf,d.end_⟩:Dcd) _ _),?_⟩
 refine have hm1:(Bo ⟨d,[]⟩ b a).d=(A1 (⟨d.plan,d.mode,d.stack,(Af d.scan b).1,a,d.at_,d.field,d.wire,d.want,d.utf,d.end_⟩:Dcd) 9 d.at_):=?_;?_
 rotate_left
 refine have hm2:(Bo ⟨d,[]⟩ b a).out=[A3 9 d.at_]:=?_;?_
 rotate_left
 exact⟨Q5,Q9⟩
 refine have hm1:(Bo ⟨d,[]⟩ b a).d=(⟨d.plan,d.mode,d.stack,(Af d.scan b).1,a,d.at_,d.field,d.wire,d.want,d.utf,d.end_⟩:Dcd):=?_;?_
 rotate_left
 refine have hm2:(Bo ⟨d,[]⟩ b a).out=([]:List Ev):=?_;?_
 rotate_left
 exact⟨Q5,Q9⟩
 refine have hm1:(Bo ⟨d,[]⟩ b a).d=(⟨d.plan,d.mode,d.stack,(Af d.scan b).1,a,d.at_,d.field,d.wire,d.want,d.utf,d.end_⟩:Dcd):=?_;?_
 rotate_left
 refine have hm2:(Bo ⟨d,[]⟩ b a).out=([]:List Ev):=?_;?_
 rotate_left
 exact⟨Q5,Q9⟩
 refine dsp (fun h6 p6=>?_) fun h6 p6=>?_
 refine dsp (fun h7 p7=>?_) fun h7 p7=>?_
 refine⟨(C1 (⟨d.plan,d.mode,d.stack,(Af d.scan b).1,a,d.at_,d.field,d.wire,d.want,d.utf,d.end_⟩:Dcd) _ _),?_⟩
 refine have hm1:(Bo ⟨d,[]⟩ b a).d=(A1 (⟨d.plan,d.mode,d.stack,(Af d.scan b).1,a,d.at_,d.field,d.wire,d.want,d.utf,d.end_⟩:Dcd) 9 d.at_):=?_;?_
 rotate_left
 refine have hm2:(Bo ⟨d,[]⟩ b a).out=[A3 9 d.at_]:=?_;?_
 rotate_left
 exact⟨Q5,Q9⟩
 refine have hm1:(Bo ⟨d,[]⟩ b a).d=(⟨d.plan,d.mode,d.stack,(Af d.scan b).1,a,d.at_,d.field,d.wire,d.want,d.utf,d.end_⟩:Dcd):=?_;?_
 rotate_left
 refine have hm2:(Bo ⟨d,[]⟩ b a).out=([]:List Ev):=?_;?_
 rotate_left
 exact⟨Q5,Q9⟩
 refine have hm1:(Bo ⟨d,[]⟩ b a).d=(⟨d.plan,d.mode,d.stack,(Af d.scan b).1,a,d.at_,d.field,d.wire,d.want,d.utf,d.end_⟩:Dcd):=?_;?_
 rotate_left
 refine have hm2:(Bo ⟨d,[]⟩ b a).out=([]:List Ev):=?_;?_
 rotate_left
 exact⟨Q5,Q9⟩
 refine⟨h2,(Aep (⟨d.plan,d.mode,d.stack,(⟨0,0⟩:Scn),a,d.at_,d.field,d.wire,d.want,d.utf,d.end_⟩:Dcd) _ (Q19) Q2),?_⟩
 refine have hm1:(Bo ⟨d,[]⟩ b a).d=(Cs ⟨(⟨d.plan,d.mode,d.stack,(⟨0,0⟩:Scn),a,d.at_,d.field,d.wire,d.want,d.utf,d.end_⟩:Dcd),[]⟩ (Af d.scan b).1.bits).d:=?_;?_
 rotate_left
 refine have hm2:(Bo ⟨d,[]⟩ b a).out=(Cs ⟨(⟨d.plan,d.mode,d.stack,(⟨0,0⟩:Scn),a,d.at_,d.field,d.wire,d.want,d.utf,d.end_⟩:Dcd),[]⟩ (Af d.scan b).1.bits).out:=?_;?_
 rotate_left
 exact⟨Q5,Q9⟩
 refine dsp (fun h3 p3=>?_) fun h3 p3=>?_
 refine⟨(Jd d.scan _ Q2),dsp (fun h4 p4=>?_) fun h4 p4=>?_⟩
 refine⟨(C1 (⟨d.plan,d.mode,d.stack,d.scan,a,d.at_,d.field,d.wire,d.want,d.utf,d.end_⟩:Dcd) _ _),?_⟩
 refine have hm1:(Bo ⟨d,[]⟩ b a).d=(A1 (⟨d.plan,d.mode,d.stack,d.scan,a,d.at_,d.field,d.wire,d.want,d.utf,d.end_⟩:Dcd) 1 a):=?_;?_
 rotate_left
 refine have hm2:(Bo ⟨d,[]⟩ b a).out=[A3 1 a]:=?_;?_
 rotate_left
 exact⟨Q5,Q9⟩
 refine dsp (fun h5 p5=>?_) fun h5 p5=>?_
 refine⟨fun h6=>have q6:=Ap h6;have p6:=of_decide_eq_false q6;?_,fun h6=>have q6:=Ao h6;have p6:=of_decide_eq_true q6;?_⟩
 refine⟨(Mx (⟨d.plan,d.mode,d.stack,(Af d.scan b).1,a,d.at_,d.field,d.wire,d.want,d.utf,d.end_⟩:Dcd) Q7),dsp (fun h7 p7=>?_) fun h7 p7=>?_⟩
 refine⟨(C1 (⟨d.plan,d.mode,d.stack,(Af d.scan b).1,a,d.at_,d.field,d.wire,d.want,d.utf,d.end_⟩:Dcd) _ _),?_⟩
 refine have hm1:(Bo ⟨d,[]⟩ b a).d=(A1 (⟨d.plan,d.mode,d.stack,(Af d.scan b).1,a,d.at_,d.field,d.wire,d.want,d.utf,d.end_⟩:Dcd) 9 d.at_):=?_;?_
 rotate_left
 refine have hm2:(Bo ⟨d,[]⟩ b a).out=[A3 9 d.at_]:=?_;?_
 rotate_left
 exact⟨Q5,Q9⟩
 refine dsp (fun h8 p8=>?_) fun h8 p8=>?_
 refine dsp (fun h9 p9=>?_) fun h9 p9=>?_
 refine⟨(C1 (⟨d.plan,d.mode,d.stack,(Af d.scan b).1,a,d.at_,d.field,d.wire,d.want,d.utf,d.end_⟩:Dcd) _ _),?_⟩
 refine have hm1:(Bo ⟨d,[]⟩ b a).d=(A1 (⟨d.plan,d.mode,d.stack,(Af d.scan b).1,a,d.at_,d.field,d.wire,d.want,d.utf,d.end_⟩:Dcd) 9 d.at_):=?_;?_
 rotate_left
 refine have hm2:(Bo ⟨d,[]⟩ b a).out=[A3 9 d.at_]:=?_;?_
 rotate_left
 exact⟨Q5,Q9⟩
 refine have hm1:(Bo ⟨d,[]⟩ b a).d=(⟨d.plan,d.mode,d.stack,(Af d.scan b).1,a,d.at_,d.field,d.wire,d.want,d.utf,d.end_⟩:Dcd):=?_;?_
 rotate_left
 refine have hm2:(Bo ⟨d,[]⟩ b a).out=([]:List Ev):=?_;?_
 rotate_left
 exact⟨Q5,Q9⟩
 refine have hm1:(Bo ⟨d,[]⟩ b a).d=(⟨d.plan,d.mode,d.stack,(Af d.scan b).1,a,d.at_,d.field,d.wire,d.want,d.utf,d.end_⟩:Dcd):=?_;?_
 rotate_left
 refine have hm2:(Bo ⟨d,[]⟩ b a).out=([]:List Ev):=?_;?_
 rotate_left
 exact⟨Q5,Q9⟩
 refine dsp (fun h7 p7=>?_) fun h7 p7=>?_
 refine dsp (fun h8 p8=>?_) fun h8 p8=>?_
 refine⟨(C1 (⟨d.plan,d.mode,d.stack,(Af d.scan b).1,a,d.at_,d.field,d.wire,d.want,d.utf,d.end_⟩:Dcd) _ _),?_⟩
 refine have hm1:(Bo ⟨d,[]⟩ b a).d=(A1 (⟨d.plan,d.mode,d.stack,(Af d.scan b).1,a,d.at_,d.field,d.wire,d.want,d.utf,d.end_⟩:Dcd) 9 d.at_):=?_;?_
 rotate_left
 refine have hm2:(Bo ⟨d,[]⟩ b a).out=[A3 9 d.at_]:=?_;?_
 rotate_left
 exact⟨Q5,Q9⟩
 refine have hm1:(Bo ⟨d,[]⟩ b a).d=(⟨d.plan,d.mode,d.stack,(Af d.scan b).1,a,d.at_,d.field,d.wire,d.want,d.utf,d.end_⟩:Dcd):=?_;?_
 rotate_left
 refine have hm2:(Bo ⟨d,[]⟩ b a).out=([]:List Ev):=?_;?_
 rotate_left
 exact⟨Q5,Q9⟩
 refine have hm1:(Bo ⟨d,[]⟩ b a).d=(⟨d.plan,d.mode,d.stack,(Af d.scan b).1,a,d.at_,d.field,d.wire,d.want,d.utf,d.end_⟩:Dcd):=?_;?_
 rotate_left
 refine have hm2:(Bo ⟨d,[]⟩ b a).out=([]:List Ev):=?_;?_
 rotate_left
 exact⟨Q5,Q9⟩
 refine⟨h2,h3,(Ajx (⟨d.plan,d.mode,d.stack,(⟨0,0⟩:Scn),a,d.at_,d.field,d.wire,d.want,d.utf,d.end_⟩:Dcd) _ (Q19) Q2),?_⟩
 refine have hm1:(Bo ⟨d,[]⟩ b a).d=(D6 ⟨(⟨d.plan,d.mode,d.stack,(⟨0,0⟩:Scn),a,d.at_,d.field,d.wire,d.want,d.utf,d.end_⟩:Dcd),[]⟩ (Af d.scan b).1.bits).d:=?_;?_
 rotate_left
 refine have hm2:(Bo ⟨d,[]⟩ b a).out=(D6 ⟨(⟨d.plan,d.mode,d.stack,(⟨0,0⟩:Scn),a,d.at_,d.field,d.wire,d.want,d.utf,d.end_⟩:Dcd),[]⟩ (Af d.scan b).1.bits).out:=?_;?_
 rotate_left
 exact⟨Q5,Q9⟩
 refine dsp (fun h4 p4=>?_) fun h4 p4=>?_
 refine⟨(Jd d.scan _ Q2),dsp (fun h5 p5=>?_) fun h5 p5=>?_⟩
 refine⟨(C1 (⟨d.plan,d.mode,d.stack,d.scan,a,d.at_,d.field,d.wire,d.want,d.utf,d.end_⟩:Dcd) _ _),?_⟩
 refine have hm1:(Bo ⟨d,[]⟩ b a).d=(A1 (⟨d.plan,d.mode,d.stack,d.scan,a,d.at_,d.field,d.wire,d.want,d.utf,d.end_⟩:Dcd) 1 a):=?_;?_
 rotate_left
 refine have hm2:(Bo ⟨d,[]⟩ b a).out=[A3 1 a]:=?_;?_
 rotate_left
 exact⟨Q5,Q9⟩
 refine dsp (fun h6 p6=>?_) fun h6 p6=>?_
 refine⟨fun h7=>have q7:=Ap h7;have p7:=of_decide_eq_false q7;?_,fun h7=>have q7:=Ao h7;have p7:=of_decide_eq_true q7;?_⟩
 refine⟨(Mx (⟨d.plan,d.mode,d.stack,(Af d.scan b).1,a,d.at_,d.field,d.wire,d.want,d.utf,d.end_⟩:Dcd) Q7),dsp (fun h8 p8=>?_) fun h8 p8=>?_⟩
 refine⟨(C1 (⟨d.plan,d.mode,d.stack,(Af d.scan b).1,a,d.at_,d.field,d.wire,d.want,d.utf,d.end_⟩:Dcd) _ _),?_⟩
 refine have hm1:(Bo ⟨d,[]⟩ b a).d=(A1 (⟨d.plan,d.mode,d.stack,(Af d.scan b).1,a,d.at_,d.field,d.wire,d.want,d.utf,d.end_⟩:Dcd) 9 d.at_):=?_;?_
 rotate_left
 refine have hm2:(Bo ⟨d,[]⟩ b a).out=[A3 9 d.at_]:=?_;?_
 rotate_left
 exact⟨Q5,Q9⟩
 refine dsp (fun h9 p9=>?_) fun h9 p9=>?_
 refine dsp (fun h10 p10=>?_) fun h10 p10=>?_
 refine⟨(C1 (⟨d.plan,d.mode,d.stack,(Af d.scan b).1,a,d.at_,d.field,d.wire,d.want,d.utf,d.end_⟩:Dcd) _ _),?_⟩
 refine have hm1:(Bo ⟨d,[]⟩ b a).d=(A1 (⟨d.plan,d.mode,d.stack,(Af d.scan b).1,a,d.at_,d.field,d.wire,d.want,d.utf,d.end_⟩:Dcd) 9 d.at_):=?_;?_
 rotate_left
 refine have hm2:(Bo ⟨d,[]⟩ b a).out=[A3 9 d.at_]:=?_;?_
 rotate_left
 exact⟨Q5,Q9⟩
 refine have hm1:(Bo ⟨d,[]⟩ b a).d=(⟨d.plan,d.mode,d.stack,(Af d.scan b).1,a,d.at_,d.field,d.wire,d.want,d.utf,d.end_⟩:Dcd):=?_;?_
 rotate_left
 refine have hm2:(Bo ⟨d,[]⟩ b a).out=([]:List Ev):=?_;?_
 rotate_left
 exact⟨Q5,Q9⟩
 refine have hm1:(Bo ⟨d,[]⟩ b a).d=(⟨d.plan,d.mode,d.stack,(Af d.scan b).1,a,d.at_,d.field,d.wire,d.want,d.utf,d.end_⟩:Dcd):=?_;?_
 rotate_left
 refine have hm2:(Bo ⟨d,[]⟩ b a).out=([]:List Ev):=?_;?_
 rotate_left
 exact⟨Q5,Q9⟩
 refine dsp (fun h8 p8=>?_) fun h8 p8=>?_
 refine dsp (fun h9 p9=>?_) fun h9 p9=>?_
 refine⟨(C1 (⟨d.plan,d.mode,d.stack,(Af d.scan b).1,a,d.at_,d.field,d.wire,d.want,d.utf,d.end_⟩:Dcd) _ _),?_⟩
 refine have hm1:(Bo ⟨d,[]⟩ b a).d=(A1 (⟨d.plan,d.mode,d.stack,(Af d.scan b).1,a,d.at_,d.field,d.wire,d.want,d.utf,d.end_⟩:Dcd) 9 d.at_):=?_;?_
 rotate_left
 refine have hm2:(Bo ⟨d,[]⟩ b a).out=[A3 9 d.at_]:=?_;?_
 rotate_left
 exact⟨Q5,Q9⟩
 refine have hm1:(Bo ⟨d,[]⟩ b a).d=(⟨d.plan,d.mode,d.stack,(Af d.scan b).1,a,d.at_,d.field,d.wire,d.want,d.utf,d.end_⟩:Dcd):=?_;?_
 rotate_left
 refine have hm2:(Bo ⟨d,[]⟩ b a).out=([]:List Ev):=?_;?_
 rotate_left
 exact⟨Q5,Q9⟩
 refine have hm1:(Bo ⟨d,[]⟩ b a).d=(⟨d.plan,d.mode,d.stack,(Af d.scan b).1,a,d.at_,d.field,d.wire,d.want,d.utf,d.end_⟩:Dcd):=?_;?_
 rotate_left
 refine have hm2:(Bo ⟨d,[]⟩ b a).out=([]:List Ev):=?_;?_
 rotate_left
 exact⟨Q5,Q9⟩
 refine⟨h2,h3,h4,(Ahq (⟨d.plan,d.mode,d.stack,(⟨0,0⟩:Scn),a,d.at_,d.field,d.wire,d.want,d.utf,d.end_⟩:Dcd) _ (Q19) Q2 (hp1.kn)),?_⟩
 refine have hm1:(Bo ⟨d,[]⟩ b a).d=(Cg ⟨(⟨d.plan,d.mode,d.stack,(⟨0,0⟩:Scn),a,d.at_,d.field,d.wire,d.want,d.utf,d.end_⟩:Dcd),[]⟩ (Af d.scan b).1.bits).d:=?_;?_
 rotate_left
 refine have hm2:(Bo ⟨d,[]⟩ b a).out=(Cg ⟨(⟨d.plan,d.mode,d.stack,(⟨0,0⟩:Scn),a,d.at_,d.field,d.wire,d.want,d.utf,d.end_⟩:Dcd),[]⟩ (Af d.scan b).1.bits).out:=?_;?_
 rotate_left
 exact⟨Q5,Q9⟩
 refine⟨(Jd d.scan _ Q2),dsp (fun h5 p5=>?_) fun h5 p5=>?_⟩
 refine⟨(C1 d _ _),?_⟩
 refine have hm1:(Bo ⟨d,[]⟩ b a).d=(A1 d 1 a):=?_;?_
 rotate_left
 refine have hm2:(Bo ⟨d,[]⟩ b a).out=[A3 1 a]:=?_;?_
 rotate_left
 exact⟨Q5,Q9⟩
 refine dsp (fun h6 p6=>?_) fun h6 p6=>?_
 refine⟨fun h7=>have q7:=Ap h7;have p7:=of_decide_eq_false q7;?_,fun h7=>have q7:=Ao h7;have p7:=of_decide_eq_true q7;?_⟩
 refine⟨(Mx (⟨d.plan,d.mode,d.stack,(Af d.scan b).1,d.start,d.at_,d.field,d.wire,d.want,d.utf,d.end_⟩:Dcd) Q7),dsp (fun h8 p8=>?_) fun h8 p8=>?_⟩
 refine⟨(C1 (⟨d.plan,d.mode,d.stack,(Af d.scan b).1,d.start,d.at_,d.field,d.wire,d.want,d.utf,d.end_⟩:Dcd) _ _),?_⟩
 refine have hm1:(Bo ⟨d,[]⟩ b a).d=(A1 (⟨d.plan,d.mode,d.stack,(Af d.scan b).1,d.start,d.at_,d.field,d.wire,d.want,d.utf,d.end_⟩:Dcd) 9 d.at_):=?_;?_
 rotate_left
 refine have hm2:(Bo ⟨d,[]⟩ b a).out=[A3 9 d.at_]:=?_;?_
 rotate_left
 exact⟨Q5,Q9⟩
 refine dsp (fun h9 p9=>?_) fun h9 p9=>?_
 refine dsp (fun h10 p10=>?_) fun h10 p10=>?_
 refine⟨(C1 (⟨d.plan,d.mode,d.stack,(Af d.scan b).1,d.start,d.at_,d.field,d.wire,d.want,d.utf,d.end_⟩:Dcd) _ _),?_⟩
 refine have hm1:(Bo ⟨d,[]⟩ b a).d=(A1 (⟨d.plan,d.mode,d.stack,(Af d.scan b).1,d.start,d.at_,d.field,d.wire,d.want,d.utf,d.end_⟩:Dcd) 9 d.at_):=?_;?_
 rotate_left
 refine have hm2:(Bo ⟨d,[]⟩ b a).out=[A3 9 d.at_]:=?_;?_
 rotate_left
 exact⟨Q5,Q9⟩
 refine have hm1:(Bo ⟨d,[]⟩ b a).d=(⟨d.plan,d.mode,d.stack,(Af d.scan b).1,d.start,d.at_,d.field,d.wire,d.want,d.utf,d.end_⟩:Dcd):=?_;?_
 rotate_left
 refine have hm2:(Bo ⟨d,[]⟩ b a).out=([]:List Ev):=?_;?_
 rotate_left
 exact⟨Q5,Q9⟩
 refine have hm1:(Bo ⟨d,[]⟩ b a).d=(⟨d.plan,d.mode,d.stack,(Af d.scan b).1,d.start,d.at_,d.field,d.wire,d.want,d.utf,d.end_⟩:Dcd):=?_;?_
 rotate_left
 refine have hm2:(Bo ⟨d,[]⟩ b a).out=([]:List Ev):=?_;?_
 rotate_left
 exact⟨Q5,Q9⟩
 refine dsp (fun h8 p8=>?_) fun h8 p8=>?_
 refine dsp (fun h9 p9=>?_) fun h9 p9=>?_
 refine⟨(C1 (⟨d.plan,d.mode,d.stack,(Af d.scan b).1,d.start,d.at_,d.field,d.wire,d.want,d.utf,d.end_⟩:Dcd) _ _),?_⟩
 refine have hm1:(Bo ⟨d,[]⟩ b a).d=(A1 (⟨d.plan,d.mode,d.stack,(Af d.scan b).1,d.start,d.at_,d.field,d.wire,d.want,d.utf,d.end_⟩:Dcd) 9 d.at_):=?_;?_
 rotate_left
 refine have hm2:(Bo ⟨d,[]⟩ b a).out=[A3 9 d.at_]:=?_;?_
 rotate_left
 exact⟨Q5,Q9⟩
 refine have hm1:(Bo ⟨d,[]⟩ b a).d=(⟨d.plan,d.mode,d.stack,(Af d.scan b).1,d.start,d.at_,d.field,d.wire,d.want,d.utf,d.end_⟩:Dcd):=?_;?_
 rotate_left
 refine have hm2:(Bo ⟨d,[]⟩ b a).out=([]:List Ev):=?_;?_
 rotate_left
 exact⟨Q5,Q9⟩
 refine have hm1:(Bo ⟨d,[]⟩ b a).d=(⟨d.plan,d.mode,d.stack,(Af d.scan b).1,d.start,d.at_,d.field,d.wire,d.want,d.utf,d.end_⟩:Dcd):=?_;?_
 rotate_left
 refine have hm2:(Bo ⟨d,[]⟩ b a).out=([]:List Ev):=?_;?_
 rotate_left
 exact⟨Q5,Q9⟩
 refine⟨h2,h3,h4,(Uo (⟨d.plan,d.mode,d.stack,(⟨0,0⟩:Scn),d.start,d.at_,d.field,d.wire,d.want,d.utf,d.end_⟩:Dcd) _ Q7 Q2),?_⟩
 refine have hm1:(Bo ⟨d,[]⟩ b a).d=(Ac (Bn ⟨(⟨d.plan,d.mode,d.stack,(⟨0,0⟩:Scn),d.start,d.at_,d.field,d.wire,d.want,d.utf,d.end_⟩:Dcd),[]⟩ (Af d.scan b).1.bits)).d:=?_;?_
 rotate_left
 refine have hm2:(Bo ⟨d,[]⟩ b a).out=(Ac (Bn ⟨(⟨d.plan,d.mode,d.stack,(⟨0,0⟩:Scn),d.start,d.at_,d.field,d.wire,d.want,d.utf,d.end_⟩:Dcd),[]⟩ (Af d.scan b).1.bits)).out:=?_;?_
 rotate_left
 exact⟨Q5,Q9⟩
 refine⟨(Jd d.scan _ Q2),dsp (fun h2 p2=>?_) fun h2 p2=>?_⟩
 refine⟨(C1 d _ _),?_⟩
 refine have hm1:(Bo ⟨d,[]⟩ b a).d=(A1 d 1 a):=?_;?_
 rotate_left
 refine have hm2:(Bo ⟨d,[]⟩ b a).out=[A3 1 a]:=?_;?_
 rotate_left
 exact⟨Q5,Q9⟩
 refine dsp (fun h3 p3=>?_) fun h3 p3=>?_
 refine⟨fun h4=>have q4:=Ap h4;have p4:=of_decide_eq_false q4;?_,fun h4=>have q4:=Ao h4;have p4:=of_decide_eq_true q4;?_⟩
 refine⟨(Mx (⟨d.plan,d.mode,d.stack,(Af d.scan b).1,d.start,d.at_,d.field,d.wire,d.want,d.utf,d.end_⟩:Dcd) Q7),dsp (fun h5 p5=>?_) fun h5 p5=>?_⟩
 refine⟨(C1 (⟨d.plan,d.mode,d.stack,(Af d.scan b).1,d.start,d.at_,d.field,d.wire,d.want,d.utf,d.end_⟩:Dcd) _ _),?_⟩
 refine have hm1:(Bo ⟨d,[]⟩ b a).d=(A1 (⟨d.plan,d.mode,d.stack,(Af d.scan b).1,d.start,d.at_,d.field,d.wire,d.want,d.utf,d.end_⟩:Dcd) 9 d.at_):=?_;?_
 rotate_left
 refine have hm2:(Bo ⟨d,[]⟩ b a).out=[A3 9 d.at_]:=?_;?_
 rotate_left
 exact⟨Q5,Q9⟩
 refine dsp (fun h6 p6=>?_) fun h6 p6=>?_
 refine dsp (fun h7 p7=>?_) fun h7 p7=>?_
 refine⟨(C1 (⟨d.plan,d.mode,d.stack,(Af d.scan b).1,d.start,d.at_,d.field,d.wire,d.want,d.utf,d.end_⟩:Dcd) _ _),?_⟩
 refine have hm1:(Bo ⟨d,[]⟩ b a).d=(A1 (⟨d.plan,d.mode,d.stack,(Af d.scan b).1,d.start,d.at_,d.field,d.wire,d.want,d.utf,d.end_⟩:Dcd) 9 d.at_):=?_;?_
 rotate_left
 refine have hm2:(Bo ⟨d,[]⟩ b a).out=[A3 9 d.at_]:=?_;?_
 rotate_left
 exact⟨Q5,Q9⟩
 refine have hm1:(Bo ⟨d,[]⟩ b a).d=(⟨d.plan,d.mode,d.stack,(Af d.scan b).1,d.start,d.at_,d.field,d.wire,d.want,d.utf,d.end_⟩:Dcd):=?_;?_
 rotate_left
 refine have hm2:(Bo ⟨d,[]⟩ b a).out=([]:List Ev):=?_;?_
 rotate_left
 exact⟨Q5,Q9⟩
 refine have hm1:(Bo ⟨d,[]⟩ b a).d=(⟨d.plan,d.mode,d.stack,(Af d.scan b).1,d.start,d.at_,d.field,d.wire,d.want,d.utf,d.end_⟩:Dcd):=?_;?_
 rotate_left
 refine have hm2:(Bo ⟨d,[]⟩ b a).out=([]:List Ev):=?_;?_
 rotate_left
 exact⟨Q5,Q9⟩
 refine dsp (fun h5 p5=>?_) fun h5 p5=>?_
 refine dsp (fun h6 p6=>?_) fun h6 p6=>?_
 refine⟨(C1 (⟨d.plan,d.mode,d.stack,(Af d.scan b).1,d.start,d.at_,d.field,d.wire,d.want,d.utf,d.end_⟩:Dcd) _ _),?_⟩
 refine have hm1:(Bo ⟨d,[]⟩ b a).d=(A1 (⟨d.plan,d.mode,d.stack,(Af d.scan b).1,d.start,d.at_,d.field,d.wire,d.want,d.utf,d.end_⟩:Dcd) 9 d.at_):=?_;?_
 rotate_left
 refine have hm2:(Bo ⟨d,[]⟩ b a).out=[A3 9 d.at_]:=?_;?_
 rotate_left
 exact⟨Q5,Q9⟩
 refine have hm1:(Bo ⟨d,[]⟩ b a).d=(⟨d.plan,d.mode,d.stack,(Af d.scan b).1,d.start,d.at_,d.field,d.wire,d.want,d.utf,d.end_⟩:Dcd):=?_;?_
 rotate_left
 refine have hm2:(Bo ⟨d,[]⟩ b a).out=([]:List Ev):=?_;?_
 rotate_left
 exact⟨Q5,Q9⟩
 refine have hm1:(Bo ⟨d,[]⟩ b a).d=(⟨d.plan,d.mode,d.stack,(Af d.scan b).1,d.start,d.at_,d.field,d.wire,d.want,d.utf,d.end_⟩:Dcd):=?_;?_
 rotate_left
 refine have hm2:(Bo ⟨d,[]⟩ b a).out=([]:List Ev):=?_;?_
 rotate_left
 exact⟨Q5,Q9⟩
 refine dsp (fun h4 p4=>?_) fun h4 p4=>?_
 refine⟨(Aep (⟨d.plan,d.mode,d.stack,(⟨0,0⟩:Scn),d.start,d.at_,d.field,d.wire,d.want,d.utf,d.end_⟩:Dcd) _ (Q19) Q2),?_⟩
 refine have hm1:(Bo ⟨d,[]⟩ b a).d=(Cs ⟨(⟨d.plan,d.mode,d.stack,(⟨0,0⟩:Scn),d.start,d.at_,d.field,d.wire,d.want,d.utf,d.end_⟩:Dcd),[]⟩ (Af d.scan b).1.bits).d:=?_;?_
 rotate_left
 refine have hm2:(Bo ⟨d,[]⟩ b a).out=(Cs ⟨(⟨d.plan,d.mode,d.stack,(⟨0,0⟩:Scn),d.start,d.at_,d.field,d.wire,d.want,d.utf,d.end_⟩:Dcd),[]⟩ (Af d.scan b).1.bits).out:=?_;?_
 rotate_left
 exact⟨Q5,Q9⟩
 refine dsp (fun h5 p5=>?_) fun h5 p5=>?_
 refine⟨(Ajx (⟨d.plan,d.mode,d.stack,(⟨0,0⟩:Scn),d.start,d.at_,d.field,d.wire,d.want,d.utf,d.end_⟩:Dcd) _ (Q19) Q2),?_⟩
 refine have hm1:(Bo ⟨d,[]⟩ b a).d=(D6 ⟨(⟨d.plan,d.mode,d.stack,(⟨0,0⟩:Scn),d.start,d.at_,d.field,d.wire,d.want,d.utf,d.end_⟩:Dcd),[]⟩ (Af d.scan b).1.bits).d:=?_;?_
 rotate_left
 refine have hm2:(Bo ⟨d,[]⟩ b a).out=(D6 ⟨(⟨d.plan,d.mode,d.stack,(⟨0,0⟩:Scn),d.start,d.at_,d.field,d.wire,d.want,d.utf,d.end_⟩:Dcd),[]⟩ (Af d.scan b).1.bits).out:=?_;?_
 rotate_left
 exact⟨Q5,Q9⟩
 refine dsp (fun h6 p6=>?_) fun h6 p6=>?_
 refine⟨(Ahq (⟨d.plan,d.mode,d.stack,(⟨0,0⟩:Scn),d.start,d.at_,d.field,d.wire,d.want,d.utf,d.end_⟩:Dcd) _ (Q19) Q2 (hp1.kn)),?_⟩
 refine have hm1:(Bo ⟨d,[]⟩ b a).d=(Cg ⟨(⟨d.plan,d.mode,d.stack,(⟨0,0⟩:Scn),d.start,d.at_,d.field,d.wire,d.want,d.utf,d.end_⟩:Dcd),[]⟩ (Af d.scan b).1.bits).d:=?_;?_
 rotate_left
 refine have hm2:(Bo ⟨d,[]⟩ b a).out=(Cg ⟨(⟨d.plan,d.mode,d.stack,(⟨0,0⟩:Scn),d.start,d.at_,d.field,d.wire,d.want,d.utf,d.end_⟩:Dcd),[]⟩ (Af d.scan b).1.bits).out:=?_;?_
 rotate_left
 exact⟨Q5,Q9⟩
 refine⟨(Uo (⟨d.plan,d.mode,d.stack,(⟨0,0⟩:Scn),d.start,d.at_,d.field,d.wire,d.want,d.utf,d.end_⟩:Dcd) _ Q7 Q2),?_⟩
 refine have hm1:(Bo ⟨d,[]⟩ b a).d=(Ac (Bn ⟨(⟨d.plan,d.mode,d.stack,(⟨0,0⟩:Scn),d.start,d.at_,d.field,d.wire,d.want,d.utf,d.end_⟩:Dcd),[]⟩ (Af d.scan b).1.bits)).d:=?_;?_
 rotate_left
 refine have hm2:(Bo ⟨d,[]⟩ b a).out=(Ac (Bn ⟨(⟨d.plan,d.mode,d.stack,(⟨0,0⟩:Scn),d.start,d.at_,d.field,d.wire,d.want,d.utf,d.end_⟩:Dcd),[]⟩ (Af d.scan b).1.bits)).out:=?_;?_
 rotate_left
 exact⟨Q5,Q9⟩
 all_goals first|(simp_all[Bo,Kz,G6,W1,A0,A1,scn0];done)|((unfold Bo;simp_all[Kz,G6,W1,A0,A1,scn0];done))|(grind[Bo,Kz,G6,W1,A0,A1,scn0])
set_option maxHeartbeats 1600000 in
theorem Xa (d:Dcd) (b:Int) (w:Int) (hp1:MW d) (hp2:(0:Int)≤b∧b≤255) (hp3:w=Bp d) (hp4:(d).mode=8→Qk (d).field=true):Fun Tryz.prog 65 [.agg (Ad 0 1 d),vI b,vI w] [.tree d.plan.shapes,.lst .lev d.stack] (.tup [.agg (Ad 2 3 (C9 ⟨d,[]⟩ b).d),vO 4]) [.dead,.dead,.tree (C9 ⟨d,[]⟩ b).d.plan.shapes,.lst .lev (C9 ⟨d,[]⟩ b).d.stack,.lst .ev (C9 ⟨d,[]⟩ b).out]:=by
 have hN:Bg=274877906944:=rfl
 have hlv:=B0 hp1.lv
 have hpt:=B6 hlv.1
 have htb:=Gk hp1.lv
 have hbb:=hp1.b0
 have hat:=hp1.at_
 have hwt:=hp1.want
 have hwd:=Hw d
 have hfb:=X8 (b:=b) hbb
 refine Ar Tryz.func65 Q4 Q4 (w:=let zi:Int→C:= .int .i64;let z1:List C:=[zi d.start,zi d.at_,zi d.field.number,zi d.field.kind,.bool d.field.rep,.bool d.field.packed,zi d.field.msg,zi d.wire,zi d.want,zi d.utf.want,zi d.utf.low,zi d.utf.high,zi d.end_.kind,zi d.end_.field,.int .u64 d.end_.bits,zi d.end_.len,.str d.end_.text,zi d.end_.code,zi d.end_.at_];let z6:=Br d.scan b;let z9:=(⟨d.plan,d.mode,d.stack,(⟨0,0⟩:Scn),d.start,d.at_,d.field,d.wire,d.want,d.utf,d.end_⟩:Dcd);let z2:=Ac (Bn ⟨z9,[]⟩ z6.bits);let z3:=A1 z9 9 d.at_;let z4:List Blk:=[.dead,.dead,.tree z2.d.plan.shapes,.lst .lev z2.d.stack,.lst .ev z2.out];let z7:=Ad 2 3 z2.d;let z10:List Blk:=[.dead,.dead,.tree z3.plan.shapes,.lst .lev z3.stack,.lst .ev [A3 9 d.at_]];let z11:=Eu d.field z6.bits;let z12:=(.tup [.agg z7,vO 4]:S);let z13:=C9 ⟨d,[]⟩ b;let z5:List Blk:=[.dead,.dead,.tree z13.d.plan.shapes,.lst .lev z13.d.stack,.lst .ev z13.out];let z8:=Ad 2 3 z13.d;(.seg [.call [] (.v (.agg (J0 z6))) []] (.br (.seg [.ty .ev,.at 0,.cut 3 0,.cut 3 5] (.leaf () [0,1,6,7,5])) (.br (.br (.br (.seg [.call [] (.v (.agg (cEv z11))) [],.call [0,1] (.tup [.agg (Ad 2 3 z3),vO 4]) z10,.tree (.first 0 (.first 1 (.first 3 (.one 2 (.one 4 (.one 5 (.first 6 (.done)))))))) 5 [8],.ty .ev,.ty .ev] (.leaf () [0,1,6,7,11])) (.seg [.call [0,1] (.tup [.agg z7,vO 4]) z4] (.leaf () [0,1,5,6,7]))) (.seg [.call [0,1] (.tup [.agg z7,vO 4]) z4] (.leaf () [0,1,5,6,7]))) (.seg [.call [0,1] (.tup [.agg z7,vO 4]) z4] (.leaf () [0,1,5,6,7])))),(Fun Tryz.prog 126 [.agg (J0 d.scan),vI b] [] (.v (.agg (J0 z6))) [])∧((decide (z6.have_<w))=true→(.tup [.agg (.own 2::zi d.plan.root::zi d.plan.deep::zi d.plan.most::zi d.mode:: .own 3:: .int .u64 z6.bits::zi z6.have_::z1),vO 4]:S)= .tup [.agg z8,vO 4]∧([.dead,.dead,.tree d.plan.shapes,.lst .lev d.stack,.lst .ev ([]:List Ev)]:List Blk)=z5)∧((decide (z6.have_<w))=false→((decide (d.mode=8))=true→((decide (0<d.want))=true→((decide (d.want<w))=true→(Fun Tryz.prog 127 [.agg (Fm d.field),.c (.int .u64 z6.bits)] [] (.v (.agg (cEv z11))) [])∧(Fun Tryz.prog 63 [.agg (.own 0::zi d.plan.root::zi d.plan.deep::zi d.plan.most::zi d.mode:: .own 1:: .int .u64 0::zi 0::z1),vI 9,vI d.at_] [.tree d.plan.shapes,.lst .lev d.stack] (.tup [.agg (Ad 2 3 z3),vO 4]) z10)∧(List.length [z11]+List.length [A3 9 d.at_]≤Bg)∧(.tup [.agg (Ad 2 3 z3),vO 4]:S)= .tup [.agg z8,vO 4]∧([.dead,.dead,.tree z3.plan.shapes,.lst .lev z3.stack,.lst .ev ([z11]++[A3 9 d.at_])]:List Blk)=z5)∧((decide (d.want<w))=false→(Fun Tryz.prog 128 [.agg (.own 0::zi d.plan.root::zi d.plan.deep::zi d.plan.most::zi d.mode:: .own 1:: .int .u64 0::zi 0::z1),.c (.int .u64 z6.bits)] [.tree d.plan.shapes,.lst .lev d.stack] (.tup [.agg z7,vO 4]) z4)∧z12= .tup [.agg z8,vO 4]∧(z4:List Blk)=z5))∧((decide (0<d.want))=false→(Fun Tryz.prog 128 [.agg (.own 0::zi d.plan.root::zi d.plan.deep::zi d.plan.most::zi d.mode:: .own 1:: .int .u64 0::zi 0::z1),.c (.int .u64 z6.bits)] [.tree d.plan.shapes,.lst .lev d.stack] (.tup [.agg z7,vO 4]) z4)∧z12= .tup [.agg z8,vO 4]∧(z4:List Blk)=z5))∧((decide (d.mode=8))=false→(Fun Tryz.prog 128 [.agg (.own 0::zi d.plan.root::zi d.plan.deep::zi d.plan.most::zi d.mode:: .own 1:: .int .u64 0::zi 0::z1),.c (.int .u64 z6.bits)] [.tree d.plan.shapes,.lst .lev d.stack] (.tup [.agg z7,vO 4]) z4)∧z12= .tup [.agg z8,vO 4]∧(z4:List Blk)=z5)))) Q4 ?_
 refine⟨(Aeo d.scan _),dsp (fun h1 p1=>?_) fun h1 p1=>?_⟩
 refine have hm1:(C9 ⟨d,[]⟩ b).d=(⟨d.plan,d.mode,d.stack,(Br d.scan b),d.start,d.at_,d.field,d.wire,d.want,d.utf,d.end_⟩:Dcd):=?_;?_
 rotate_left
 refine have hm2:(C9 ⟨d,[]⟩ b).out=([]:List Ev):=?_;?_
 rotate_left
 exact⟨Q5,Q9⟩
 refine dsp (fun h2 p2=>?_) fun h2 p2=>?_
 refine dsp (fun h3 p3=>?_) fun h3 p3=>?_
 refine dsp (fun h4 p4=>?_) fun h4 p4=>?_
 refine⟨(Rx d.field _ Q2),(C1 (⟨d.plan,d.mode,d.stack,(⟨0,0⟩:Scn),d.start,d.at_,d.field,d.wire,d.want,d.utf,d.end_⟩:Dcd) _ _),Q6,?_⟩
 refine have hm1:(C9 ⟨d,[]⟩ b).d=(A1 (⟨d.plan,d.mode,d.stack,(⟨0,0⟩:Scn),d.start,d.at_,d.field,d.wire,d.want,d.utf,d.end_⟩:Dcd) 9 d.at_):=?_;?_
 rotate_left
 refine have hm2:(C9 ⟨d,[]⟩ b).out=[(Eu d.field (Br d.scan b).bits)]++[A3 9 d.at_]:=?_;?_
 rotate_left
 exact⟨Q5,Q9⟩
 refine⟨(Uo (⟨d.plan,d.mode,d.stack,(⟨0,0⟩:Scn),d.start,d.at_,d.field,d.wire,d.want,d.utf,d.end_⟩:Dcd) _ Q7 Q2),?_⟩
 refine have hm1:(C9 ⟨d,[]⟩ b).d=(Ac (Bn ⟨(⟨d.plan,d.mode,d.stack,(⟨0,0⟩:Scn),d.start,d.at_,d.field,d.wire,d.want,d.utf,d.end_⟩:Dcd),[]⟩ (Br d.scan b).bits)).d:=?_;?_
 rotate_left
 refine have hm2:(C9 ⟨d,[]⟩ b).out=(Ac (Bn ⟨(⟨d.plan,d.mode,d.stack,(⟨0,0⟩:Scn),d.start,d.at_,d.field,d.wire,d.want,d.utf,d.end_⟩:Dcd),[]⟩ (Br d.scan b).bits)).out:=?_;?_
 rotate_left
 exact⟨Q5,Q9⟩
 refine⟨(Uo (⟨d.plan,d.mode,d.stack,(⟨0,0⟩:Scn),d.start,d.at_,d.field,d.wire,d.want,d.utf,d.end_⟩:Dcd) _ Q7 Q2),?_⟩
 refine have hm1:(C9 ⟨d,[]⟩ b).d=(Ac (Bn ⟨(⟨d.plan,d.mode,d.stack,(⟨0,0⟩:Scn),d.start,d.at_,d.field,d.wire,d.want,d.utf,d.end_⟩:Dcd),[]⟩ (Br d.scan b).bits)).d:=?_;?_
 rotate_left
 refine have hm2:(C9 ⟨d,[]⟩ b).out=(Ac (Bn ⟨(⟨d.plan,d.mode,d.stack,(⟨0,0⟩:Scn),d.start,d.at_,d.field,d.wire,d.want,d.utf,d.end_⟩:Dcd),[]⟩ (Br d.scan b).bits)).out:=?_;?_
 rotate_left
 exact⟨Q5,Q9⟩
 refine⟨(Uo (⟨d.plan,d.mode,d.stack,(⟨0,0⟩:Scn),d.start,d.at_,d.field,d.wire,d.want,d.utf,d.end_⟩:Dcd) _ Q7 Q2),?_⟩
 refine have hm1:(C9 ⟨d,[]⟩ b).d=(Ac (Bn ⟨(⟨d.plan,d.mode,d.stack,(⟨0,0⟩:Scn),d.start,d.at_,d.field,d.wire,d.want,d.utf,d.end_⟩:Dcd),[]⟩ (Br d.scan b).bits)).d:=?_;?_
 rotate_left
 refine have hm2:(C9 ⟨d,[]⟩ b).out=(Ac (Bn ⟨(⟨d.plan,d.mode,d.stack,(⟨0,0⟩:Scn),d.start,d.at_,d.field,d.wire,d.want,d.utf,d.end_⟩:Dcd),[]⟩ (Br d.scan b).bits)).out:=?_;?_
 rotate_left
 exact⟨Q5,Q9⟩
 all_goals first|(simp_all[C9,G6,A0,A1,scn0,Rb,Lz];done)|((have hne:d.field≠fld0:=Aia (hp4 (by assumption));have hff:C9 ⟨d,[]⟩ b=A0 (Bn ⟨G6 d scn0,[]⟩ (Br d.scan b).bits) 9 d.at_:=(by unfold C9;simp only;rw[if_neg (by omega),if_pos ⟨by assumption,by assumption,by omega⟩]);rw[hff];simp[A0,A1,Bn,G6,scn0,hne];done))|(grind[C9,G6,A0,A1,scn0,Bn,Rb,Lz])
end Go.Proofs.YtcmnedgnppnhoaaGreat.Ax
