/- The reference: settling. The reference: frames, tags, lengths. The reference: lengths, numbers. -/
import Derived.Test.YtpchkcpcdbdhdaaGreatKS3
import Derived.Test.YtpchkcpcdbdhdaaGreatKS2
import Derived.Test.YtpchkcpcdbdhdaaGreatKS6
set_option linter.unusedSimpArgs false
set_option linter.unusedVariables false
namespace Go.Proofs.YtpchkcpcdbdhdaaGreat.Ax
open Go.RowKit
theorem Zh (a:List Ev): ∀(k:Nat) (d:Dcd) (o:List Ev),wM ⟨d,o⟩≤k→Ad ⟨d,a++o⟩=⟨(Ad ⟨d,o⟩).d,a++(Ad ⟨d,o⟩).out⟩:=by
 have hc: ∀(d:Dcd) (o:List Ev),Aq ⟨d,a++o⟩=(Aq ⟨d,o⟩).map fun q=>⟨q.d,a++q.out⟩:=by
  intro d o
  unfold Aq As
  simp only
  split
  ·split<;>simp
  ·split
   ·rfl
   ·split
    ·split<;>simp
    ·rfl
 intro k
 induction k with
 |zero=>
  intro d o hk
  cases h:Aq ⟨d,o⟩ with
  |none=>rw[Bv h,Bv (by rw[hc,h];rfl)]
  |some q=>have:=(Bg h).1;omega
 |succ k ih=>
  intro d o hk
  cases h:Aq ⟨d,o⟩ with
  |none=>rw[Bv h,Bv (by rw[hc,h];rfl)]
  |some q=>
   have h2:Aq ⟨d,a++o⟩=some ⟨q.d,a++q.out⟩:=by rw[hc,h];rfl
   rw[Bu h,Bu h2]
   have h3:=(Bg h).1
   exact ih q.d q.out (by have:wM (⟨q.d,q.out⟩:Mac)=wM q:=rfl;omega)
theorem B9 (d:Dcd) (e:Ev):Ad ⟨d,[e]⟩=⟨(Ad ⟨d,[]⟩).d,e::(Ad ⟨d,[]⟩).out⟩:=Zh [e] _ d [] (Nat.le_refl _)
structure Jn where
 i:Nat
def Jo (d:Dcd):Fam:=⟨Jn,fun q1=>[(1,.v (vP 0)),(3,.v (vI (q1.i:Int)))],fun _=>[.cells (Bi d)],fun q1=>q1.i≤d.stack.length∧Tz (d.plan.shapes.length:Int) (List.drop q1.i d.stack)+q1.i=Tz (d.plan.shapes.length:Int) d.stack,fun q1=>d.stack.length-q1.i⟩
theorem Qo (d:Dcd) (hp1:List.length (d).stack≤bigN) (hp2:List.length (d).plan.shapes≤bigN):Fun Tryz.prog 194 [.agg (Bi d)] [] (.v (vB (A5 d))) []:=by
 have hN:bigN=274877906944:=rfl
 refine Af Tryz.func194 (by kernel_rfl) (by kernel_rfl) (w:=let z7:=(d.plan.shapes.length:Int)-1;let z8:=(.v (vI (IntKind.i64.wrap z7)):S)= .v (vI z7);let z9:=(d.stack.length:Int);let z10:=vB (A5 d);let z11:=(.v (vB false):S);let z12:=([]:List Blk);let z13:=Jo d;let z14:=Cv d.plan;(.seg [.call [] (.v (vB z14)) []] (.br (.leaf () []) (.br (.leaf () []) (.seg [.at 0,.keep [1,3],.sel [0]] (.loop z13 fun q1=> .br (.intro (fun (x1:Lev)=>d.stack[q1.i]? =some x1) fun x1=>let z1:=Ak x1.msg 0 z7;.case (!z1) (.seg [.ord (os 24 [12,21]) [],.el .lev x1,.as 35 (.v (vI z7)),.call [] (.v (vB z1)) [],.br true] (.leaf () [])) (.seg [.ord (os 24 [12,21]) [],.el .lev x1,.as 35 (.v (vI z7)),.call [] (.v (vB z1)) [],.br false,.el .lev x1,.call [] (.v (vB (Ak x1.left 0 2000))) []] (.br (.leaf () []) (.seg [.as 23 (.v (vI ((q1.i:Int)+1))),.at 0,.keep [1,3],.sel [0]] (.next))))) (.leaf () []))))),(Fun Tryz.prog 102 [.agg (F4 d.plan)] [] (.v (vB z14)) [])∧((!z14)=true→z11= .v z10∧z12=[])∧((!z14)=false→((decide (d.plan.deep<z9))=true→z11= .v z10∧z12=[])∧((decide (d.plan.deep<z9))=false→z13.Has [(1,.v (vP 0)),(3,.v (vI 0))] [.cells (Bi d)]∧∀q1,z13.inv q1→(let z6:=(q1.i:Int);((decide (z6<z9))=true→(∃(x1:Lev),d.stack[q1.i]? =some x1)∧∀(x1:Lev),(d.stack[q1.i]? =some x1)→(let z2:=Ak x1.msg 0 z7;let z3:=d.stack[q1.i]? =some x1;let z4:List V:=[vI x1.msg,vI 0,vI z7];let z5:=Ak x1.left 0 2000;((!z2)=true→z3∧((0:Int)≤z6)∧z3∧((0:Int)≤z6)∧z8∧z8∧(Fun Tryz.prog 105 z4 [] (.v (vB z2)) [])∧((!z2)=true)∧z11= .v z10∧z12=[])∧((!z2)=false→z3∧((0:Int)≤z6)∧z3∧((0:Int)≤z6)∧z8∧z8∧(Fun Tryz.prog 105 z4 [] (.v (vB z2)) [])∧((!z2)=false)∧z3∧((0:Int)≤z6)∧z3∧((0:Int)≤z6)∧(Fun Tryz.prog 105 [vI x1.left,vI 0,vI 2000] [] (.v (vB z5)) [])∧((!z5)=true→z11= .v z10∧z12=[])∧((!z5)=false→((.v (vI (IntKind.i64.wrap (z6+1))):S)= .v (vI (z6+1)))∧z13.Nxt q1 [(1,.v (vP 0)),(3,.v (vI (z6+1)))] [.cells (Bi d)]))))∧((decide (z6<z9))=false→(.v (vB true):S)= .v z10∧z12=[])))))) (by kernel_rfl) ?_
 refine⟨(Vv d.plan),fun h1=>have q1:=Am h1;?_,fun h1=>have q1:=Aj h1;have p1:=By q1;?_⟩
 refine⟨(sB ?_),rfl⟩
 rotate_left
 refine dsp (fun h2 p2=>?_) fun h2 p2=>?_
 refine⟨(sB ?_),rfl⟩
 rotate_left
 refine⟨Bc (j:=(⟨0⟩:Jn)) (by first|rfl|simp) rfl (by dsimp only[Jo];exact⟨by omega,rfl⟩),fun (q1:Jn) hq_q1=>?_⟩
 have hi_q1:q1.i≤d.stack.length∧Tz (d.plan.shapes.length:Int) (List.drop q1.i d.stack)+q1.i=Tz (d.plan.shapes.length:Int) d.stack:=hq_q1
 obtain ⟨v1,v2⟩:=hi_q1
 refine dsp (fun h3 p3=>?_) fun h3 p3=>?_
 refine⟨(Bo (l:=d.stack) (i:=q1.i) (by omega)),fun x1 hx1=>?_⟩
 rw[C7 hx1,Pf] at v2
 have hll:=congrArg List.length (C7 hx1)
 rw[List.length_drop,List.length_cons,List.length_drop] at hll
 refine⟨fun h4=>have q4:=Am h4;have p4:=Ay q4;?_,fun h4=>have q4:=Aj h4;have p4:=Ap q4;?_⟩
 refine⟨hx1,(by omega),hx1,(by omega),(Ah (by omega) (by omega)),(Ah (by omega) (by omega)),(A8 _ _ _),h4,(sB ?_),rfl⟩
 rotate_left
 refine⟨hx1,(by omega),hx1,(by omega),(Ah (by omega) (by omega)),(Ah (by omega) (by omega)),(A8 _ _ _),h4,hx1,(by omega),hx1,(by omega),(A8 _ _ _),fun h5=>have q5:=Am h5;have p5:=Ay q5;?_,fun h5=>have q5:=Aj h5;have p5:=Ap q5;?_⟩
 refine⟨(sB ?_),rfl⟩
 rotate_left
 exact⟨(Ah (by omega) (by omega)),Bm (j:=(⟨q1.i+1⟩:Jn)) (by first|rfl|simp) rfl (by dsimp only[Jo];exact⟨by omega,by simp_all[E2];omega⟩) (by dsimp only[Jo];omega)⟩
 have hal:List.all d.stack (E2 (d.plan.shapes.length:Int))=true:=by rw[Lj];rw[List.drop_eq_nil_of_le (by omega)] at v2;simp only[Tz] at v2;exact decide_eq_true (by omega)
 refine⟨(sB ?_),rfl⟩
 rotate_left
 all_goals first|(simp_all[A5];done)|((have hal:List.all d.stack (E2 (d.plan.shapes.length:Int))=false:=(by rw[Lj];rw[if_neg (by simp_all[E2])] at v2;exact decide_eq_false (by omega));simp[A5,hal];done))|(grind[A5])
theorem Cn (d:Dcd) (c:Int) (a:Int):Fun Tryz.prog 109 [.agg (Ac 0 1 d),vI c,vI a] [.tree d.plan.shapes,.lst .lev d.stack] (.tup [.agg (Ac 2 3 (Au d c a)),vO 4]) [.dead,.dead,.tree (Au d c a).plan.shapes,.lst .lev (Au d c a).stack,.lst .ev [Av c a]]:=by
 have hN:bigN=274877906944:=rfl
 refine Af Tryz.func109 (by kernel_rfl) (by kernel_rfl) (w:=let zi:Int→C:= .int .i64;let z2:=Av c a;let z1:List C:=[.int .u64 0,zi 0,zi d.start,zi d.at_,zi d.field.number,zi d.field.kind,.bool d.field.rep,.bool d.field.packed,zi d.field.msg,zi d.wire,zi 0,zi d.utf.want,zi d.utf.low,zi d.utf.high,zi z2.kind,zi z2.field,.int .u64 z2.bits,zi z2.len,.str z2.text,zi z2.code,zi z2.at_];(.seg [.call [] (.v (.agg (cEv z2))) [],.tree (fr (.two 3 (.one 4 (.first 5 (.done))) 4 (.one 3 (.first 5 (.done)))) 0 3) 6 [3],.ty .ev,.at 0,.keep [6,7],.sel [0,1,3,4],.ty .ev,.at 0,.keep [6,7],.sel [0,1,3,4],.at 0,.cut 2 0,.cut 2 5] (.leaf () [0,1,4,5,3]),(Fun Tryz.prog 156 [vI c,vI a] [] (.v (.agg (cEv z2))) [])∧(([.tree d.plan.shapes,.lst .lev d.stack,.cells (.own 0::zi d.plan.root::zi d.plan.deep::zi d.plan.most::zi 9:: .own 1::z1),.lst .ev [z2]]:List Blk)=[.tree d.plan.shapes,.lst .lev d.stack,.cells (.own 0::zi d.plan.root::zi d.plan.deep::zi d.plan.most::zi 9:: .own 1::z1),.lst .ev [z2]])∧(([(6,.v (vP 2)),(7,.v (vO 3))]:List (Nat×S))=[(6,.v (vP 2)),(7,.v (vO 3))])∧(.tup [.agg (.own 2::zi d.plan.root::zi d.plan.deep::zi d.plan.most::zi 9:: .own 3::z1),vO 4]:S)= .tup [.agg (Ac 2 3 (Au d c a)),vO 4]∧([.dead,.dead,.tree d.plan.shapes,.lst .lev d.stack,.lst .ev [z2]]:List Blk)=[.dead,.dead,.tree (Au d c a).plan.shapes,.lst .lev (Au d c a).stack,.lst .ev [Av c a]])) (by kernel_rfl) ?_
 refine⟨(Adk _ _),rfl,rfl,?_⟩
 refine have hm1:Au d c a=(⟨d.plan,9,d.stack,(⟨0,0⟩:Scn),d.start,d.at_,d.field,d.wire,0,d.utf,(Av c a)⟩:Dcd):=?_;?_
 rotate_left
 refine have hm2:[Av c a]=[(Av c a)]:=?_;?_
 rotate_left
 exact⟨(by rw[hm1]<;>rfl),(by rw[hm1,hm2]<;>rfl)⟩
 all_goals first|(rfl)|(simp_all[Au])
structure De where
 d:Dcd
 out:List Ev
def Bz (d:Dcd):Fam:=⟨De,fun q1=>[(1,.v (vP 2)),(2,.v (vP 5)),(4,.v (vO 6))],fun q1=>[.dead,.dead,.cells (Ac 3 4 q1.d),.tree q1.d.plan.shapes,.lst .lev q1.d.stack,.cells [.nil,.int .i64 0,.int .i64 0,.int .i64 0,.int .i64 0,.nil,.int .u64 0,.int .i64 0,.int .i64 0,.int .i64 0,.int .i64 0,.int .i64 0,.bool false,.bool false,.int .i64 0,.int .i64 0,.int .i64 0,.int .i64 0,.int .i64 0,.int .i64 0,.int .i64 0,.int .i64 0,.int .u64 0,.int .i64 0,.str [],.int .i64 0,.int .i64 0],.lst .ev q1.out],fun q1=>Ad ⟨q1.d,q1.out⟩=Ad ⟨d,[]⟩∧q1.out.length+wM ⟨q1.d,q1.out⟩≤wM ⟨d,[]⟩∧List.length (q1.d).stack≤d.stack.length,fun q1=>wM ⟨q1.d,q1.out⟩⟩
theorem Hm (d:Dcd) (hp1:List.length (d).stack≤1000):Fun Tryz.prog 107 [.agg (Ac 0 1 d)] [.tree d.plan.shapes,.lst .lev d.stack] (.tup [.agg (Ac 2 3 (Ad ⟨d,[]⟩).d),vO 4]) [.dead,.dead,.tree (Ad ⟨d,[]⟩).d.plan.shapes,.lst .lev (Ad ⟨d,[]⟩).d.stack,.lst .ev (Ad ⟨d,[]⟩).out]:=by
 have hN:bigN=274877906944:=rfl
 have hwd:=Acc ⟨d,[]⟩
 simp only at hwd
 refine Af Tryz.func107 (by kernel_rfl) (by kernel_rfl) (w:=let zi:Int→C:= .int .i64;let z14:List C:=[.nil,zi 0,zi 0,zi 0,zi 0,.nil,.int .u64 0,zi 0,zi 0,zi 0,zi 0,zi 0,.bool false,.bool false,zi 0,zi 0,zi 0,zi 0,zi 0,zi 0,zi 0,zi 0,.int .u64 0,zi 0,.str [],zi 0,zi 0];let z17:=Bz d;let z18:=Ad ⟨d,[]⟩;let z15:List Blk:=[.dead,.dead,.tree z18.d.plan.shapes,.lst .lev z18.d.stack,.lst .ev z18.out];let z16:=Ac 2 3 z18.d;(.seg [.ty .ev,.at 0,.cut 2 0,.cut 2 5,.keep [1,2,4],.sel [0,1,2,5,6,3,4]] (.loop z17 fun q1=>let z1:=(q1.d.stack.length:Int)-1;let z2:=Au q1.d 5 q1.d.at_;.br (.br (.br (.seg [.call [3,4] (.tup [.agg (Ac 2 3 z2),vO 4]) [.dead,.dead,.tree z2.plan.shapes,.lst .lev z2.stack,.lst .ev [Av 5 q1.d.at_]],.tree (fr (.one 3 (.one 4 (.first 5 (.done)))) 0 3) 4 [6,9],.ty .ev] (.leaf () [0,1,7,8,11])) (.seg [.ty .ev,.ty .ev,.at 0,.keep [1,2,4],.sel [0,1,2,3,4,5,8]] (.next))) (.seg [.br false] (.br (.br (.br (.seg [.as 86 (.v (vI z1))] (.intro (fun (x1:Lev)=>q1.d.stack[z1.toNat]? =some x1) fun x1=> .seg [.el .lev x1] (.br (.seg [.ty .lev,.as 96 (.v (vI z1)),.ty .lev] (.br (.seg [.ty .ev,.ty .ev,.at 0,.keep [1,2,4],.sel [0,1,2,3,8,5,10]] (.next)) (.seg [.ty .ev,.ty .ev,.at 0,.keep [1,2,4],.sel [0,1,2,3,8,5,10]] (.next)))) (.leaf () [0,1,3,4,6])))) (.leaf () [0,1,3,4,6])) (.leaf () [0,1,3,4,6])) (.leaf () [0,1,3,4,6])))) (.br (.br (.seg [.at 0,.keep [1,2,4],.sel [0,1,2,3,4,5,6]] (.next)) (.br (.br (.seg [.at 0,.keep [1,2,4],.sel [0,1,2,3,4,5,6]] (.next)) (.br (.seg [.br false] (.leaf () [0,1,3,4,6])) (.leaf () [0,1,3,4,6]))) (.br (.br (.br (.seg [.as 86 (.v (vI z1))] (.intro (fun (x1:Lev)=>q1.d.stack[z1.toNat]? =some x1) fun x1=> .seg [.el .lev x1] (.br (.seg [.ty .lev,.as 96 (.v (vI z1)),.ty .lev] (.br (.seg [.ty .ev,.ty .ev,.at 0,.keep [1,2,4],.sel [0,1,2,3,8,5,10]] (.next)) (.seg [.ty .ev,.ty .ev,.at 0,.keep [1,2,4],.sel [0,1,2,3,8,5,10]] (.next)))) (.leaf () [0,1,3,4,6])))) (.leaf () [0,1,3,4,6])) (.leaf () [0,1,3,4,6])) (.leaf () [0,1,3,4,6])))) (.br (.br (.br (.seg [.as 86 (.v (vI z1))] (.intro (fun (x1:Lev)=>q1.d.stack[z1.toNat]? =some x1) fun x1=> .seg [.el .lev x1] (.br (.seg [.ty .lev,.as 96 (.v (vI z1)),.ty .lev] (.br (.seg [.ty .ev,.ty .ev,.at 0,.keep [1,2,4],.sel [0,1,2,3,8,5,10]] (.next)) (.seg [.ty .ev,.ty .ev,.at 0,.keep [1,2,4],.sel [0,1,2,3,8,5,10]] (.next)))) (.leaf () [0,1,3,4,6])))) (.leaf () [0,1,3,4,6])) (.leaf () [0,1,3,4,6])) (.leaf () [0,1,3,4,6])))),z17.Has [(1,.v (vP 2)),(2,.v (vP 5)),(4,.v (vO 6))] [.dead,.dead,.cells (Ac 3 4 d),.tree d.plan.shapes,.lst .lev d.stack,.cells z14,.lst .ev ([]:List Ev)]∧∀q1,z17.inv q1→(let z5:List Blk:=[.dead,.dead,.cells [.own 3,zi q1.d.plan.root,zi q1.d.plan.deep,zi q1.d.plan.most,zi 2,.own 4,.int .u64 q1.d.scan.bits,zi q1.d.scan.have_,zi q1.d.start,zi q1.d.at_,zi q1.d.field.number,zi q1.d.field.kind,.bool q1.d.field.rep,.bool q1.d.field.packed,zi q1.d.field.msg,zi q1.d.wire,zi 0,zi q1.d.utf.want,zi q1.d.utf.low,zi q1.d.utf.high,zi q1.d.end_.kind,zi q1.d.end_.field,.int .u64 q1.d.end_.bits,zi q1.d.end_.len,.str q1.d.end_.text,zi q1.d.end_.code,zi q1.d.end_.at_],.tree q1.d.plan.shapes,.lst .lev q1.d.stack,.cells z14,.lst .ev q1.out];let z6:=(q1.d.stack.length:Int);let z7:=([.dead,.dead,.tree q1.d.plan.shapes,.lst .lev q1.d.stack,.lst .ev q1.out]:List Blk);let z8:=(.tup [.agg (Ac 2 3 q1.d),vO 4]:S);let z9:=List.take ((Int.toNat (z6-1))-0) (List.drop 0 q1.d.stack);let z10:=decide (q1.d.scan.have_=0);let z11:=Au q1.d 5 q1.d.at_;let z12:=decide (q1.d.want<1);let z13:=decide (q1.d.mode=2);let z3:=z13=true→(z10=true→((decide (0<z6))=true→((.v (vI (IntKind.i64.wrap (z6-1))):S)= .v (vI (z6-1)))∧(∃(x1:Lev),q1.d.stack[Int.toNat (z6-1)]? =some x1)∧∀(x1:Lev),(q1.d.stack[Int.toNat (z6-1)]? =some x1)→((z6-1<z6)∧((0:Int)≤z6-1)∧(q1.d.stack[Int.toNat (z6-1)]? =some x1)∧((decide (x1.left=0))=true→((.v (vI (IntKind.i64.wrap (z6-1))):S)= .v (vI (z6-1)))∧(z6-1≤z6)∧((0:Int)≤z6-1)∧(List.length ([]:List Lev)+z9.length≤bigN)∧((decide (z6=1))=true→(q1.out.length+List.length [(⟨8,0,0,0,[],0,0⟩:Ev)]≤bigN)∧z17.Nxt q1 [(1,.v (vP 2)),(2,.v (vP 5)),(4,.v (vO 6))] [.dead,.dead,.cells [.own 3,zi q1.d.plan.root,zi q1.d.plan.deep,zi q1.d.plan.most,zi 1,.own 4,.int .u64 q1.d.scan.bits,zi q1.d.scan.have_,zi q1.d.start,zi q1.d.at_,zi q1.d.field.number,zi q1.d.field.kind,.bool q1.d.field.rep,.bool q1.d.field.packed,zi q1.d.field.msg,zi q1.d.wire,zi q1.d.want,zi q1.d.utf.want,zi q1.d.utf.low,zi q1.d.utf.high,zi q1.d.end_.kind,zi q1.d.end_.field,.int .u64 q1.d.end_.bits,zi q1.d.end_.len,.str q1.d.end_.text,zi q1.d.end_.code,zi q1.d.end_.at_],.tree q1.d.plan.shapes,.lst .lev (([]:List Lev)++z9),.cells z14,.lst .ev (q1.out++[(⟨8,0,0,0,[],0,0⟩:Ev)])])∧((decide (z6=1))=false→(q1.out.length+List.length [(⟨7,0,0,0,[],0,0⟩:Ev)]≤bigN)∧z17.Nxt q1 [(1,.v (vP 2)),(2,.v (vP 5)),(4,.v (vO 6))] [.dead,.dead,.cells (Ac 3 4 q1.d),.tree q1.d.plan.shapes,.lst .lev (([]:List Lev)++z9),.cells z14,.lst .ev (q1.out++[(⟨7,0,0,0,[],0,0⟩:Ev)])]))∧((decide (x1.left=0))=false→z8= .tup [.agg z16,vO 4]∧z7=z15)))∧((decide (0<z6))=false→z8= .tup [.agg z16,vO 4]∧z7=z15))∧(z10=false→z8= .tup [.agg z16,vO 4]∧z7=z15);let z4:=z13=false→z8= .tup [.agg z16,vO 4]∧z7=z15;((decide (q1.d.mode=6))=true→(z12=true→((decide (0<q1.d.utf.want))=true→(Fun Tryz.prog 109 [.agg (Ac 0 1 q1.d),vI 5,vI q1.d.at_] [.tree q1.d.plan.shapes,.lst .lev q1.d.stack] (.tup [.agg (Ac 2 3 z11),vO 4]) [.dead,.dead,.tree z11.plan.shapes,.lst .lev z11.stack,.lst .ev [Av 5 q1.d.at_]])∧(q1.out.length+List.length [Av 5 q1.d.at_]≤bigN)∧(.tup [.agg (Ac 2 3 z11),vO 4]:S)= .tup [.agg z16,vO 4]∧([.dead,.dead,.tree z11.plan.shapes,.lst .lev z11.stack,.lst .ev (q1.out++[Av 5 q1.d.at_])]:List Blk)=z15)∧((decide (0<q1.d.utf.want))=false→(q1.out.length+List.length [(⟨5,0,0,0,[],0,0⟩:Ev)]≤bigN)∧z17.Nxt q1 [(1,.v (vP 2)),(2,.v (vP 5)),(4,.v (vO 6))] [.dead,.dead,.cells [.own 3,zi q1.d.plan.root,zi q1.d.plan.deep,zi q1.d.plan.most,zi 2,.own 4,.int .u64 q1.d.scan.bits,zi q1.d.scan.have_,zi q1.d.start,zi q1.d.at_,zi q1.d.field.number,zi q1.d.field.kind,.bool q1.d.field.rep,.bool q1.d.field.packed,zi q1.d.field.msg,zi q1.d.wire,zi 0,zi 0,zi 0,zi 0,zi q1.d.end_.kind,zi q1.d.end_.field,.int .u64 q1.d.end_.bits,zi q1.d.end_.len,.str q1.d.end_.text,zi q1.d.end_.code,zi q1.d.end_.at_],.tree q1.d.plan.shapes,.lst .lev q1.d.stack,.cells z14,.lst .ev (q1.out++[(⟨5,0,0,0,[],0,0⟩:Ev)])]))∧(z12=false→(z12=false)∧z3∧z4))∧((decide (q1.d.mode=6))=false→(z12=true→((decide (q1.d.mode=7))=true→z17.Nxt q1 [(1,.v (vP 2)),(2,.v (vP 5)),(4,.v (vO 6))] z5)∧((decide (q1.d.mode=7))=false→((decide (q1.d.mode=8))=true→(z10=true→z17.Nxt q1 [(1,.v (vP 2)),(2,.v (vP 5)),(4,.v (vO 6))] z5)∧(z10=false→(z13=true→(z10=false)∧z8= .tup [.agg z16,vO 4]∧z7=z15)∧z4))∧((decide (q1.d.mode=8))=false→z3∧z4)))∧(z12=false→z3∧z4))))) (by kernel_rfl) ?_
 refine⟨Bc (j:=(⟨d,([]:List Ev)⟩:De)) rfl rfl (by dsimp only[Bz];exact⟨rfl,by simp,Nat.le_refl _⟩),fun (q1:De) hq_q1=>?_⟩
 have hi_q1:Ad ⟨q1.d,q1.out⟩=Ad ⟨d,[]⟩∧q1.out.length+wM ⟨q1.d,q1.out⟩≤wM ⟨d,[]⟩∧List.length (q1.d).stack≤d.stack.length:=hq_q1
 obtain ⟨v1,v2,v3⟩:=hi_q1
 have hwq:=Acc ⟨q1.d,q1.out⟩
 refine dsp (fun h1 p1=>?_) fun h1 p1=>?_
 refine dsp (fun h2 p2=>?_) fun h2 p2=>?_
 refine dsp (fun h3 p3=>?_) fun h3 p3=>?_
 have hst:Ad ⟨d,[]⟩=As ⟨q1.d,q1.out⟩ 5 q1.d.at_:=by rw[←v1];exact Xa (by assumption) (by assumption) (by assumption)
 refine⟨(Cn q1.d _ _),(by simp only[List.length_cons,List.length_nil];omega),?_⟩
 refine have hm1:(Ad ⟨d,[]⟩).d=(Au q1.d 5 q1.d.at_):=?_;?_
 rotate_left
 refine have hm2:(Ad ⟨d,[]⟩).out=q1.out++[Av 5 q1.d.at_]:=?_;?_
 rotate_left
 exact⟨(by rw[hm1]<;>rfl),(by rw[hm1,hm2]<;>rfl)⟩
 exact⟨(by simp only[List.length_cons,List.length_nil];omega),Bm (j:=(⟨(⟨q1.d.plan,2,q1.d.stack,q1.d.scan,q1.d.start,q1.d.at_,q1.d.field,q1.d.wire,0,utf0,q1.d.end_⟩:Dcd),q1.out++[(⟨5,0,0,0,[],0,0⟩:Ev)]⟩:De)) rfl (by first|rfl|simp) (by dsimp only[Bz];have hcl:Aq ⟨q1.d,q1.out⟩=some ⟨(⟨q1.d.plan,2,q1.d.stack,q1.d.scan,q1.d.start,q1.d.at_,q1.d.field,q1.d.wire,0,utf0,q1.d.end_⟩:Dcd),q1.out++[(⟨5,0,0,0,[],0,0⟩:Ev)]⟩:=(by first|((simp_all[Aq,Hp,Wg,Du,utf0];done))|(grind[Aq,Hp,Wg,Du,utf0]));exact⟨by rw[←v1];exact(Bu hcl).symm,by have:=Bg hcl;simp only at this;omega,by have:=(D8 hcl).1;simp only at this;omega⟩) (by dsimp only[Bz];have hcl:Aq ⟨q1.d,q1.out⟩=some ⟨(⟨q1.d.plan,2,q1.d.stack,q1.d.scan,q1.d.start,q1.d.at_,q1.d.field,q1.d.wire,0,utf0,q1.d.end_⟩:Dcd),q1.out++[(⟨5,0,0,0,[],0,0⟩:Ev)]⟩:=(by first|((simp_all[Aq,Hp,Wg,Du,utf0];done))|(grind[Aq,Hp,Wg,Du,utf0]));exact(Bg hcl).1)⟩
 refine⟨h2,dsp (fun h3 p3=>?_) fun h3 p3=>?_⟩
 refine dsp (fun h4 p4=>?_) fun h4 p4=>?_
 refine dsp (fun h5 p5=>?_) fun h5 p5=>?_
 refine⟨(Ah (by omega) (by omega)),(Bo (l:=q1.d.stack) (i:=Int.toNat ((q1.d.stack.length:Int)-1)) (by omega)),fun x1 hx1=>?_⟩
 refine⟨(by omega),(by omega),?_⟩
 have hll:=Jb (d:=q1.d) (by rw[←hx1];congr 1;omega)
 have hix:Int.toNat ((q1.d.stack.length:Int)-1)=q1.d.stack.length-1:=by omega
 refine⟨hx1,dsp (fun h6 p6=>?_) fun h6 p6=>?_⟩
 refine⟨(Ah (by omega) (by omega)),(by omega),(by omega),(by simp only[List.length_take,List.length_drop,List.length_cons,List.length_nil];omega),dsp (fun h7 p7=>?_) fun h7 p7=>?_⟩
 exact⟨(by simp only[List.length_cons,List.length_nil];omega),Bm (j:=(⟨(⟨q1.d.plan,1,([]:List Lev)++(List.take ((Int.toNat ((q1.d.stack.length:Int)-1))-0) (List.drop 0 q1.d.stack)),q1.d.scan,q1.d.start,q1.d.at_,q1.d.field,q1.d.wire,q1.d.want,q1.d.utf,q1.d.end_⟩:Dcd),q1.out++[(⟨8,0,0,0,[],0,0⟩:Ev)]⟩:De)) rfl (by first|rfl|simp) (by dsimp only[Bz];have hcl:Aq ⟨q1.d,q1.out⟩=some ⟨(⟨q1.d.plan,1,([]:List Lev)++(List.take ((Int.toNat ((q1.d.stack.length:Int)-1))-0) (List.drop 0 q1.d.stack)),q1.d.scan,q1.d.start,q1.d.at_,q1.d.field,q1.d.wire,q1.d.want,q1.d.utf,q1.d.end_⟩:Dcd),q1.out++[(⟨8,0,0,0,[],0,0⟩:Ev)]⟩:=(by simp only[List.nil_append,List.drop_zero,hix];first|exact C2 (by assumption) (by assumption) (by omega) (by rw[hll.2];assumption) (by omega)|exact C3 (by assumption) (by assumption) (by omega) (by rw[hll.2];assumption) (by omega));exact⟨by rw[←v1];exact(Bu hcl).symm,by have:=Bg hcl;simp only at this;omega,by have:=(D8 hcl).1;simp only at this;omega⟩) (by dsimp only[Bz];have hcl:Aq ⟨q1.d,q1.out⟩=some ⟨(⟨q1.d.plan,1,([]:List Lev)++(List.take ((Int.toNat ((q1.d.stack.length:Int)-1))-0) (List.drop 0 q1.d.stack)),q1.d.scan,q1.d.start,q1.d.at_,q1.d.field,q1.d.wire,q1.d.want,q1.d.utf,q1.d.end_⟩:Dcd),q1.out++[(⟨8,0,0,0,[],0,0⟩:Ev)]⟩:=(by simp only[List.nil_append,List.drop_zero,hix];first|exact C2 (by assumption) (by assumption) (by omega) (by rw[hll.2];assumption) (by omega)|exact C3 (by assumption) (by assumption) (by omega) (by rw[hll.2];assumption) (by omega));exact(Bg hcl).1)⟩
 exact⟨(by simp only[List.length_cons,List.length_nil];omega),Bm (j:=(⟨(⟨q1.d.plan,q1.d.mode,([]:List Lev)++(List.take ((Int.toNat ((q1.d.stack.length:Int)-1))-0) (List.drop 0 q1.d.stack)),q1.d.scan,q1.d.start,q1.d.at_,q1.d.field,q1.d.wire,q1.d.want,q1.d.utf,q1.d.end_⟩:Dcd),q1.out++[(⟨7,0,0,0,[],0,0⟩:Ev)]⟩:De)) rfl (by first|rfl|simp) (by dsimp only[Bz];have hcl:Aq ⟨q1.d,q1.out⟩=some ⟨(⟨q1.d.plan,q1.d.mode,([]:List Lev)++(List.take ((Int.toNat ((q1.d.stack.length:Int)-1))-0) (List.drop 0 q1.d.stack)),q1.d.scan,q1.d.start,q1.d.at_,q1.d.field,q1.d.wire,q1.d.want,q1.d.utf,q1.d.end_⟩:Dcd),q1.out++[(⟨7,0,0,0,[],0,0⟩:Ev)]⟩:=(by simp only[List.nil_append,List.drop_zero,hix];first|exact C2 (by assumption) (by assumption) (by omega) (by rw[hll.2];assumption) (by omega)|exact C3 (by assumption) (by assumption) (by omega) (by rw[hll.2];assumption) (by omega));exact⟨by rw[←v1];exact(Bu hcl).symm,by have:=Bg hcl;simp only at this;omega,by have:=(D8 hcl).1;simp only at this;omega⟩) (by dsimp only[Bz];have hcl:Aq ⟨q1.d,q1.out⟩=some ⟨(⟨q1.d.plan,q1.d.mode,([]:List Lev)++(List.take ((Int.toNat ((q1.d.stack.length:Int)-1))-0) (List.drop 0 q1.d.stack)),q1.d.scan,q1.d.start,q1.d.at_,q1.d.field,q1.d.wire,q1.d.want,q1.d.utf,q1.d.end_⟩:Dcd),q1.out++[(⟨7,0,0,0,[],0,0⟩:Ev)]⟩:=(by simp only[List.nil_append,List.drop_zero,hix];first|exact C2 (by assumption) (by assumption) (by omega) (by rw[hll.2];assumption) (by omega)|exact C3 (by assumption) (by assumption) (by omega) (by rw[hll.2];assumption) (by omega));exact(Bg hcl).1)⟩
 refine have hm1:(Ad ⟨d,[]⟩).d=q1.d:=?_;?_
 rotate_left
 refine have hm2:(Ad ⟨d,[]⟩).out=q1.out:=?_;?_
 rotate_left
 exact⟨(by rw[hm1]<;>rfl),(by rw[hm1,hm2]<;>rfl)⟩
 refine have hm1:(Ad ⟨d,[]⟩).d=q1.d:=?_;?_
 rotate_left
 refine have hm2:(Ad ⟨d,[]⟩).out=q1.out:=?_;?_
 rotate_left
 exact⟨(by rw[hm1]<;>rfl),(by rw[hm1,hm2]<;>rfl)⟩
 refine have hm1:(Ad ⟨d,[]⟩).d=q1.d:=?_;?_
 rotate_left
 refine have hm2:(Ad ⟨d,[]⟩).out=q1.out:=?_;?_
 rotate_left
 exact⟨(by rw[hm1]<;>rfl),(by rw[hm1,hm2]<;>rfl)⟩
 refine have hm1:(Ad ⟨d,[]⟩).d=q1.d:=?_;?_
 rotate_left
 refine have hm2:(Ad ⟨d,[]⟩).out=q1.out:=?_;?_
 rotate_left
 exact⟨(by rw[hm1]<;>rfl),(by rw[hm1,hm2]<;>rfl)⟩
 refine dsp (fun h2 p2=>?_) fun h2 p2=>?_
 refine dsp (fun h3 p3=>?_) fun h3 p3=>?_
 exact Bm (j:=(⟨(⟨q1.d.plan,2,q1.d.stack,q1.d.scan,q1.d.start,q1.d.at_,q1.d.field,q1.d.wire,0,q1.d.utf,q1.d.end_⟩:Dcd),q1.out⟩:De)) rfl (by first|rfl|simp) (by dsimp only[Bz];have hcl:Aq ⟨q1.d,q1.out⟩=some ⟨(⟨q1.d.plan,2,q1.d.stack,q1.d.scan,q1.d.start,q1.d.at_,q1.d.field,q1.d.wire,0,q1.d.utf,q1.d.end_⟩:Dcd),q1.out⟩:=(by first|((simp_all[Aq,Hp,Wg,Du,utf0];done))|(grind[Aq,Hp,Wg,Du,utf0]));exact⟨by rw[←v1];exact(Bu hcl).symm,by have:=Bg hcl;simp only at this;omega,by have:=(D8 hcl).1;simp only at this;omega⟩) (by dsimp only[Bz];have hcl:Aq ⟨q1.d,q1.out⟩=some ⟨(⟨q1.d.plan,2,q1.d.stack,q1.d.scan,q1.d.start,q1.d.at_,q1.d.field,q1.d.wire,0,q1.d.utf,q1.d.end_⟩:Dcd),q1.out⟩:=(by first|((simp_all[Aq,Hp,Wg,Du,utf0];done))|(grind[Aq,Hp,Wg,Du,utf0]));exact(Bg hcl).1)
 refine dsp (fun h4 p4=>?_) fun h4 p4=>?_
 refine dsp (fun h5 p5=>?_) fun h5 p5=>?_
 exact Bm (j:=(⟨(⟨q1.d.plan,2,q1.d.stack,q1.d.scan,q1.d.start,q1.d.at_,q1.d.field,q1.d.wire,0,q1.d.utf,q1.d.end_⟩:Dcd),q1.out⟩:De)) rfl (by first|rfl|simp) (by dsimp only[Bz];have hcl:Aq ⟨q1.d,q1.out⟩=some ⟨(⟨q1.d.plan,2,q1.d.stack,q1.d.scan,q1.d.start,q1.d.at_,q1.d.field,q1.d.wire,0,q1.d.utf,q1.d.end_⟩:Dcd),q1.out⟩:=(by first|((simp_all[Aq,Hp,Wg,Du,utf0];done))|(grind[Aq,Hp,Wg,Du,utf0]));exact⟨by rw[←v1];exact(Bu hcl).symm,by have:=Bg hcl;simp only at this;omega,by have:=(D8 hcl).1;simp only at this;omega⟩) (by dsimp only[Bz];have hcl:Aq ⟨q1.d,q1.out⟩=some ⟨(⟨q1.d.plan,2,q1.d.stack,q1.d.scan,q1.d.start,q1.d.at_,q1.d.field,q1.d.wire,0,q1.d.utf,q1.d.end_⟩:Dcd),q1.out⟩:=(by first|((simp_all[Aq,Hp,Wg,Du,utf0];done))|(grind[Aq,Hp,Wg,Du,utf0]));exact(Bg hcl).1)
 refine dsp (fun h6 p6=>?_) fun h6 p6=>?_
 refine⟨h5,?_⟩
 refine have hm1:(Ad ⟨d,[]⟩).d=q1.d:=?_;?_
 rotate_left
 refine have hm2:(Ad ⟨d,[]⟩).out=q1.out:=?_;?_
 rotate_left
 exact⟨(by rw[hm1]<;>rfl),(by rw[hm1,hm2]<;>rfl)⟩
 refine have hm1:(Ad ⟨d,[]⟩).d=q1.d:=?_;?_
 rotate_left
 refine have hm2:(Ad ⟨d,[]⟩).out=q1.out:=?_;?_
 rotate_left
 exact⟨(by rw[hm1]<;>rfl),(by rw[hm1,hm2]<;>rfl)⟩
 refine dsp (fun h5 p5=>?_) fun h5 p5=>?_
 refine dsp (fun h6 p6=>?_) fun h6 p6=>?_
 refine dsp (fun h7 p7=>?_) fun h7 p7=>?_
 refine⟨(Ah (by omega) (by omega)),(Bo (l:=q1.d.stack) (i:=Int.toNat ((q1.d.stack.length:Int)-1)) (by omega)),fun x1 hx1=>?_⟩
 refine⟨(by omega),(by omega),?_⟩
 have hll:=Jb (d:=q1.d) (by rw[←hx1];congr 1;omega)
 have hix:Int.toNat ((q1.d.stack.length:Int)-1)=q1.d.stack.length-1:=by omega
 refine⟨hx1,dsp (fun h8 p8=>?_) fun h8 p8=>?_⟩
 refine⟨(Ah (by omega) (by omega)),(by omega),(by omega),(by simp only[List.length_take,List.length_drop,List.length_cons,List.length_nil];omega),dsp (fun h9 p9=>?_) fun h9 p9=>?_⟩
 exact⟨(by simp only[List.length_cons,List.length_nil];omega),Bm (j:=(⟨(⟨q1.d.plan,1,([]:List Lev)++(List.take ((Int.toNat ((q1.d.stack.length:Int)-1))-0) (List.drop 0 q1.d.stack)),q1.d.scan,q1.d.start,q1.d.at_,q1.d.field,q1.d.wire,q1.d.want,q1.d.utf,q1.d.end_⟩:Dcd),q1.out++[(⟨8,0,0,0,[],0,0⟩:Ev)]⟩:De)) rfl (by first|rfl|simp) (by dsimp only[Bz];have hcl:Aq ⟨q1.d,q1.out⟩=some ⟨(⟨q1.d.plan,1,([]:List Lev)++(List.take ((Int.toNat ((q1.d.stack.length:Int)-1))-0) (List.drop 0 q1.d.stack)),q1.d.scan,q1.d.start,q1.d.at_,q1.d.field,q1.d.wire,q1.d.want,q1.d.utf,q1.d.end_⟩:Dcd),q1.out++[(⟨8,0,0,0,[],0,0⟩:Ev)]⟩:=(by simp only[List.nil_append,List.drop_zero,hix];first|exact C2 (by assumption) (by assumption) (by omega) (by rw[hll.2];assumption) (by omega)|exact C3 (by assumption) (by assumption) (by omega) (by rw[hll.2];assumption) (by omega));exact⟨by rw[←v1];exact(Bu hcl).symm,by have:=Bg hcl;simp only at this;omega,by have:=(D8 hcl).1;simp only at this;omega⟩) (by dsimp only[Bz];have hcl:Aq ⟨q1.d,q1.out⟩=some ⟨(⟨q1.d.plan,1,([]:List Lev)++(List.take ((Int.toNat ((q1.d.stack.length:Int)-1))-0) (List.drop 0 q1.d.stack)),q1.d.scan,q1.d.start,q1.d.at_,q1.d.field,q1.d.wire,q1.d.want,q1.d.utf,q1.d.end_⟩:Dcd),q1.out++[(⟨8,0,0,0,[],0,0⟩:Ev)]⟩:=(by simp only[List.nil_append,List.drop_zero,hix];first|exact C2 (by assumption) (by assumption) (by omega) (by rw[hll.2];assumption) (by omega)|exact C3 (by assumption) (by assumption) (by omega) (by rw[hll.2];assumption) (by omega));exact(Bg hcl).1)⟩
 exact⟨(by simp only[List.length_cons,List.length_nil];omega),Bm (j:=(⟨(⟨q1.d.plan,q1.d.mode,([]:List Lev)++(List.take ((Int.toNat ((q1.d.stack.length:Int)-1))-0) (List.drop 0 q1.d.stack)),q1.d.scan,q1.d.start,q1.d.at_,q1.d.field,q1.d.wire,q1.d.want,q1.d.utf,q1.d.end_⟩:Dcd),q1.out++[(⟨7,0,0,0,[],0,0⟩:Ev)]⟩:De)) rfl (by first|rfl|simp) (by dsimp only[Bz];have hcl:Aq ⟨q1.d,q1.out⟩=some ⟨(⟨q1.d.plan,q1.d.mode,([]:List Lev)++(List.take ((Int.toNat ((q1.d.stack.length:Int)-1))-0) (List.drop 0 q1.d.stack)),q1.d.scan,q1.d.start,q1.d.at_,q1.d.field,q1.d.wire,q1.d.want,q1.d.utf,q1.d.end_⟩:Dcd),q1.out++[(⟨7,0,0,0,[],0,0⟩:Ev)]⟩:=(by simp only[List.nil_append,List.drop_zero,hix];first|exact C2 (by assumption) (by assumption) (by omega) (by rw[hll.2];assumption) (by omega)|exact C3 (by assumption) (by assumption) (by omega) (by rw[hll.2];assumption) (by omega));exact⟨by rw[←v1];exact(Bu hcl).symm,by have:=Bg hcl;simp only at this;omega,by have:=(D8 hcl).1;simp only at this;omega⟩) (by dsimp only[Bz];have hcl:Aq ⟨q1.d,q1.out⟩=some ⟨(⟨q1.d.plan,q1.d.mode,([]:List Lev)++(List.take ((Int.toNat ((q1.d.stack.length:Int)-1))-0) (List.drop 0 q1.d.stack)),q1.d.scan,q1.d.start,q1.d.at_,q1.d.field,q1.d.wire,q1.d.want,q1.d.utf,q1.d.end_⟩:Dcd),q1.out++[(⟨7,0,0,0,[],0,0⟩:Ev)]⟩:=(by simp only[List.nil_append,List.drop_zero,hix];first|exact C2 (by assumption) (by assumption) (by omega) (by rw[hll.2];assumption) (by omega)|exact C3 (by assumption) (by assumption) (by omega) (by rw[hll.2];assumption) (by omega));exact(Bg hcl).1)⟩
 refine have hm1:(Ad ⟨d,[]⟩).d=q1.d:=?_;?_
 rotate_left
 refine have hm2:(Ad ⟨d,[]⟩).out=q1.out:=?_;?_
 rotate_left
 exact⟨(by rw[hm1]<;>rfl),(by rw[hm1,hm2]<;>rfl)⟩
 refine have hm1:(Ad ⟨d,[]⟩).d=q1.d:=?_;?_
 rotate_left
 refine have hm2:(Ad ⟨d,[]⟩).out=q1.out:=?_;?_
 rotate_left
 exact⟨(by rw[hm1]<;>rfl),(by rw[hm1,hm2]<;>rfl)⟩
 refine have hm1:(Ad ⟨d,[]⟩).d=q1.d:=?_;?_
 rotate_left
 refine have hm2:(Ad ⟨d,[]⟩).out=q1.out:=?_;?_
 rotate_left
 exact⟨(by rw[hm1]<;>rfl),(by rw[hm1,hm2]<;>rfl)⟩
 refine have hm1:(Ad ⟨d,[]⟩).d=q1.d:=?_;?_
 rotate_left
 refine have hm2:(Ad ⟨d,[]⟩).out=q1.out:=?_;?_
 rotate_left
 exact⟨(by rw[hm1]<;>rfl),(by rw[hm1,hm2]<;>rfl)⟩
 refine dsp (fun h3 p3=>?_) fun h3 p3=>?_
 refine dsp (fun h4 p4=>?_) fun h4 p4=>?_
 refine dsp (fun h5 p5=>?_) fun h5 p5=>?_
 refine⟨(Ah (by omega) (by omega)),(Bo (l:=q1.d.stack) (i:=Int.toNat ((q1.d.stack.length:Int)-1)) (by omega)),fun x1 hx1=>?_⟩
 refine⟨(by omega),(by omega),?_⟩
 have hll:=Jb (d:=q1.d) (by rw[←hx1];congr 1;omega)
 have hix:Int.toNat ((q1.d.stack.length:Int)-1)=q1.d.stack.length-1:=by omega
 refine⟨hx1,dsp (fun h6 p6=>?_) fun h6 p6=>?_⟩
 refine⟨(Ah (by omega) (by omega)),(by omega),(by omega),(by simp only[List.length_take,List.length_drop,List.length_cons,List.length_nil];omega),dsp (fun h7 p7=>?_) fun h7 p7=>?_⟩
 exact⟨(by simp only[List.length_cons,List.length_nil];omega),Bm (j:=(⟨(⟨q1.d.plan,1,([]:List Lev)++(List.take ((Int.toNat ((q1.d.stack.length:Int)-1))-0) (List.drop 0 q1.d.stack)),q1.d.scan,q1.d.start,q1.d.at_,q1.d.field,q1.d.wire,q1.d.want,q1.d.utf,q1.d.end_⟩:Dcd),q1.out++[(⟨8,0,0,0,[],0,0⟩:Ev)]⟩:De)) rfl (by first|rfl|simp) (by dsimp only[Bz];have hcl:Aq ⟨q1.d,q1.out⟩=some ⟨(⟨q1.d.plan,1,([]:List Lev)++(List.take ((Int.toNat ((q1.d.stack.length:Int)-1))-0) (List.drop 0 q1.d.stack)),q1.d.scan,q1.d.start,q1.d.at_,q1.d.field,q1.d.wire,q1.d.want,q1.d.utf,q1.d.end_⟩:Dcd),q1.out++[(⟨8,0,0,0,[],0,0⟩:Ev)]⟩:=(by simp only[List.nil_append,List.drop_zero,hix];first|exact C2 (by assumption) (by assumption) (by omega) (by rw[hll.2];assumption) (by omega)|exact C3 (by assumption) (by assumption) (by omega) (by rw[hll.2];assumption) (by omega));exact⟨by rw[←v1];exact(Bu hcl).symm,by have:=Bg hcl;simp only at this;omega,by have:=(D8 hcl).1;simp only at this;omega⟩) (by dsimp only[Bz];have hcl:Aq ⟨q1.d,q1.out⟩=some ⟨(⟨q1.d.plan,1,([]:List Lev)++(List.take ((Int.toNat ((q1.d.stack.length:Int)-1))-0) (List.drop 0 q1.d.stack)),q1.d.scan,q1.d.start,q1.d.at_,q1.d.field,q1.d.wire,q1.d.want,q1.d.utf,q1.d.end_⟩:Dcd),q1.out++[(⟨8,0,0,0,[],0,0⟩:Ev)]⟩:=(by simp only[List.nil_append,List.drop_zero,hix];first|exact C2 (by assumption) (by assumption) (by omega) (by rw[hll.2];assumption) (by omega)|exact C3 (by assumption) (by assumption) (by omega) (by rw[hll.2];assumption) (by omega));exact(Bg hcl).1)⟩
 exact⟨(by simp only[List.length_cons,List.length_nil];omega),Bm (j:=(⟨(⟨q1.d.plan,q1.d.mode,([]:List Lev)++(List.take ((Int.toNat ((q1.d.stack.length:Int)-1))-0) (List.drop 0 q1.d.stack)),q1.d.scan,q1.d.start,q1.d.at_,q1.d.field,q1.d.wire,q1.d.want,q1.d.utf,q1.d.end_⟩:Dcd),q1.out++[(⟨7,0,0,0,[],0,0⟩:Ev)]⟩:De)) rfl (by first|rfl|simp) (by dsimp only[Bz];have hcl:Aq ⟨q1.d,q1.out⟩=some ⟨(⟨q1.d.plan,q1.d.mode,([]:List Lev)++(List.take ((Int.toNat ((q1.d.stack.length:Int)-1))-0) (List.drop 0 q1.d.stack)),q1.d.scan,q1.d.start,q1.d.at_,q1.d.field,q1.d.wire,q1.d.want,q1.d.utf,q1.d.end_⟩:Dcd),q1.out++[(⟨7,0,0,0,[],0,0⟩:Ev)]⟩:=(by simp only[List.nil_append,List.drop_zero,hix];first|exact C2 (by assumption) (by assumption) (by omega) (by rw[hll.2];assumption) (by omega)|exact C3 (by assumption) (by assumption) (by omega) (by rw[hll.2];assumption) (by omega));exact⟨by rw[←v1];exact(Bu hcl).symm,by have:=Bg hcl;simp only at this;omega,by have:=(D8 hcl).1;simp only at this;omega⟩) (by dsimp only[Bz];have hcl:Aq ⟨q1.d,q1.out⟩=some ⟨(⟨q1.d.plan,q1.d.mode,([]:List Lev)++(List.take ((Int.toNat ((q1.d.stack.length:Int)-1))-0) (List.drop 0 q1.d.stack)),q1.d.scan,q1.d.start,q1.d.at_,q1.d.field,q1.d.wire,q1.d.want,q1.d.utf,q1.d.end_⟩:Dcd),q1.out++[(⟨7,0,0,0,[],0,0⟩:Ev)]⟩:=(by simp only[List.nil_append,List.drop_zero,hix];first|exact C2 (by assumption) (by assumption) (by omega) (by rw[hll.2];assumption) (by omega)|exact C3 (by assumption) (by assumption) (by omega) (by rw[hll.2];assumption) (by omega));exact(Bg hcl).1)⟩
 refine have hm1:(Ad ⟨d,[]⟩).d=q1.d:=?_;?_
 rotate_left
 refine have hm2:(Ad ⟨d,[]⟩).out=q1.out:=?_;?_
 rotate_left
 exact⟨(by rw[hm1]<;>rfl),(by rw[hm1,hm2]<;>rfl)⟩
 refine have hm1:(Ad ⟨d,[]⟩).d=q1.d:=?_;?_
 rotate_left
 refine have hm2:(Ad ⟨d,[]⟩).out=q1.out:=?_;?_
 rotate_left
 exact⟨(by rw[hm1]<;>rfl),(by rw[hm1,hm2]<;>rfl)⟩
 refine have hm1:(Ad ⟨d,[]⟩).d=q1.d:=?_;?_
 rotate_left
 refine have hm2:(Ad ⟨d,[]⟩).out=q1.out:=?_;?_
 rotate_left
 exact⟨(by rw[hm1]<;>rfl),(by rw[hm1,hm2]<;>rfl)⟩
 refine have hm1:(Ad ⟨d,[]⟩).d=q1.d:=?_;?_
 rotate_left
 refine have hm2:(Ad ⟨d,[]⟩).out=q1.out:=?_;?_
 rotate_left
 exact⟨(by rw[hm1]<;>rfl),(by rw[hm1,hm2]<;>rfl)⟩
 all_goals first|((rw[hst];rfl))|((rw[←v1,Bv (by first|((simp_all[Aq,Hp,Wg,Du,utf0];done))|(grind[Aq,Hp,Wg,Du,utf0]))]))
theorem Nf (d:Dcd) (e:Ev) (hp1:List.length (d).stack≤1000):Fun Tryz.prog 110 [.agg (Ac 0 1 d),.agg (cEv e)] [.tree d.plan.shapes,.lst .lev d.stack] (.tup [.agg (Ac 2 3 (Ad ⟨d,[]⟩).d),vO 4]) [.dead,.dead,.tree (Ad ⟨d,[]⟩).d.plan.shapes,.lst .lev (Ad ⟨d,[]⟩).d.stack,.lst .ev (e::(Ad ⟨d,[]⟩).out)]:=by
 have hN:bigN=274877906944:=rfl
 have hso:=Su ⟨d,[]⟩
 have hwd:=Acc ⟨d,[]⟩
 simp only[List.length_nil] at hwd hso
 refine Af Tryz.func110 (by kernel_rfl) (by kernel_rfl) (w:=let z1:=Ad ⟨d,[]⟩;let z2:List Blk:=[.dead,.dead,.tree z1.d.plan.shapes,.lst .lev z1.d.stack,.lst .ev z1.out];let z3:=Ac 2 3 z1.d;(.seg [.call [0,1] (.tup [.agg z3,vO 4]) z2,.tree (.first 0 (.first 1 (.first 3 (.one 2 (.one 4 (.one 5 (.first 6 (.done)))))))) 5 [7],.ty .ev,.ty .ev] (.leaf () [0,1,5,6,10]),(Fun Tryz.prog 107 [.agg (Ac 0 1 d)] [.tree d.plan.shapes,.lst .lev d.stack] (.tup [.agg z3,vO 4]) z2)∧(List.length [e]+z1.out.length≤bigN)∧(.tup [.agg z3,vO 4]:S)= .tup [.agg z3,vO 4]∧([.dead,.dead,.tree z1.d.plan.shapes,.lst .lev z1.d.stack,.lst .ev ([e]++z1.out)]:List Blk)=[.dead,.dead,.tree z1.d.plan.shapes,.lst .lev z1.d.stack,.lst .ev (e::z1.out)])) (by kernel_rfl) ?_
 exact⟨(Hm d (by omega)),(by simp only[List.length_cons,List.length_nil];omega),rfl,(Aa rfl (Aa rfl (Aa rfl (Aa rfl (Aa (congrArg (Blk.lst .ev) (by rfl)) rfl)))))⟩
theorem Aeg (d:Dcd) (u:Int) (hp1:A5 d=true) (hp2:(0:Int)≤u∧u≤18446744073709551615):Fun Tryz.prog 161 [.agg (Bi d),.c (.int .u64 u)] [] (.tup [.agg (Ac 0 1 (Cj ⟨d,[]⟩ u).d),vO 2]) [.tree (Cj ⟨d,[]⟩ u).d.plan.shapes,.lst .lev (Cj ⟨d,[]⟩ u).d.stack,.lst .ev (Cj ⟨d,[]⟩ u).out]:=by
 have hN:bigN=274877906944:=rfl
 have hlv:=Bs hp1
 have hpt:=By hlv.1
 have htb:=Gm hp1
 refine Af Tryz.func161 (by kernel_rfl) (by kernel_rfl) (w:=let zi:Int→C:= .int .i64;let z1:List C:=[.own 1,.int .u64 0,zi 0,zi d.start,zi d.at_,zi d.field.number,zi d.field.kind,.bool d.field.rep,.bool d.field.packed,zi d.field.msg,zi d.wire,zi d.want,zi d.utf.want,zi d.utf.low,zi d.utf.high,zi d.end_.kind,zi d.end_.field,.int .u64 d.end_.bits,zi d.end_.len,.str d.end_.text,zi d.end_.code,zi d.end_.at_];let z2:=Ad ⟨(⟨d.plan,2,[(⟨d.plan.root,u⟩:Lev)],(⟨0,0⟩:Scn),d.start,d.at_,d.field,d.wire,d.want,d.utf,d.end_⟩:Dcd),[]⟩;let z3:=Au (⟨d.plan,d.mode,d.stack,(⟨0,0⟩:Scn),d.start,d.at_,d.field,d.wire,d.want,d.utf,d.end_⟩:Dcd) 7 d.start;let z4:=Cj ⟨d,[]⟩ u;let z6:List Blk:=[.dead,.dead,.tree z3.plan.shapes,.lst .lev z3.stack,.lst .ev [Av 7 d.start]];let z7:=(.v (vI (IntKind.i64.wrap (u))):S)= .v (vI u);let z8:=(⟨1,0,0,u,[],0,0⟩:Ev)::z2.out;let z5:List Blk:=[.dead,.dead,.tree z2.d.plan.shapes,.lst .lev z2.d.stack,.lst .ev z8];(.seg [.call [] (.v (.agg (Ac 0 1 d))) [.tree d.plan.shapes,.lst .lev d.stack],.call [] (.v (vB (A5 d))) [],.br false,.as 20 (.v (.c (.int .u64 d.plan.most)))] (.br (.seg [.call [2,3] (.tup [.agg (Ac 2 3 z3),vO 4]) z6] (.leaf () [5,6,7])) (.seg [.as 32 (.v (vI u)),.ty .lev,.as 39 (.v (vI u)),.call [2,5] (.tup [.agg (Ac 2 3 z2.d),vO 4]) z5] (.leaf () [6,7,8]))),(Fun Tryz.prog 63 [.agg (Bi d)] [] (.v (.agg (Ac 0 1 d))) [.tree d.plan.shapes,.lst .lev d.stack])∧(Fun Tryz.prog 194 [.agg (Bi d)] [] (.v (vB (A5 d))) [])∧((!(A5 d))=false)∧((.v (.c (.int .u64 (IntKind.u64.wrap (d.plan.most)))):S)= .v (.c (.int .u64 d.plan.most)))∧((decide (d.plan.most<u))=true→(Fun Tryz.prog 109 [.agg (.own 0::zi d.plan.root::zi d.plan.deep::zi d.plan.most::zi d.mode::z1),vI 7,vI d.start] [.tree d.plan.shapes,.lst .lev d.stack] (.tup [.agg (Ac 2 3 z3),vO 4]) z6)∧(.tup [.agg (Ac 0 1 z3),vO 2]:S)= .tup [.agg (Ac 0 1 z4.d),vO 2]∧([.tree z3.plan.shapes,.lst .lev z3.stack,.lst .ev [Av 7 d.start]]:List Blk)=[.tree z4.d.plan.shapes,.lst .lev z4.d.stack,.lst .ev z4.out])∧((decide (d.plan.most<u))=false→z7∧z7∧(Fun Tryz.prog 110 [.agg (.own 0::zi d.plan.root::zi d.plan.deep::zi d.plan.most::zi 2::z1),.agg [zi 1,zi 0,.int .u64 0,zi u,.str [],zi 0,zi 0]] [.tree d.plan.shapes,.lst .lev [(⟨d.plan.root,u⟩:Lev)]] (.tup [.agg (Ac 2 3 z2.d),vO 4]) z5)∧(.tup [.agg (Ac 0 1 z2.d),vO 2]:S)= .tup [.agg (Ac 0 1 z4.d),vO 2]∧([.tree z2.d.plan.shapes,.lst .lev z2.d.stack,.lst .ev z8]:List Blk)=[.tree z4.d.plan.shapes,.lst .lev z4.d.stack,.lst .ev z4.out]))) (by kernel_rfl) ?_
 refine⟨(Fr d (by omega) (Dp hpt.2.1) (by omega)),(Qo d (by omega) (by omega)),(by simp[hp1]),(Dx (by omega) (by omega)),dsp (fun h1 p1=>?_) fun h1 p1=>?_⟩
 refine⟨(Cn (⟨d.plan,d.mode,d.stack,(⟨0,0⟩:Scn),d.start,d.at_,d.field,d.wire,d.want,d.utf,d.end_⟩:Dcd) _ _),?_⟩
 refine have hm1:(Cj ⟨d,[]⟩ u).d=(Au (⟨d.plan,d.mode,d.stack,(⟨0,0⟩:Scn),d.start,d.at_,d.field,d.wire,d.want,d.utf,d.end_⟩:Dcd) 7 d.start):=?_;?_
 rotate_left
 refine have hm2:(Cj ⟨d,[]⟩ u).out=[Av 7 d.start]:=?_;?_
 rotate_left
 exact⟨(by rw[hm1]<;>rfl),(by rw[hm1,hm2]<;>rfl)⟩
 refine⟨(Ah (by omega) (by omega)),(Ah (by omega) (by omega)),(Nf (⟨d.plan,2,[(⟨d.plan.root,u⟩:Lev)],(⟨0,0⟩:Scn),d.start,d.at_,d.field,d.wire,d.want,d.utf,d.end_⟩:Dcd) (⟨1,0,0,u,[],0,0⟩:Ev) (by simp only[List.length_append,List.length_cons,List.length_nil,List.length_set,List.length_take];omega)),?_⟩
 refine have hm1:(Cj ⟨d,[]⟩ u).d=(Ad ⟨(⟨d.plan,2,[(⟨d.plan.root,u⟩:Lev)],(⟨0,0⟩:Scn),d.start,d.at_,d.field,d.wire,d.want,d.utf,d.end_⟩:Dcd),[]⟩).d:=?_;?_
 rotate_left
 refine have hm2:(Cj ⟨d,[]⟩ u).out=(⟨1,0,0,u,[],0,0⟩:Ev)::(Ad ⟨(⟨d.plan,2,[(⟨d.plan.root,u⟩:Lev)],(⟨0,0⟩:Scn),d.start,d.at_,d.field,d.wire,d.want,d.utf,d.end_⟩:Dcd),[]⟩).out:=?_;?_
 rotate_left
 exact⟨(by rw[hm1]<;>rfl),(by rw[hm1,hm2]<;>rfl)⟩
 all_goals first|(simp_all[Cj,Add,As,Au,scn0,utf0,B9];done)|(grind[Cj,Add,As,Au,scn0,utf0,B9])
set_option maxHeartbeats 1600000 in
theorem Ai6 (d:Dcd) (u:Int) (hp1:A5 d=true) (hp2:(0:Int)≤u∧u≤18446744073709551615):Fun Tryz.prog 162 [.agg (Bi d),.c (.int .u64 u)] [] (.tup [.agg (Ac 0 1 (D5 ⟨d,[]⟩ u).d),vO 2]) [.tree (D5 ⟨d,[]⟩ u).d.plan.shapes,.lst .lev (D5 ⟨d,[]⟩ u).d.stack,.lst .ev (D5 ⟨d,[]⟩ u).out]:=by
 have hN:bigN=274877906944:=rfl
 have hlv:=Bs hp1
 have hpt:=By hlv.1
 have htb:=Gm hp1
 have htw:=Ag0 u
 have hwb:=Gc (Ag u)
 have hmx:max (Aw (Ag u)) 1=if 1>Aw (Ag u) then 1 else Aw (Ag u):=by split<;>omega
 have hw1:C4 (Ag u)=true→¬Ag u=0→¬Ag u=2→1≤Aw (Ag u):=by
  intro a b c
  simp[C4] at a
  unfold Aw
  split<;>(try split)<;>omega
 refine Af Tryz.func162 (by kernel_rfl) (by kernel_rfl) (w:=let zi:Int→C:= .int .i64;let z11:List C:=[zi d.want,zi d.utf.want,zi d.utf.low,zi d.utf.high,zi d.end_.kind,zi d.end_.field,.int .u64 d.end_.bits,zi d.end_.len,.str d.end_.text,zi d.end_.code,zi d.end_.at_];let z12:List C:=[.nil,zi 0,zi 0,zi 0,zi 0,.nil,.int .u64 0,zi 0,zi 0,zi 0,zi 0,zi 0,.bool false,.bool false,zi 0,zi 0,zi 0,zi 0,zi 0,zi 0,zi 0,zi 0,.int .u64 0,zi 0,.str [],zi 0,zi 0];let z14:=(d.stack.length:Int);let z15:=D5 ⟨d,[]⟩ u;let z16:=(⟨0,0⟩:Scn);let z13:=(⟨d.plan,d.mode,d.stack,z16,d.start,d.at_,d.field,d.wire,d.want,d.utf,d.end_⟩:Dcd);let z19:=Ag u;let z20:=Au z13 2 d.start;let z18:List Blk:=[.dead,.dead,.tree z20.plan.shapes,.lst .lev z20.stack,.lst .ev [Av 2 d.start]];let z21:=Ac 0 1 z15.d;let z22:=([.tree d.plan.shapes,.lst .lev d.stack,.lst .ev ([]:List Ev)]:List Blk);let z23:=Au z13 3 d.start;let z24:=Au z13 4 d.start;let z25:=(0:Int)≤z14-1;let z26:=([.tree z20.plan.shapes,.lst .lev z20.stack,.lst .ev [Av 2 d.start]]:List Blk);let z27:=vI (z14-1);let z17:=(.v (vI (IntKind.i64.wrap (z14-1))):S)= .v z27;let z28:List Blk:=[.dead,.dead,.tree z23.plan.shapes,.lst .lev z23.stack,.lst .ev [Av 3 d.start]];let z29:List Blk:=[.dead,.dead,.tree z24.plan.shapes,.lst .lev z24.stack,.lst .ev [Av 4 d.start]];let z30:=decide (Ag u=0);let z31:=decide (Ag u=2);let z32:=vI (Aw z19);let z33:=Ac 2 3 z20;let z34:=(.tup [.agg (Ac 0 1 z20),vO 2]:S);let z35:=Bp u;(.seg [.call [] (.v (.agg (Ac 0 1 d))) [.tree d.plan.shapes,.lst .lev d.stack],.call [] (.v (vB (A5 d))) [],.br false,.call [] (.tup [vI z35,vI z19,vB (J5 u)]) []] (.br (.seg [.call [2,3] (.tup [.agg z33,vO 4]) z18] (.leaf () [5,6,7])) (.br (.seg [.call [2,3] (.tup [.agg z33,vO 4]) z18] (.leaf () [5,6,7])) (.intro (fun (x1:Lev)=>d.stack[Int.toNat (z14-1)]? =some x1) fun x1=>let z2:=fieldAt d.plan.shapes x1.msg z35;let z1:=z2.getD fld0;.seg [.tree (fr (.two 11 (fr (.one 15 (.one 16 (.first 17 (.done)))) 12 3) 15 (.one 11 (fr (.one 16 (.first 17 (.done))) 12 3))) 0 11) 18 [],.as 51 (.v z27),.el .lev x1,.call [] (.tup [.agg (Fd z1),vB z2.isSome]) [],.at 0,.keep [2,4,6,8,10,11,12],.sel [0,1,4,2,3,5],.call [] (.tup [.agg (Fd z1),vB z2.isSome]) [],.at 0,.keep [2,4,6,8,10,11,12],.sel [0,1,4,2,3,5],.call [] (.v (vB (C4 z19))) []] (.br (.seg [.call [3,4] (.tup [.agg (Ac 2 3 z23),vO 4]) z28] (.leaf () [6,7,8])) (.br (.seg [.call [] (.v (vB (Cx z1 z19))) []] (.br (.seg [.call [3,4] (.tup [.agg (Ac 2 3 z24),vO 4]) z29] (.leaf () [6,7,8])) (.br (.seg [.as 98 (.v z27),.el .lev x1] (.br (.seg [.call [3,4] (.tup [.agg (Ac 2 3 (Au (⟨d.plan,3,d.stack,z16,d.start,d.at_,z1,Ag u,d.want,d.utf,d.end_⟩:Dcd) 9 d.at_)),vO 4]) [.dead,.dead,.tree (Au (⟨d.plan,3,d.stack,z16,d.start,d.at_,z1,Ag u,d.want,d.utf,d.end_⟩:Dcd) 9 d.at_).plan.shapes,.lst .lev (Au (⟨d.plan,3,d.stack,z16,d.start,d.at_,z1,Ag u,d.want,d.utf,d.end_⟩:Dcd) 9 d.at_).stack,.lst .ev [Av 9 d.at_]]] (.leaf () [6,7,8])) (.seg [.ty .ev] (.leaf () [3,4,6])))) (.br (.seg [.as 98 (.v z27),.el .lev x1] (.br (.seg [.call [3,4] (.tup [.agg (Ac 2 3 (Au (⟨d.plan,4,d.stack,z16,d.start,d.at_,z1,Ag u,d.want,d.utf,d.end_⟩:Dcd) 9 d.at_)),vO 4]) [.dead,.dead,.tree (Au (⟨d.plan,4,d.stack,z16,d.start,d.at_,z1,Ag u,d.want,d.utf,d.end_⟩:Dcd) 9 d.at_).plan.shapes,.lst .lev (Au (⟨d.plan,4,d.stack,z16,d.start,d.at_,z1,Ag u,d.want,d.utf,d.end_⟩:Dcd) 9 d.at_).stack,.lst .ev [Av 9 d.at_]]] (.leaf () [6,7,8])) (.seg [.ty .ev] (.leaf () [3,4,6])))) (.seg [.call [] (.v z32) [],.as 98 (.v z27),.el .lev x1] (.br (.seg [.call [3,4] (.tup [.agg (Ac 2 3 (Au (⟨d.plan,5,d.stack,z16,d.start,d.at_,z1,Ag u,d.want,d.utf,d.end_⟩:Dcd) 9 d.at_)),vO 4]) [.dead,.dead,.tree (Au (⟨d.plan,5,d.stack,z16,d.start,d.at_,z1,Ag u,d.want,d.utf,d.end_⟩:Dcd) 9 d.at_).plan.shapes,.lst .lev (Au (⟨d.plan,5,d.stack,z16,d.start,d.at_,z1,Ag u,d.want,d.utf,d.end_⟩:Dcd) 9 d.at_).stack,.lst .ev [Av 9 d.at_]]] (.leaf () [6,7,8])) (.seg [.ty .ev] (.leaf () [3,4,6])))))))) (.br (.seg [.as 98 (.v z27),.el .lev x1] (.br (.seg [.call [3,4] (.tup [.agg (Ac 2 3 (Au (⟨d.plan,3,d.stack,z16,d.start,d.at_,z1,Ag u,d.want,d.utf,d.end_⟩:Dcd) 9 d.at_)),vO 4]) [.dead,.dead,.tree (Au (⟨d.plan,3,d.stack,z16,d.start,d.at_,z1,Ag u,d.want,d.utf,d.end_⟩:Dcd) 9 d.at_).plan.shapes,.lst .lev (Au (⟨d.plan,3,d.stack,z16,d.start,d.at_,z1,Ag u,d.want,d.utf,d.end_⟩:Dcd) 9 d.at_).stack,.lst .ev [Av 9 d.at_]]] (.leaf () [6,7,8])) (.seg [.ty .ev] (.leaf () [3,4,6])))) (.br (.seg [.as 98 (.v z27),.el .lev x1] (.br (.seg [.call [3,4] (.tup [.agg (Ac 2 3 (Au (⟨d.plan,4,d.stack,z16,d.start,d.at_,z1,Ag u,d.want,d.utf,d.end_⟩:Dcd) 9 d.at_)),vO 4]) [.dead,.dead,.tree (Au (⟨d.plan,4,d.stack,z16,d.start,d.at_,z1,Ag u,d.want,d.utf,d.end_⟩:Dcd) 9 d.at_).plan.shapes,.lst .lev (Au (⟨d.plan,4,d.stack,z16,d.start,d.at_,z1,Ag u,d.want,d.utf,d.end_⟩:Dcd) 9 d.at_).stack,.lst .ev [Av 9 d.at_]]] (.leaf () [6,7,8])) (.seg [.ty .ev] (.leaf () [3,4,6])))) (.seg [.call [] (.v z32) [],.as 98 (.v z27),.el .lev x1] (.br (.seg [.call [3,4] (.tup [.agg (Ac 2 3 (Au (⟨d.plan,5,d.stack,z16,d.start,d.at_,z1,Ag u,d.want,d.utf,d.end_⟩:Dcd) 9 d.at_)),vO 4]) [.dead,.dead,.tree (Au (⟨d.plan,5,d.stack,z16,d.start,d.at_,z1,Ag u,d.want,d.utf,d.end_⟩:Dcd) 9 d.at_).plan.shapes,.lst .lev (Au (⟨d.plan,5,d.stack,z16,d.start,d.at_,z1,Ag u,d.want,d.utf,d.end_⟩:Dcd) 9 d.at_).stack,.lst .ev [Av 9 d.at_]]] (.leaf () [6,7,8])) (.seg [.ty .ev] (.leaf () [3,4,6]))))))))))),(Fun Tryz.prog 63 [.agg (Bi d)] [] (.v (.agg (Ac 0 1 d))) [.tree d.plan.shapes,.lst .lev d.stack])∧(Fun Tryz.prog 194 [.agg (Bi d)] [] (.v (vB (A5 d))) [])∧((!(A5 d))=false)∧(Fun Tryz.prog 195 [.c (.int .u64 u)] [] (.tup [vI z35,vI z19,vB (J5 u)]) [])∧((!(J5 u))=true→(Fun Tryz.prog 109 [.agg (.own 0::zi d.plan.root::zi d.plan.deep::zi d.plan.most::zi d.mode:: .own 1:: .int .u64 0::zi 0::zi d.start::zi d.at_::zi d.field.number::zi d.field.kind:: .bool d.field.rep:: .bool d.field.packed::zi d.field.msg::zi d.wire::z11),vI 2,vI d.start] [.tree d.plan.shapes,.lst .lev d.stack] (.tup [.agg z33,vO 4]) z18)∧z34= .tup [.agg z21,vO 2]∧z26=[.tree z15.d.plan.shapes,.lst .lev z15.d.stack,.lst .ev z15.out])∧((!(J5 u))=false→((decide (z14=0))=true→(Fun Tryz.prog 109 [.agg (.own 0::zi d.plan.root::zi d.plan.deep::zi d.plan.most::zi d.mode:: .own 1:: .int .u64 0::zi 0::zi d.start::zi d.at_::zi d.field.number::zi d.field.kind:: .bool d.field.rep:: .bool d.field.packed::zi d.field.msg::zi d.wire::z11),vI 2,vI d.start] [.tree d.plan.shapes,.lst .lev d.stack] (.tup [.agg z33,vO 4]) z18)∧z34= .tup [.agg z21,vO 2]∧z26=[.tree z15.d.plan.shapes,.lst .lev z15.d.stack,.lst .ev z15.out])∧((decide (z14=0))=false→(∃(x1:Lev),d.stack[Int.toNat (z14-1)]? =some x1)∧∀(x1:Lev),(d.stack[Int.toNat (z14-1)]? =some x1)→(let z7:=d.stack[Int.toNat (z14-1)]? =some x1;let z8:=fieldAt d.plan.shapes x1.msg z35;let z3:=z8.getD fld0;let z9:=decide (x1.left<1);let z5:=z9=false→(.tup [.agg (.own 0::zi d.plan.root::zi d.plan.deep::zi d.plan.most::zi 3:: .own 1:: .int .u64 0::zi 0::zi d.start::zi d.at_::zi z3.number::zi z3.kind:: .bool z3.rep:: .bool z3.packed::zi z3.msg::zi z19::z11),vO 2]:S)= .tup [.agg z21,vO 2]∧z22=[.tree z15.d.plan.shapes,.lst .lev z15.d.stack,.lst .ev z15.out];let z6:=z9=false→(.tup [.agg (.own 0::zi d.plan.root::zi d.plan.deep::zi d.plan.most::zi 4:: .own 1:: .int .u64 0::zi 0::zi d.start::zi d.at_::zi z3.number::zi z3.kind:: .bool z3.rep:: .bool z3.packed::zi z3.msg::zi z19::z11),vO 2]:S)= .tup [.agg z21,vO 2]∧z22=[.tree z15.d.plan.shapes,.lst .lev z15.d.stack,.lst .ev z15.out];let z10:=decide (x1.left<Aw z19);let z4:=z10=false→(.tup [.agg (.own 0::zi d.plan.root::zi d.plan.deep::zi d.plan.most::zi 5:: .own 1:: .int .u64 0::zi 0::zi d.start::zi d.at_::zi z3.number::zi z3.kind:: .bool z3.rep:: .bool z3.packed::zi z3.msg::zi z19::z11),vO 2]:S)= .tup [.agg z21,vO 2]∧z22=[.tree z15.d.plan.shapes,.lst .lev z15.d.stack,.lst .ev z15.out];z17∧z17∧z7∧z25∧z7∧z25∧(Fun Tryz.prog 190 [.agg [.seq .shp d.plan.shapes],vI x1.msg,vI z35] [] (.tup [.agg (Fd z3),vB z8.isSome]) [])∧(Fun Tryz.prog 190 [.agg [.seq .shp d.plan.shapes],vI x1.msg,vI z35] [] (.tup [.agg (Fd z3),vB z8.isSome]) [])∧(([.cells (Bi d),.cells z12,.cells (.own 3::zi d.plan.root::zi d.plan.deep::zi d.plan.most::zi d.mode:: .own 4:: .int .u64 0::zi 0::zi d.start::zi d.at_::zi d.field.number::zi d.field.kind:: .bool d.field.rep:: .bool d.field.packed::zi d.field.msg::zi d.wire::z11),.tree d.plan.shapes,.lst .lev d.stack,.cells (Fd z3)]:List Blk)=[.cells (Bi d),.cells z12,.cells (.own 3::zi d.plan.root::zi d.plan.deep::zi d.plan.most::zi d.mode:: .own 4:: .int .u64 0::zi 0::zi d.start::zi d.at_::zi d.field.number::zi d.field.kind:: .bool d.field.rep:: .bool d.field.packed::zi d.field.msg::zi d.wire::z11),.tree d.plan.shapes,.lst .lev d.stack,.cells (Fd z3)])∧(([(2,.v (vP 0)),(4,.v (vP 1)),(6,.v (vP 2)),(8,.v (vI z19)),(10,.v (vI z14)),(11,.v (vP 5)),(12,.v (vB z8.isSome))]:List (Nat×S))=[(2,.v (vP 0)),(4,.v (vP 1)),(6,.v (vP 2)),(8,.v (vI z19)),(10,.v (vI z14)),(11,.v (vP 5)),(12,.v (vB z8.isSome))])∧(Fun Tryz.prog 145 [vI z19] [] (.v (vB (C4 z19))) [])∧((!(C4 z19))=true→(Fun Tryz.prog 109 [.agg (.own 0::zi d.plan.root::zi d.plan.deep::zi d.plan.most::zi d.mode:: .own 1:: .int .u64 0::zi 0::zi d.start::zi d.at_::zi d.field.number::zi d.field.kind:: .bool d.field.rep:: .bool d.field.packed::zi d.field.msg::zi d.wire::z11),vI 3,vI d.start] [.tree d.plan.shapes,.lst .lev d.stack] (.tup [.agg (Ac 2 3 z23),vO 4]) z28)∧(.tup [.agg (Ac 0 1 z23),vO 2]:S)= .tup [.agg z21,vO 2]∧([.tree z23.plan.shapes,.lst .lev z23.stack,.lst .ev [Av 3 d.start]]:List Blk)=[.tree z15.d.plan.shapes,.lst .lev z15.d.stack,.lst .ev z15.out])∧((!(C4 z19))=false→(z8.isSome=true→(Fun Tryz.prog 151 [.agg (Fd z3),vI z19] [] (.v (vB (Cx z3 z19))) [])∧((!(Cx z3 z19))=true→(Fun Tryz.prog 109 [.agg (.own 0::zi d.plan.root::zi d.plan.deep::zi d.plan.most::zi d.mode:: .own 1:: .int .u64 0::zi 0::zi d.start::zi d.at_::zi d.field.number::zi d.field.kind:: .bool d.field.rep:: .bool d.field.packed::zi d.field.msg::zi d.wire::z11),vI 4,vI d.start] [.tree d.plan.shapes,.lst .lev d.stack] (.tup [.agg (Ac 2 3 z24),vO 4]) z29)∧(.tup [.agg (Ac 0 1 z24),vO 2]:S)= .tup [.agg z21,vO 2]∧([.tree z24.plan.shapes,.lst .lev z24.stack,.lst .ev [Av 4 d.start]]:List Blk)=[.tree z15.d.plan.shapes,.lst .lev z15.d.stack,.lst .ev z15.out])∧((!(Cx z3 z19))=false→(z30=true→z17∧z7∧z25∧(z9=true→(Fun Tryz.prog 109 [.agg (.own 0::zi d.plan.root::zi d.plan.deep::zi d.plan.most::zi 3:: .own 1:: .int .u64 0::zi 0::zi d.start::zi d.at_::zi z3.number::zi z3.kind:: .bool z3.rep:: .bool z3.packed::zi z3.msg::zi z19::z11),vI 9,vI d.at_] [.tree d.plan.shapes,.lst .lev d.stack] (.tup [.agg (Ac 2 3 (Au (⟨d.plan,3,d.stack,z16,d.start,d.at_,z3,Ag u,d.want,d.utf,d.end_⟩:Dcd) 9 d.at_)),vO 4]) [.dead,.dead,.tree (Au (⟨d.plan,3,d.stack,z16,d.start,d.at_,z3,Ag u,d.want,d.utf,d.end_⟩:Dcd) 9 d.at_).plan.shapes,.lst .lev (Au (⟨d.plan,3,d.stack,z16,d.start,d.at_,z3,Ag u,d.want,d.utf,d.end_⟩:Dcd) 9 d.at_).stack,.lst .ev [Av 9 d.at_]])∧(.tup [.agg (Ac 0 1 (Au (⟨d.plan,3,d.stack,z16,d.start,d.at_,z3,Ag u,d.want,d.utf,d.end_⟩:Dcd) 9 d.at_)),vO 2]:S)= .tup [.agg z21,vO 2]∧([.tree (Au (⟨d.plan,3,d.stack,z16,d.start,d.at_,z3,Ag u,d.want,d.utf,d.end_⟩:Dcd) 9 d.at_).plan.shapes,.lst .lev (Au (⟨d.plan,3,d.stack,z16,d.start,d.at_,z3,Ag u,d.want,d.utf,d.end_⟩:Dcd) 9 d.at_).stack,.lst .ev [Av 9 d.at_]]:List Blk)=[.tree z15.d.plan.shapes,.lst .lev z15.d.stack,.lst .ev z15.out])∧z5)∧(z30=false→(z31=true→z17∧z7∧z25∧(z9=true→(Fun Tryz.prog 109 [.agg (.own 0::zi d.plan.root::zi d.plan.deep::zi d.plan.most::zi 4:: .own 1:: .int .u64 0::zi 0::zi d.start::zi d.at_::zi z3.number::zi z3.kind:: .bool z3.rep:: .bool z3.packed::zi z3.msg::zi z19::z11),vI 9,vI d.at_] [.tree d.plan.shapes,.lst .lev d.stack] (.tup [.agg (Ac 2 3 (Au (⟨d.plan,4,d.stack,z16,d.start,d.at_,z3,Ag u,d.want,d.utf,d.end_⟩:Dcd) 9 d.at_)),vO 4]) [.dead,.dead,.tree (Au (⟨d.plan,4,d.stack,z16,d.start,d.at_,z3,Ag u,d.want,d.utf,d.end_⟩:Dcd) 9 d.at_).plan.shapes,.lst .lev (Au (⟨d.plan,4,d.stack,z16,d.start,d.at_,z3,Ag u,d.want,d.utf,d.end_⟩:Dcd) 9 d.at_).stack,.lst .ev [Av 9 d.at_]])∧(.tup [.agg (Ac 0 1 (Au (⟨d.plan,4,d.stack,z16,d.start,d.at_,z3,Ag u,d.want,d.utf,d.end_⟩:Dcd) 9 d.at_)),vO 2]:S)= .tup [.agg z21,vO 2]∧([.tree (Au (⟨d.plan,4,d.stack,z16,d.start,d.at_,z3,Ag u,d.want,d.utf,d.end_⟩:Dcd) 9 d.at_).plan.shapes,.lst .lev (Au (⟨d.plan,4,d.stack,z16,d.start,d.at_,z3,Ag u,d.want,d.utf,d.end_⟩:Dcd) 9 d.at_).stack,.lst .ev [Av 9 d.at_]]:List Blk)=[.tree z15.d.plan.shapes,.lst .lev z15.d.stack,.lst .ev z15.out])∧z6)∧(z31=false→(Fun Tryz.prog 150 [vI z19] [] (.v z32) [])∧z17∧z7∧z25∧(z10=true→(Fun Tryz.prog 109 [.agg (.own 0::zi d.plan.root::zi d.plan.deep::zi d.plan.most::zi 5:: .own 1:: .int .u64 0::zi 0::zi d.start::zi d.at_::zi z3.number::zi z3.kind:: .bool z3.rep:: .bool z3.packed::zi z3.msg::zi z19::z11),vI 9,vI d.at_] [.tree d.plan.shapes,.lst .lev d.stack] (.tup [.agg (Ac 2 3 (Au (⟨d.plan,5,d.stack,z16,d.start,d.at_,z3,Ag u,d.want,d.utf,d.end_⟩:Dcd) 9 d.at_)),vO 4]) [.dead,.dead,.tree (Au (⟨d.plan,5,d.stack,z16,d.start,d.at_,z3,Ag u,d.want,d.utf,d.end_⟩:Dcd) 9 d.at_).plan.shapes,.lst .lev (Au (⟨d.plan,5,d.stack,z16,d.start,d.at_,z3,Ag u,d.want,d.utf,d.end_⟩:Dcd) 9 d.at_).stack,.lst .ev [Av 9 d.at_]])∧(.tup [.agg (Ac 0 1 (Au (⟨d.plan,5,d.stack,z16,d.start,d.at_,z3,Ag u,d.want,d.utf,d.end_⟩:Dcd) 9 d.at_)),vO 2]:S)= .tup [.agg z21,vO 2]∧([.tree (Au (⟨d.plan,5,d.stack,z16,d.start,d.at_,z3,Ag u,d.want,d.utf,d.end_⟩:Dcd) 9 d.at_).plan.shapes,.lst .lev (Au (⟨d.plan,5,d.stack,z16,d.start,d.at_,z3,Ag u,d.want,d.utf,d.end_⟩:Dcd) 9 d.at_).stack,.lst .ev [Av 9 d.at_]]:List Blk)=[.tree z15.d.plan.shapes,.lst .lev z15.d.stack,.lst .ev z15.out])∧z4))))∧(z8.isSome=false→(z30=true→z17∧z7∧z25∧(z9=true→(Fun Tryz.prog 109 [.agg (.own 0::zi d.plan.root::zi d.plan.deep::zi d.plan.most::zi 3:: .own 1:: .int .u64 0::zi 0::zi d.start::zi d.at_::zi z3.number::zi z3.kind:: .bool z3.rep:: .bool z3.packed::zi z3.msg::zi z19::z11),vI 9,vI d.at_] [.tree d.plan.shapes,.lst .lev d.stack] (.tup [.agg (Ac 2 3 (Au (⟨d.plan,3,d.stack,z16,d.start,d.at_,z3,Ag u,d.want,d.utf,d.end_⟩:Dcd) 9 d.at_)),vO 4]) [.dead,.dead,.tree (Au (⟨d.plan,3,d.stack,z16,d.start,d.at_,z3,Ag u,d.want,d.utf,d.end_⟩:Dcd) 9 d.at_).plan.shapes,.lst .lev (Au (⟨d.plan,3,d.stack,z16,d.start,d.at_,z3,Ag u,d.want,d.utf,d.end_⟩:Dcd) 9 d.at_).stack,.lst .ev [Av 9 d.at_]])∧(.tup [.agg (Ac 0 1 (Au (⟨d.plan,3,d.stack,z16,d.start,d.at_,z3,Ag u,d.want,d.utf,d.end_⟩:Dcd) 9 d.at_)),vO 2]:S)= .tup [.agg z21,vO 2]∧([.tree (Au (⟨d.plan,3,d.stack,z16,d.start,d.at_,z3,Ag u,d.want,d.utf,d.end_⟩:Dcd) 9 d.at_).plan.shapes,.lst .lev (Au (⟨d.plan,3,d.stack,z16,d.start,d.at_,z3,Ag u,d.want,d.utf,d.end_⟩:Dcd) 9 d.at_).stack,.lst .ev [Av 9 d.at_]]:List Blk)=[.tree z15.d.plan.shapes,.lst .lev z15.d.stack,.lst .ev z15.out])∧z5)∧(z30=false→(z31=true→z17∧z7∧z25∧(z9=true→(Fun Tryz.prog 109 [.agg (.own 0::zi d.plan.root::zi d.plan.deep::zi d.plan.most::zi 4:: .own 1:: .int .u64 0::zi 0::zi d.start::zi d.at_::zi z3.number::zi z3.kind:: .bool z3.rep:: .bool z3.packed::zi z3.msg::zi z19::z11),vI 9,vI d.at_] [.tree d.plan.shapes,.lst .lev d.stack] (.tup [.agg (Ac 2 3 (Au (⟨d.plan,4,d.stack,z16,d.start,d.at_,z3,Ag u,d.want,d.utf,d.end_⟩:Dcd) 9 d.at_)),vO 4]) [.dead,.dead,.tree (Au (⟨d.plan,4,d.stack,z16,d.start,d.at_,z3,Ag u,d.want,d.utf,d.end_⟩:Dcd) 9 d.at_).plan.shapes,.lst .lev (Au (⟨d.plan,4,d.stack,z16,d.start,d.at_,z3,Ag u,d.want,d.utf,d.end_⟩:Dcd) 9 d.at_).stack,.lst .ev [Av 9 d.at_]])∧(.tup [.agg (Ac 0 1 (Au (⟨d.plan,4,d.stack,z16,d.start,d.at_,z3,Ag u,d.want,d.utf,d.end_⟩:Dcd) 9 d.at_)),vO 2]:S)= .tup [.agg z21,vO 2]∧([.tree (Au (⟨d.plan,4,d.stack,z16,d.start,d.at_,z3,Ag u,d.want,d.utf,d.end_⟩:Dcd) 9 d.at_).plan.shapes,.lst .lev (Au (⟨d.plan,4,d.stack,z16,d.start,d.at_,z3,Ag u,d.want,d.utf,d.end_⟩:Dcd) 9 d.at_).stack,.lst .ev [Av 9 d.at_]]:List Blk)=[.tree z15.d.plan.shapes,.lst .lev z15.d.stack,.lst .ev z15.out])∧z6)∧(z31=false→(Fun Tryz.prog 150 [vI z19] [] (.v z32) [])∧z17∧z7∧z25∧(z10=true→(Fun Tryz.prog 109 [.agg (.own 0::zi d.plan.root::zi d.plan.deep::zi d.plan.most::zi 5:: .own 1:: .int .u64 0::zi 0::zi d.start::zi d.at_::zi z3.number::zi z3.kind:: .bool z3.rep:: .bool z3.packed::zi z3.msg::zi z19::z11),vI 9,vI d.at_] [.tree d.plan.shapes,.lst .lev d.stack] (.tup [.agg (Ac 2 3 (Au (⟨d.plan,5,d.stack,z16,d.start,d.at_,z3,Ag u,d.want,d.utf,d.end_⟩:Dcd) 9 d.at_)),vO 4]) [.dead,.dead,.tree (Au (⟨d.plan,5,d.stack,z16,d.start,d.at_,z3,Ag u,d.want,d.utf,d.end_⟩:Dcd) 9 d.at_).plan.shapes,.lst .lev (Au (⟨d.plan,5,d.stack,z16,d.start,d.at_,z3,Ag u,d.want,d.utf,d.end_⟩:Dcd) 9 d.at_).stack,.lst .ev [Av 9 d.at_]])∧(.tup [.agg (Ac 0 1 (Au (⟨d.plan,5,d.stack,z16,d.start,d.at_,z3,Ag u,d.want,d.utf,d.end_⟩:Dcd) 9 d.at_)),vO 2]:S)= .tup [.agg z21,vO 2]∧([.tree (Au (⟨d.plan,5,d.stack,z16,d.start,d.at_,z3,Ag u,d.want,d.utf,d.end_⟩:Dcd) 9 d.at_).plan.shapes,.lst .lev (Au (⟨d.plan,5,d.stack,z16,d.start,d.at_,z3,Ag u,d.want,d.utf,d.end_⟩:Dcd) 9 d.at_).stack,.lst .ev [Av 9 d.at_]]:List Blk)=[.tree z15.d.plan.shapes,.lst .lev z15.d.stack,.lst .ev z15.out])∧z4))))))))) (by kernel_rfl) ?_
 refine⟨(Fr d (by omega) (Dp hpt.2.1) (by omega)),(Qo d (by omega) (by omega)),(by simp[hp1]),(Ahp _ (by omega)),fun h1=>have q1:=Am h1;?_,fun h1=>have q1:=Aj h1;?_⟩
 refine⟨(Cn (⟨d.plan,d.mode,d.stack,(⟨0,0⟩:Scn),d.start,d.at_,d.field,d.wire,d.want,d.utf,d.end_⟩:Dcd) _ _),?_⟩
 refine have hm1:(D5 ⟨d,[]⟩ u).d=(Au (⟨d.plan,d.mode,d.stack,(⟨0,0⟩:Scn),d.start,d.at_,d.field,d.wire,d.want,d.utf,d.end_⟩:Dcd) 2 d.start):=?_;?_
 rotate_left
 refine have hm2:(D5 ⟨d,[]⟩ u).out=[Av 2 d.start]:=?_;?_
 rotate_left
 exact⟨(by rw[hm1]<;>rfl),(by rw[hm1,hm2]<;>rfl)⟩
 refine dsp (fun h2 p2=>?_) fun h2 p2=>?_
 refine⟨(Cn (⟨d.plan,d.mode,d.stack,(⟨0,0⟩:Scn),d.start,d.at_,d.field,d.wire,d.want,d.utf,d.end_⟩:Dcd) _ _),?_⟩
 refine have hm1:(D5 ⟨d,[]⟩ u).d=(Au (⟨d.plan,d.mode,d.stack,(⟨0,0⟩:Scn),d.start,d.at_,d.field,d.wire,d.want,d.utf,d.end_⟩:Dcd) 2 d.start):=?_;?_
 rotate_left
 refine have hm2:(D5 ⟨d,[]⟩ u).out=[Av 2 d.start]:=?_;?_
 rotate_left
 exact⟨(by rw[hm1]<;>rfl),(by rw[hm1,hm2]<;>rfl)⟩
 refine⟨(Bo (l:=d.stack) (i:=Int.toNat ((d.stack.length:Int)-1)) (by omega)),fun x1 hx1=>?_⟩
 have hll:=Jb (d:=d) (by rw[←hx1];congr 1;omega)
 have hix:Int.toNat ((d.stack.length:Int)-1)=d.stack.length-1:=by omega
 refine⟨(Ah (by omega) (by omega)),(Ah (by omega) (by omega)),hx1,(by omega),hx1,(by omega),(Sx d.plan.shapes _ _ (by omega) (Dr hpt.2.1)),(Sx d.plan.shapes _ _ (by omega) (Dr hpt.2.1)),rfl,rfl,(Aaa _),fun h3=>have q3:=Am h3;?_,fun h3=>have q3:=Aj h3;?_⟩
 refine⟨(Cn (⟨d.plan,d.mode,d.stack,(⟨0,0⟩:Scn),d.start,d.at_,d.field,d.wire,d.want,d.utf,d.end_⟩:Dcd) _ _),?_⟩
 refine have hm1:(D5 ⟨d,[]⟩ u).d=(Au (⟨d.plan,d.mode,d.stack,(⟨0,0⟩:Scn),d.start,d.at_,d.field,d.wire,d.want,d.utf,d.end_⟩:Dcd) 3 d.start):=?_;?_
 rotate_left
 refine have hm2:(D5 ⟨d,[]⟩ u).out=[Av 3 d.start]:=?_;?_
 rotate_left
 exact⟨(by rw[hm1]<;>rfl),(by rw[hm1,hm2]<;>rfl)⟩
 refine⟨fun h4=>?_,fun h4=>?_⟩
 refine⟨(Xd ((fieldAt d.plan.shapes x1.msg (Bp u)).getD fld0) _ (by omega)),fun h5=>have q5:=Am h5;?_,fun h5=>have q5:=Aj h5;?_⟩
 refine⟨(Cn (⟨d.plan,d.mode,d.stack,(⟨0,0⟩:Scn),d.start,d.at_,d.field,d.wire,d.want,d.utf,d.end_⟩:Dcd) _ _),?_⟩
 refine have hm1:(D5 ⟨d,[]⟩ u).d=(Au (⟨d.plan,d.mode,d.stack,(⟨0,0⟩:Scn),d.start,d.at_,d.field,d.wire,d.want,d.utf,d.end_⟩:Dcd) 4 d.start):=?_;?_
 rotate_left
 refine have hm2:(D5 ⟨d,[]⟩ u).out=[Av 4 d.start]:=?_;?_
 rotate_left
 exact⟨(by rw[hm1]<;>rfl),(by rw[hm1,hm2]<;>rfl)⟩
 refine dsp (fun h6 p6=>?_) fun h6 p6=>?_
 refine⟨(Ah (by omega) (by omega)),hx1,(by omega),dsp (fun h7 p7=>?_) fun h7 p7=>?_⟩
 refine⟨(Cn (⟨d.plan,3,d.stack,(⟨0,0⟩:Scn),d.start,d.at_,((fieldAt d.plan.shapes x1.msg (Bp u)).getD fld0),Ag u,d.want,d.utf,d.end_⟩:Dcd) _ _),?_⟩
 refine have hm1:(D5 ⟨d,[]⟩ u).d=(Au (⟨d.plan,3,d.stack,(⟨0,0⟩:Scn),d.start,d.at_,((fieldAt d.plan.shapes x1.msg (Bp u)).getD fld0),Ag u,d.want,d.utf,d.end_⟩:Dcd) 9 d.at_):=?_;?_
 rotate_left
 refine have hm2:(D5 ⟨d,[]⟩ u).out=[Av 9 d.at_]:=?_;?_
 rotate_left
 exact⟨(by rw[hm1]<;>rfl),(by rw[hm1,hm2]<;>rfl)⟩
 refine have hm1:(D5 ⟨d,[]⟩ u).d=(⟨d.plan,3,d.stack,(⟨0,0⟩:Scn),d.start,d.at_,((fieldAt d.plan.shapes x1.msg (Bp u)).getD fld0),Ag u,d.want,d.utf,d.end_⟩:Dcd):=?_;?_
 rotate_left
 refine have hm2:(D5 ⟨d,[]⟩ u).out=([]:List Ev):=?_;?_
 rotate_left
 exact⟨(by rw[hm1]<;>rfl),(by rw[hm1,hm2]<;>rfl)⟩
 refine dsp (fun h7 p7=>?_) fun h7 p7=>?_
 refine⟨(Ah (by omega) (by omega)),hx1,(by omega),dsp (fun h8 p8=>?_) fun h8 p8=>?_⟩
 refine⟨(Cn (⟨d.plan,4,d.stack,(⟨0,0⟩:Scn),d.start,d.at_,((fieldAt d.plan.shapes x1.msg (Bp u)).getD fld0),Ag u,d.want,d.utf,d.end_⟩:Dcd) _ _),?_⟩
 refine have hm1:(D5 ⟨d,[]⟩ u).d=(Au (⟨d.plan,4,d.stack,(⟨0,0⟩:Scn),d.start,d.at_,((fieldAt d.plan.shapes x1.msg (Bp u)).getD fld0),Ag u,d.want,d.utf,d.end_⟩:Dcd) 9 d.at_):=?_;?_
 rotate_left
 refine have hm2:(D5 ⟨d,[]⟩ u).out=[Av 9 d.at_]:=?_;?_
 rotate_left
 exact⟨(by rw[hm1]<;>rfl),(by rw[hm1,hm2]<;>rfl)⟩
 refine have hm1:(D5 ⟨d,[]⟩ u).d=(⟨d.plan,4,d.stack,(⟨0,0⟩:Scn),d.start,d.at_,((fieldAt d.plan.shapes x1.msg (Bp u)).getD fld0),Ag u,d.want,d.utf,d.end_⟩:Dcd):=?_;?_
 rotate_left
 refine have hm2:(D5 ⟨d,[]⟩ u).out=([]:List Ev):=?_;?_
 rotate_left
 exact⟨(by rw[hm1]<;>rfl),(by rw[hm1,hm2]<;>rfl)⟩
 refine⟨(Gd _),(Ah (by omega) (by omega)),hx1,(by omega),dsp (fun h8 p8=>?_) fun h8 p8=>?_⟩
 refine⟨(Cn (⟨d.plan,5,d.stack,(⟨0,0⟩:Scn),d.start,d.at_,((fieldAt d.plan.shapes x1.msg (Bp u)).getD fld0),Ag u,d.want,d.utf,d.end_⟩:Dcd) _ _),?_⟩
 refine have hm1:(D5 ⟨d,[]⟩ u).d=(Au (⟨d.plan,5,d.stack,(⟨0,0⟩:Scn),d.start,d.at_,((fieldAt d.plan.shapes x1.msg (Bp u)).getD fld0),Ag u,d.want,d.utf,d.end_⟩:Dcd) 9 d.at_):=?_;?_
 rotate_left
 refine have hm2:(D5 ⟨d,[]⟩ u).out=[Av 9 d.at_]:=?_;?_
 rotate_left
 exact⟨(by rw[hm1]<;>rfl),(by rw[hm1,hm2]<;>rfl)⟩
 refine have hm1:(D5 ⟨d,[]⟩ u).d=(⟨d.plan,5,d.stack,(⟨0,0⟩:Scn),d.start,d.at_,((fieldAt d.plan.shapes x1.msg (Bp u)).getD fld0),Ag u,d.want,d.utf,d.end_⟩:Dcd):=?_;?_
 rotate_left
 refine have hm2:(D5 ⟨d,[]⟩ u).out=([]:List Ev):=?_;?_
 rotate_left
 exact⟨(by rw[hm1]<;>rfl),(by rw[hm1,hm2]<;>rfl)⟩
 refine dsp (fun h5 p5=>?_) fun h5 p5=>?_
 refine⟨(Ah (by omega) (by omega)),hx1,(by omega),dsp (fun h6 p6=>?_) fun h6 p6=>?_⟩
 refine⟨(Cn (⟨d.plan,3,d.stack,(⟨0,0⟩:Scn),d.start,d.at_,((fieldAt d.plan.shapes x1.msg (Bp u)).getD fld0),Ag u,d.want,d.utf,d.end_⟩:Dcd) _ _),?_⟩
 refine have hm1:(D5 ⟨d,[]⟩ u).d=(Au (⟨d.plan,3,d.stack,(⟨0,0⟩:Scn),d.start,d.at_,((fieldAt d.plan.shapes x1.msg (Bp u)).getD fld0),Ag u,d.want,d.utf,d.end_⟩:Dcd) 9 d.at_):=?_;?_
 rotate_left
 refine have hm2:(D5 ⟨d,[]⟩ u).out=[Av 9 d.at_]:=?_;?_
 rotate_left
 exact⟨(by rw[hm1]<;>rfl),(by rw[hm1,hm2]<;>rfl)⟩
 refine have hm1:(D5 ⟨d,[]⟩ u).d=(⟨d.plan,3,d.stack,(⟨0,0⟩:Scn),d.start,d.at_,((fieldAt d.plan.shapes x1.msg (Bp u)).getD fld0),Ag u,d.want,d.utf,d.end_⟩:Dcd):=?_;?_
 rotate_left
 refine have hm2:(D5 ⟨d,[]⟩ u).out=([]:List Ev):=?_;?_
 rotate_left
 exact⟨(by rw[hm1]<;>rfl),(by rw[hm1,hm2]<;>rfl)⟩
 refine dsp (fun h6 p6=>?_) fun h6 p6=>?_
 refine⟨(Ah (by omega) (by omega)),hx1,(by omega),dsp (fun h7 p7=>?_) fun h7 p7=>?_⟩
 refine⟨(Cn (⟨d.plan,4,d.stack,(⟨0,0⟩:Scn),d.start,d.at_,((fieldAt d.plan.shapes x1.msg (Bp u)).getD fld0),Ag u,d.want,d.utf,d.end_⟩:Dcd) _ _),?_⟩
 refine have hm1:(D5 ⟨d,[]⟩ u).d=(Au (⟨d.plan,4,d.stack,(⟨0,0⟩:Scn),d.start,d.at_,((fieldAt d.plan.shapes x1.msg (Bp u)).getD fld0),Ag u,d.want,d.utf,d.end_⟩:Dcd) 9 d.at_):=?_;?_
 rotate_left
 refine have hm2:(D5 ⟨d,[]⟩ u).out=[Av 9 d.at_]:=?_;?_
 rotate_left
 exact⟨(by rw[hm1]<;>rfl),(by rw[hm1,hm2]<;>rfl)⟩
 refine have hm1:(D5 ⟨d,[]⟩ u).d=(⟨d.plan,4,d.stack,(⟨0,0⟩:Scn),d.start,d.at_,((fieldAt d.plan.shapes x1.msg (Bp u)).getD fld0),Ag u,d.want,d.utf,d.end_⟩:Dcd):=?_;?_
 rotate_left
 refine have hm2:(D5 ⟨d,[]⟩ u).out=([]:List Ev):=?_;?_
 rotate_left
 exact⟨(by rw[hm1]<;>rfl),(by rw[hm1,hm2]<;>rfl)⟩
 refine⟨(Gd _),(Ah (by omega) (by omega)),hx1,(by omega),dsp (fun h7 p7=>?_) fun h7 p7=>?_⟩
 refine⟨(Cn (⟨d.plan,5,d.stack,(⟨0,0⟩:Scn),d.start,d.at_,((fieldAt d.plan.shapes x1.msg (Bp u)).getD fld0),Ag u,d.want,d.utf,d.end_⟩:Dcd) _ _),?_⟩
 refine have hm1:(D5 ⟨d,[]⟩ u).d=(Au (⟨d.plan,5,d.stack,(⟨0,0⟩:Scn),d.start,d.at_,((fieldAt d.plan.shapes x1.msg (Bp u)).getD fld0),Ag u,d.want,d.utf,d.end_⟩:Dcd) 9 d.at_):=?_;?_
 rotate_left
 refine have hm2:(D5 ⟨d,[]⟩ u).out=[Av 9 d.at_]:=?_;?_
 rotate_left
 exact⟨(by rw[hm1]<;>rfl),(by rw[hm1,hm2]<;>rfl)⟩
 refine have hm1:(D5 ⟨d,[]⟩ u).d=(⟨d.plan,5,d.stack,(⟨0,0⟩:Scn),d.start,d.at_,((fieldAt d.plan.shapes x1.msg (Bp u)).getD fld0),Ag u,d.want,d.utf,d.end_⟩:Dcd):=?_;?_
 rotate_left
 refine have hm2:(D5 ⟨d,[]⟩ u).out=([]:List Ev):=?_;?_
 rotate_left
 exact⟨(by rw[hm1]<;>rfl),(by rw[hm1,hm2]<;>rfl)⟩
 all_goals first|((unfold D5;simp only[hll.1,hll.2];(repeat' split)<;>first|(simp_all[Aw,As,Au,scn0];done)|(exfalso;simp_all[Aw];omega)|grind[Aw,As,Au,scn0]))|(first|(simp_all[D5,Aw,As,Au,scn0,utf0,B9];done)|(grind[D5,Aw,As,Au,scn0,utf0,B9]))
set_option maxHeartbeats 1600000 in
theorem Ag6 (d:Dcd) (u:Int) (hp1:A5 d=true) (hp2:(0:Int)≤u∧u≤18446744073709551615) (hp3:((d).field=fld0∨H4 (d).plan.shapes (d).field=true)):Fun Tryz.prog 163 [.agg (Bi d),.c (.int .u64 u)] [] (.tup [.agg (Ac 0 1 (Cb ⟨d,[]⟩ u).d),vO 2]) [.tree (Cb ⟨d,[]⟩ u).d.plan.shapes,.lst .lev (Cb ⟨d,[]⟩ u).d.stack,.lst .ev (Cb ⟨d,[]⟩ u).out]:=by
 have hN:bigN=274877906944:=rfl
 have hlv:=Bs hp1
 have hpt:=By hlv.1
 have htb:=Gm hp1
 have hwb:=Gc (Cq d.field.kind)
 refine Af Tryz.func163 (by kernel_rfl) (by kernel_rfl) (w:=let zi:Int→C:= .int .i64;let z7:List C:=[zi d.end_.kind,zi d.end_.field,.int .u64 d.end_.bits,zi d.end_.len,.str d.end_.text,zi d.end_.code,zi d.end_.at_];let z6:List C:= .own 1:: .int .u64 0::zi 0::zi d.start::zi d.at_::zi d.field.number::zi d.field.kind:: .bool d.field.rep:: .bool d.field.packed::zi d.field.msg::zi d.wire::zi u::zi d.utf.want::zi d.utf.low::zi d.utf.high::z7;let z8:List C:=[zi d.field.number,.int .u64 0,zi u,.str [],zi 0,zi 0];let z14:=(d.stack.length:Int);let z15:=Cb ⟨d,[]⟩ u;let z20:=decide (d.field.number=0)&&(decide (d.field.kind=0)&&(decide (d.field.rep=false)&&(decide (d.field.packed=false)&&decide (d.field.msg=0))));let z21:=Ac 0 1 z15.d;let z24:=Cq d.field.kind;let z26:=(⟨6,d.field.number,0,u,[],0,0⟩:Ev);let z30:=(0:Int)≤z14-1;let z32:=(⟨0,0⟩:Scn);let z9:=(⟨d.plan,8,d.stack,z32,d.start,d.at_,d.field,d.wire,u,d.utf,d.end_⟩:Dcd);let z10:=Ad ⟨(⟨d.plan,6,d.stack,z32,d.start,d.at_,d.field,d.wire,u,utf0,d.end_⟩:Dcd),[]⟩;let z11:=Au (⟨d.plan,d.mode,d.stack,z32,d.start,d.at_,d.field,d.wire,d.want,d.utf,d.end_⟩:Dcd) 8 d.start;let z12:=Ad ⟨(⟨d.plan,7,d.stack,z32,d.start,d.at_,d.field,d.wire,u,d.utf,d.end_⟩:Dcd),[]⟩;let z13:=Au (⟨d.plan,d.mode,d.stack,z32,d.start,d.at_,d.field,d.wire,u,d.utf,d.end_⟩:Dcd) 6 d.start;let z18:List Blk:=[.dead,.dead,.tree z11.plan.shapes,.lst .lev z11.stack,.lst .ev [Av 8 d.start]];let z19:=Ad ⟨z9,[]⟩;let z17:List Blk:=[.dead,.dead,.tree z19.d.plan.shapes,.lst .lev z19.d.stack,.lst .ev z19.out];let z23:=Au z9 9 d.at_;let z25:=([.tree z11.plan.shapes,.lst .lev z11.stack,.lst .ev [Av 8 d.start]]:List Blk);let z27:List Blk:=[.dead,.dead,.tree z13.plan.shapes,.lst .lev z13.stack,.lst .ev [Av 6 d.start]];let z28:=([.tree z19.d.plan.shapes,.lst .lev z19.d.stack,.lst .ev z19.out]:List Blk);let z29:List Blk:=[.dead,.dead,.tree z23.plan.shapes,.lst .lev z23.stack,.lst .ev [Av 9 d.at_]];let z31:List Blk:=[.dead,.dead,.tree z12.d.plan.shapes,.lst .lev z12.d.stack,.lst .ev z12.out];let z33:=(⟨d.field.msg,u⟩:Lev);let z34:=(⟨3,d.field.number,0,u,[],0,0⟩:Ev)::z10.out;let z16:List Blk:=[.dead,.dead,.tree z10.d.plan.shapes,.lst .lev z10.d.stack,.lst .ev z34];let z22:=([.tree z10.d.plan.shapes,.lst .lev z10.d.stack,.lst .ev z34]:List Blk);let z35:=Ac 2 3 z10.d;let z36:=Ac 2 3 z19.d;let z37:=Ac 2 3 z11;let z38:=(.tup [.agg (Ac 0 1 z10.d),vO 2]:S);let z39:=(.tup [.agg (Ac 0 1 z19.d),vO 2]:S);let z40:=(.tup [.agg (Ac 0 1 z11),vO 2]:S);(.seg [.call [] (.v (.agg (Ac 0 1 d))) [.tree d.plan.shapes,.lst .lev d.stack],.call [] (.v (vB (A5 d))) [],.br false,.as 22 (.v (vI (z14-1)))] (.br (.seg [.call [2,3] (.tup [.agg z37,vO 4]) z18] (.leaf () [5,6,7])) (.intro (fun (x1:Lev)=>d.stack[Int.toNat (z14-1)]? =some x1) fun x1=>let z1:=Ad ⟨(⟨d.plan,2,(List.set d.stack (Int.toNat (z14-1)) (⟨x1.msg,x1.left-u⟩:Lev))++[z33],z32,d.start,d.at_,d.field,d.wire,0,d.utf,d.end_⟩:Dcd),[]⟩;.seg [.el .lev x1,.as 33 (.v (.c (.int .u64 x1.left)))] (.br (.seg [.call [2,3] (.tup [.agg z37,vO 4]) z18] (.leaf () [5,6,7])) (.seg [.as 45 (.v (vI u))] (.br (.seg [.call [2,3] (.tup [.agg (Ac 2 3 z12.d),vO 4]) z31] (.leaf () [6,7,8])) (.br (.br (.seg [.call [2,3] (.tup [.agg (Ac 2 3 z13),vO 4]) z27] (.leaf () [6,7,8])) (.seg [.ord (os 14 [13]) [],.el .lev x1,.as 84 (.v (vI (x1.left-u))),.el .lev x1,.ty .lev,.ty .lev,.call [2,7] (.tup [.agg (Ac 2 3 z1.d),vO 4]) [.dead,.dead,.tree z1.d.plan.shapes,.lst .lev z1.d.stack,.lst .ev (z26::z1.out)]] (.leaf () [8,9,10]))) (.br (.seg [.call [2,3] (.tup [.agg z35,vO 4]) z16] (.leaf () [6,7,8])) (.br (.seg [.call [2,3] (.tup [.agg z35,vO 4]) z16] (.leaf () [6,7,8])) (.br (.seg [.call [] (.v (vI z24)) [],.call [] (.v (vI (Aw z24))) []] (.br (.seg [.call [2,3] (.tup [.agg (Ac 2 3 z23),vO 4]) z29] (.leaf () [6,7,8])) (.seg [.call [2,3] (.tup [.agg z36,vO 4]) z17] (.leaf () [6,7,8])))) (.seg [.call [2,3] (.tup [.agg z36,vO 4]) z17] (.leaf () [6,7,8]))))))))))),(Fun Tryz.prog 63 [.agg (Bi d)] [] (.v (.agg (Ac 0 1 d))) [.tree d.plan.shapes,.lst .lev d.stack])∧(Fun Tryz.prog 194 [.agg (Bi d)] [] (.v (vB (A5 d))) [])∧((!(A5 d))=false)∧((.v (vI (IntKind.i64.wrap (z14-1))):S)= .v (vI (z14-1)))∧((decide (z14-1<0))=true→(Fun Tryz.prog 109 [.agg (.own 0::zi d.plan.root::zi d.plan.deep::zi d.plan.most::zi d.mode:: .own 1:: .int .u64 0::zi 0::zi d.start::zi d.at_::zi d.field.number::zi d.field.kind:: .bool d.field.rep:: .bool d.field.packed::zi d.field.msg::zi d.wire::zi d.want::zi d.utf.want::zi d.utf.low::zi d.utf.high::z7),vI 8,vI d.start] [.tree d.plan.shapes,.lst .lev d.stack] (.tup [.agg z37,vO 4]) z18)∧z40= .tup [.agg z21,vO 2]∧z25=[.tree z15.d.plan.shapes,.lst .lev z15.d.stack,.lst .ev z15.out])∧((decide (z14-1<0))=false→(∃(x1:Lev),d.stack[Int.toNat (z14-1)]? =some x1)∧∀(x1:Lev),(d.stack[Int.toNat (z14-1)]? =some x1)→(let z3:=d.stack[Int.toNat (z14-1)]? =some x1;let z4:=List.set d.stack (Int.toNat (z14-1)) (⟨x1.msg,x1.left-u⟩:Lev);let z2:=Ad ⟨(⟨d.plan,2,z4++[z33],z32,d.start,d.at_,d.field,d.wire,0,d.utf,d.end_⟩:Dcd),[]⟩;let z5:=(.v (vI (IntKind.i64.wrap (x1.left-u))):S)= .v (vI (x1.left-u));z3∧z30∧((.v (.c (.int .u64 (IntKind.u64.wrap (x1.left)))):S)= .v (.c (.int .u64 x1.left)))∧((decide (x1.left<u))=true→(Fun Tryz.prog 109 [.agg (.own 0::zi d.plan.root::zi d.plan.deep::zi d.plan.most::zi d.mode:: .own 1:: .int .u64 0::zi 0::zi d.start::zi d.at_::zi d.field.number::zi d.field.kind:: .bool d.field.rep:: .bool d.field.packed::zi d.field.msg::zi d.wire::zi d.want::zi d.utf.want::zi d.utf.low::zi d.utf.high::z7),vI 8,vI d.start] [.tree d.plan.shapes,.lst .lev d.stack] (.tup [.agg z37,vO 4]) z18)∧z40= .tup [.agg z21,vO 2]∧z25=[.tree z15.d.plan.shapes,.lst .lev z15.d.stack,.lst .ev z15.out])∧((decide (x1.left<u))=false→((.v (vI (IntKind.i64.wrap (u))):S)= .v (vI u))∧(z20=true→(Fun Tryz.prog 107 [.agg (.own 0::zi d.plan.root::zi d.plan.deep::zi d.plan.most::zi 7::z6)] [.tree d.plan.shapes,.lst .lev d.stack] (.tup [.agg (Ac 2 3 z12.d),vO 4]) z31)∧(.tup [.agg (Ac 0 1 z12.d),vO 2]:S)= .tup [.agg z21,vO 2]∧([.tree z12.d.plan.shapes,.lst .lev z12.d.stack,.lst .ev z12.out]:List Blk)=[.tree z15.d.plan.shapes,.lst .lev z15.d.stack,.lst .ev z15.out])∧(z20=false→((decide (d.field.kind=8))=true→((decide (d.plan.deep≤z14))=true→(Fun Tryz.prog 109 [.agg (.own 0::zi d.plan.root::zi d.plan.deep::zi d.plan.most::zi d.mode::z6),vI 6,vI d.start] [.tree d.plan.shapes,.lst .lev d.stack] (.tup [.agg (Ac 2 3 z13),vO 4]) z27)∧(.tup [.agg (Ac 0 1 z13),vO 2]:S)= .tup [.agg z21,vO 2]∧([.tree z13.plan.shapes,.lst .lev z13.stack,.lst .ev [Av 6 d.start]]:List Blk)=[.tree z15.d.plan.shapes,.lst .lev z15.d.stack,.lst .ev z15.out])∧((decide (d.plan.deep≤z14))=false→z3∧z30∧z3∧z30∧z5∧z5∧(z14-1<z14)∧z30∧(z14-1<z14)∧z30∧z3∧(z4.length+List.length [z33]≤bigN)∧(Fun Tryz.prog 110 [.agg (.own 0::zi d.plan.root::zi d.plan.deep::zi d.plan.most::zi 2:: .own 1:: .int .u64 0::zi 0::zi d.start::zi d.at_::zi d.field.number::zi d.field.kind:: .bool d.field.rep:: .bool d.field.packed::zi d.field.msg::zi d.wire::zi 0::zi d.utf.want::zi d.utf.low::zi d.utf.high::z7),.agg (zi 6::z8)] [.tree d.plan.shapes,.lst .lev (z4++[z33])] (.tup [.agg (Ac 2 3 z2.d),vO 4]) [.dead,.dead,.tree z2.d.plan.shapes,.lst .lev z2.d.stack,.lst .ev (z26::z2.out)])∧(.tup [.agg (Ac 0 1 z2.d),vO 2]:S)= .tup [.agg z21,vO 2]∧([.tree z2.d.plan.shapes,.lst .lev z2.d.stack,.lst .ev (z26::z2.out)]:List Blk)=[.tree z15.d.plan.shapes,.lst .lev z15.d.stack,.lst .ev z15.out]))∧((decide (d.field.kind=8))=false→((decide (d.field.kind=6))=true→(Fun Tryz.prog 110 [.agg (.own 0::zi d.plan.root::zi d.plan.deep::zi d.plan.most::zi 6:: .own 1:: .int .u64 0::zi 0::zi d.start::zi d.at_::zi d.field.number::zi d.field.kind:: .bool d.field.rep:: .bool d.field.packed::zi d.field.msg::zi d.wire::zi u::zi 0::zi 0::zi 0::z7),.agg (zi 3::z8)] [.tree d.plan.shapes,.lst .lev d.stack] (.tup [.agg z35,vO 4]) z16)∧z38= .tup [.agg z21,vO 2]∧z22=[.tree z15.d.plan.shapes,.lst .lev z15.d.stack,.lst .ev z15.out])∧((decide (d.field.kind=6))=false→((decide (d.field.kind=7))=true→(Fun Tryz.prog 110 [.agg (.own 0::zi d.plan.root::zi d.plan.deep::zi d.plan.most::zi 6:: .own 1:: .int .u64 0::zi 0::zi d.start::zi d.at_::zi d.field.number::zi d.field.kind:: .bool d.field.rep:: .bool d.field.packed::zi d.field.msg::zi d.wire::zi u::zi 0::zi 0::zi 0::z7),.agg (zi 3::z8)] [.tree d.plan.shapes,.lst .lev d.stack] (.tup [.agg z35,vO 4]) z16)∧z38= .tup [.agg z21,vO 2]∧z22=[.tree z15.d.plan.shapes,.lst .lev z15.d.stack,.lst .ev z15.out])∧((decide (d.field.kind=7))=false→((decide (0<u))=true→(Fun Tryz.prog 154 [vI d.field.kind] [] (.v (vI z24)) [])∧(Fun Tryz.prog 150 [vI z24] [] (.v (vI (Aw z24))) [])∧((decide (u<Aw z24))=true→(Fun Tryz.prog 109 [.agg (.own 0::zi d.plan.root::zi d.plan.deep::zi d.plan.most::zi 8::z6),vI 9,vI d.at_] [.tree d.plan.shapes,.lst .lev d.stack] (.tup [.agg (Ac 2 3 z23),vO 4]) z29)∧(.tup [.agg (Ac 0 1 z23),vO 2]:S)= .tup [.agg z21,vO 2]∧([.tree z23.plan.shapes,.lst .lev z23.stack,.lst .ev [Av 9 d.at_]]:List Blk)=[.tree z15.d.plan.shapes,.lst .lev z15.d.stack,.lst .ev z15.out])∧((decide (u<Aw z24))=false→(Fun Tryz.prog 107 [.agg (.own 0::zi d.plan.root::zi d.plan.deep::zi d.plan.most::zi 8::z6)] [.tree d.plan.shapes,.lst .lev d.stack] (.tup [.agg z36,vO 4]) z17)∧z39= .tup [.agg z21,vO 2]∧z28=[.tree z15.d.plan.shapes,.lst .lev z15.d.stack,.lst .ev z15.out]))∧((decide (0<u))=false→(Fun Tryz.prog 107 [.agg (.own 0::zi d.plan.root::zi d.plan.deep::zi d.plan.most::zi 8::z6)] [.tree d.plan.shapes,.lst .lev d.stack] (.tup [.agg z36,vO 4]) z17)∧z39= .tup [.agg z21,vO 2]∧z28=[.tree z15.d.plan.shapes,.lst .lev z15.d.stack,.lst .ev z15.out])))))))))) (by kernel_rfl) ?_
 refine⟨(Fr d (by omega) (Dp hpt.2.1) (by omega)),(Qo d (by omega) (by omega)),(by simp[hp1]),(Ah (by omega) (by omega)),dsp (fun h1 p1=>?_) fun h1 p1=>?_⟩
 refine⟨(Cn (⟨d.plan,d.mode,d.stack,(⟨0,0⟩:Scn),d.start,d.at_,d.field,d.wire,d.want,d.utf,d.end_⟩:Dcd) _ _),?_⟩
 refine have hm1:(Cb ⟨d,[]⟩ u).d=(Au (⟨d.plan,d.mode,d.stack,(⟨0,0⟩:Scn),d.start,d.at_,d.field,d.wire,d.want,d.utf,d.end_⟩:Dcd) 8 d.start):=?_;?_
 rotate_left
 refine have hm2:(Cb ⟨d,[]⟩ u).out=[Av 8 d.start]:=?_;?_
 rotate_left
 exact⟨(by rw[hm1]<;>rfl),(by rw[hm1,hm2]<;>rfl)⟩
 refine⟨(Bo (l:=d.stack) (i:=Int.toNat ((d.stack.length:Int)-1)) (by omega)),fun x1 hx1=>?_⟩
 have hll:=Jb (d:=d) (by rw[←hx1];congr 1;omega)
 have hix:Int.toNat ((d.stack.length:Int)-1)=d.stack.length-1:=by omega
 refine⟨hx1,(by omega),(Dx (by omega) (by omega)),dsp (fun h2 p2=>?_) fun h2 p2=>?_⟩
 refine⟨(Cn (⟨d.plan,d.mode,d.stack,(⟨0,0⟩:Scn),d.start,d.at_,d.field,d.wire,d.want,d.utf,d.end_⟩:Dcd) _ _),?_⟩
 refine have hm1:(Cb ⟨d,[]⟩ u).d=(Au (⟨d.plan,d.mode,d.stack,(⟨0,0⟩:Scn),d.start,d.at_,d.field,d.wire,d.want,d.utf,d.end_⟩:Dcd) 8 d.start):=?_;?_
 rotate_left
 refine have hm2:(Cb ⟨d,[]⟩ u).out=[Av 8 d.start]:=?_;?_
 rotate_left
 exact⟨(by rw[hm1]<;>rfl),(by rw[hm1,hm2]<;>rfl)⟩
 refine⟨(Ah (by omega) (by omega)),fun h3=>have p3:=(Co dT (Co dT (Co dT (Co dT dT)))).1 h3;?_,fun h3=>have p3:=(Cp dT (Cp dT (Cp dT (Cp dT dF)))).1 h3;?_⟩
 refine⟨(Hm (⟨d.plan,7,d.stack,(⟨0,0⟩:Scn),d.start,d.at_,d.field,d.wire,u,d.utf,d.end_⟩:Dcd) (by first|omega|rfl|(dsimp only;omega))),?_⟩
 refine have hm1:(Cb ⟨d,[]⟩ u).d=(Ad ⟨(⟨d.plan,7,d.stack,(⟨0,0⟩:Scn),d.start,d.at_,d.field,d.wire,u,d.utf,d.end_⟩:Dcd),[]⟩).d:=?_;?_
 rotate_left
 refine have hm2:(Cb ⟨d,[]⟩ u).out=(Ad ⟨(⟨d.plan,7,d.stack,(⟨0,0⟩:Scn),d.start,d.at_,d.field,d.wire,u,d.utf,d.end_⟩:Dcd),[]⟩).out:=?_;?_
 rotate_left
 exact⟨(by rw[hm1]<;>rfl),(by rw[hm1,hm2]<;>rfl)⟩
 refine dsp (fun h4 p4=>?_) fun h4 p4=>?_
 refine dsp (fun h5 p5=>?_) fun h5 p5=>?_
 refine⟨(Cn (⟨d.plan,d.mode,d.stack,(⟨0,0⟩:Scn),d.start,d.at_,d.field,d.wire,u,d.utf,d.end_⟩:Dcd) _ _),?_⟩
 refine have hm1:(Cb ⟨d,[]⟩ u).d=(Au (⟨d.plan,d.mode,d.stack,(⟨0,0⟩:Scn),d.start,d.at_,d.field,d.wire,u,d.utf,d.end_⟩:Dcd) 6 d.start):=?_;?_
 rotate_left
 refine have hm2:(Cb ⟨d,[]⟩ u).out=[Av 6 d.start]:=?_;?_
 rotate_left
 exact⟨(by rw[hm1]<;>rfl),(by rw[hm1,hm2]<;>rfl)⟩
 refine⟨hx1,(by omega),hx1,(by omega),(Ah (by omega) (by omega)),(Ah (by omega) (by omega)),(by omega),(by omega),(by omega),(by omega),hx1,(by simp only[List.length_set,List.length_cons,List.length_nil];omega),(Nf (⟨d.plan,2,(List.set d.stack (Int.toNat ((d.stack.length:Int)-1)) (⟨x1.msg,x1.left-u⟩:Lev))++[(⟨d.field.msg,u⟩:Lev)],(⟨0,0⟩:Scn),d.start,d.at_,d.field,d.wire,0,d.utf,d.end_⟩:Dcd) (⟨6,d.field.number,0,u,[],0,0⟩:Ev) (by simp only[List.length_append,List.length_cons,List.length_nil,List.length_set,List.length_take];omega)),?_⟩
 refine have hm1:(Cb ⟨d,[]⟩ u).d=(Ad ⟨(⟨d.plan,2,(List.set d.stack (Int.toNat ((d.stack.length:Int)-1)) (⟨x1.msg,x1.left-u⟩:Lev))++[(⟨d.field.msg,u⟩:Lev)],(⟨0,0⟩:Scn),d.start,d.at_,d.field,d.wire,0,d.utf,d.end_⟩:Dcd),[]⟩).d:=?_;?_
 rotate_left
 refine have hm2:(Cb ⟨d,[]⟩ u).out=(⟨6,d.field.number,0,u,[],0,0⟩:Ev)::(Ad ⟨(⟨d.plan,2,(List.set d.stack (Int.toNat ((d.stack.length:Int)-1)) (⟨x1.msg,x1.left-u⟩:Lev))++[(⟨d.field.msg,u⟩:Lev)],(⟨0,0⟩:Scn),d.start,d.at_,d.field,d.wire,0,d.utf,d.end_⟩:Dcd),[]⟩).out:=?_;?_
 rotate_left
 exact⟨(by rw[hm1]<;>rfl),(by rw[hm1,hm2]<;>rfl)⟩
 refine dsp (fun h5 p5=>?_) fun h5 p5=>?_
 refine⟨(Nf (⟨d.plan,6,d.stack,(⟨0,0⟩:Scn),d.start,d.at_,d.field,d.wire,u,utf0,d.end_⟩:Dcd) (⟨3,d.field.number,0,u,[],0,0⟩:Ev) (by first|omega|rfl|(dsimp only;omega))),?_⟩
 refine have hm1:(Cb ⟨d,[]⟩ u).d=(Ad ⟨(⟨d.plan,6,d.stack,(⟨0,0⟩:Scn),d.start,d.at_,d.field,d.wire,u,utf0,d.end_⟩:Dcd),[]⟩).d:=?_;?_
 rotate_left
 refine have hm2:(Cb ⟨d,[]⟩ u).out=(⟨3,d.field.number,0,u,[],0,0⟩:Ev)::(Ad ⟨(⟨d.plan,6,d.stack,(⟨0,0⟩:Scn),d.start,d.at_,d.field,d.wire,u,utf0,d.end_⟩:Dcd),[]⟩).out:=?_;?_
 rotate_left
 exact⟨(by rw[hm1]<;>rfl),(by rw[hm1,hm2]<;>rfl)⟩
 refine dsp (fun h6 p6=>?_) fun h6 p6=>?_
 refine⟨(Nf (⟨d.plan,6,d.stack,(⟨0,0⟩:Scn),d.start,d.at_,d.field,d.wire,u,utf0,d.end_⟩:Dcd) (⟨3,d.field.number,0,u,[],0,0⟩:Ev) (by first|omega|rfl|(dsimp only;omega))),?_⟩
 refine have hm1:(Cb ⟨d,[]⟩ u).d=(Ad ⟨(⟨d.plan,6,d.stack,(⟨0,0⟩:Scn),d.start,d.at_,d.field,d.wire,u,utf0,d.end_⟩:Dcd),[]⟩).d:=?_;?_
 rotate_left
 refine have hm2:(Cb ⟨d,[]⟩ u).out=(⟨3,d.field.number,0,u,[],0,0⟩:Ev)::(Ad ⟨(⟨d.plan,6,d.stack,(⟨0,0⟩:Scn),d.start,d.at_,d.field,d.wire,u,utf0,d.end_⟩:Dcd),[]⟩).out:=?_;?_
 rotate_left
 exact⟨(by rw[hm1]<;>rfl),(by rw[hm1,hm2]<;>rfl)⟩
 refine dsp (fun h7 p7=>?_) fun h7 p7=>?_
 refine⟨(Vu _),(Gd _),dsp (fun h8 p8=>?_) fun h8 p8=>?_⟩
 refine⟨(Cn (⟨d.plan,8,d.stack,(⟨0,0⟩:Scn),d.start,d.at_,d.field,d.wire,u,d.utf,d.end_⟩:Dcd) _ _),?_⟩
 refine have hm1:(Cb ⟨d,[]⟩ u).d=(Au (⟨d.plan,8,d.stack,(⟨0,0⟩:Scn),d.start,d.at_,d.field,d.wire,u,d.utf,d.end_⟩:Dcd) 9 d.at_):=?_;?_
 rotate_left
 refine have hm2:(Cb ⟨d,[]⟩ u).out=[Av 9 d.at_]:=?_;?_
 rotate_left
 exact⟨(by rw[hm1]<;>rfl),(by rw[hm1,hm2]<;>rfl)⟩
 refine⟨(Hm (⟨d.plan,8,d.stack,(⟨0,0⟩:Scn),d.start,d.at_,d.field,d.wire,u,d.utf,d.end_⟩:Dcd) (by first|omega|rfl|(dsimp only;omega))),?_⟩
 refine have hm1:(Cb ⟨d,[]⟩ u).d=(Ad ⟨(⟨d.plan,8,d.stack,(⟨0,0⟩:Scn),d.start,d.at_,d.field,d.wire,u,d.utf,d.end_⟩:Dcd),[]⟩).d:=?_;?_
 rotate_left
 refine have hm2:(Cb ⟨d,[]⟩ u).out=(Ad ⟨(⟨d.plan,8,d.stack,(⟨0,0⟩:Scn),d.start,d.at_,d.field,d.wire,u,d.utf,d.end_⟩:Dcd),[]⟩).out:=?_;?_
 rotate_left
 exact⟨(by rw[hm1]<;>rfl),(by rw[hm1,hm2]<;>rfl)⟩
 refine⟨(Hm (⟨d.plan,8,d.stack,(⟨0,0⟩:Scn),d.start,d.at_,d.field,d.wire,u,d.utf,d.end_⟩:Dcd) (by first|omega|rfl|(dsimp only;omega))),?_⟩
 refine have hm1:(Cb ⟨d,[]⟩ u).d=(Ad ⟨(⟨d.plan,8,d.stack,(⟨0,0⟩:Scn),d.start,d.at_,d.field,d.wire,u,d.utf,d.end_⟩:Dcd),[]⟩).d:=?_;?_
 rotate_left
 refine have hm2:(Cb ⟨d,[]⟩ u).out=(Ad ⟨(⟨d.plan,8,d.stack,(⟨0,0⟩:Scn),d.start,d.at_,d.field,d.wire,u,d.utf,d.end_⟩:Dcd),[]⟩).out:=?_;?_
 rotate_left
 exact⟨(by rw[hm1]<;>rfl),(by rw[hm1,hm2]<;>rfl)⟩
 all_goals first|(simp_all[Cb,Yn,Yo,B3,F1,As,Au,scn0,utf0,B9];done)|((have e0:d.field≠fld0:=(fun h=>by have:=congrArg Fld.kind h;simp only[fld0] at this;omega);have e1: ¬(d.stack.length=0∨Dm d<u):=(by omega);have e2: ¬d.plan.deep≤(d.stack.length:Int):=(by omega);unfold Cb;simp only;rw[if_neg e1,if_neg e0,if_pos (by assumption),if_neg e2,hll.1,hll.2];simp only[List.nil_append,B9,hix];rfl))|((unfold Cb;simp only[hll.1,hll.2,hix,List.nil_append,B9,B3,F1];(repeat' split)<;>first|rfl|(exfalso;omega)|(simp_all[Yn,Yo,As,Au,scn0,utf0,B9];done)|(exfalso;simp_all;omega)|(exfalso;grind)|grind[Yn,Yo,As,Au,scn0,utf0,B9]))|(grind[Cb,Yn,Yo,B3,F1,As,Au,scn0,utf0,B9])
theorem Ti (d:Dcd) (u:Int) (hp1:List.length (d).stack≤1000) (hp2:(0:Int)≤u∧u≤18446744073709551615):Fun Tryz.prog 159 [.agg (Ac 0 1 d),.c (.int .u64 u)] [.tree d.plan.shapes,.lst .lev d.stack] (.tup [.agg (Ac 2 3 (Ad (Ba ⟨d,[]⟩ u)).d),vO 4]) [.dead,.dead,.tree (Ad (Ba ⟨d,[]⟩ u)).d.plan.shapes,.lst .lev (Ad (Ba ⟨d,[]⟩ u)).d.stack,.lst .ev (Ad (Ba ⟨d,[]⟩ u)).out]:=by
 have hN:bigN=274877906944:=rfl
 refine Af Tryz.func159 (by kernel_rfl) (by kernel_rfl) (w:=let zi:Int→C:= .int .i64;let z1:List C:=[.own 0,zi d.plan.root,zi d.plan.deep,zi d.plan.most,zi 2,.own 1,.int .u64 d.scan.bits,zi d.scan.have_,zi d.start,zi d.at_,zi d.field.number,zi d.field.kind,.bool d.field.rep,.bool d.field.packed,zi d.field.msg,zi d.wire,zi d.want,zi d.utf.want,zi d.utf.low,zi d.utf.high,zi d.end_.kind,zi d.end_.field,.int .u64 d.end_.bits,zi d.end_.len,.str d.end_.text,zi d.end_.code,zi d.end_.at_];let z2:=Ad ⟨(⟨d.plan,2,d.stack,d.scan,d.start,d.at_,d.field,d.wire,d.want,d.utf,d.end_⟩:Dcd),[]⟩;let z3:=decide (d.field.number=0)&&(decide (d.field.kind=0)&&(decide (d.field.rep=false)&&(decide (d.field.packed=false)&&decide (d.field.msg=0))));let z5:=Ad ⟨d,[]⟩;let z6:List Blk:=[.dead,.dead,.tree z2.d.plan.shapes,.lst .lev z2.d.stack,.lst .ev ((Fp d.field u)::z2.out)];let z7:List Blk:=[.dead,.dead,.tree z5.d.plan.shapes,.lst .lev z5.d.stack,.lst .ev ((Fp d.field u)::z5.out)];let z8:=Ad (Ba ⟨d,[]⟩ u);let z4:List Blk:=[.dead,.dead,.tree z8.d.plan.shapes,.lst .lev z8.d.stack,.lst .ev z8.out];let z9:List Blk:=[.dead,.dead,.tree z2.d.plan.shapes,.lst .lev z2.d.stack,.lst .ev z2.out];let z10:List Blk:=[.dead,.dead,.tree z5.d.plan.shapes,.lst .lev z5.d.stack,.lst .ev z5.out];let z11:=cEv (Fp d.field u);let z12:=Ac 2 3 z2.d;let z13:=Ac 2 3 z5.d;let z14:=fr (.one 4 (.one 5 (.first 6 (.first 7 (.one 8 (.first 9 (.done))))))) 0 4;let z15:=Ac 2 3 z8.d;(.br (.br (.seg [.call [0,1] (.tup [.agg z12,vO 4]) z9] (.leaf () [0,1,4,5,6])) (.seg [.tree z14 8 [0,1],.call [] (.v (.agg z11)) [],.call [0,1] (.tup [.agg z12,vO 4]) z6] (.leaf () [0,1,4,5,6]))) (.br (.seg [.call [0,1] (.tup [.agg z13,vO 4]) z10] (.leaf () [0,1,4,5,6])) (.seg [.tree z14 8 [0,1],.call [] (.v (.agg z11)) [],.call [0,1] (.tup [.agg z13,vO 4]) z7] (.leaf () [0,1,4,5,6]))),((!decide (d.mode=8))=true→(z3=true→(Fun Tryz.prog 107 [.agg z1] [.tree d.plan.shapes,.lst .lev d.stack] (.tup [.agg z12,vO 4]) z9)∧(.tup [.agg z12,vO 4]:S)= .tup [.agg z15,vO 4]∧(z9:List Blk)=z4)∧(z3=false→(Fun Tryz.prog 158 [.agg (Fd d.field),.c (.int .u64 u)] [] (.v (.agg z11)) [])∧(Fun Tryz.prog 110 [.agg z1,.agg z11] [.tree d.plan.shapes,.lst .lev d.stack] (.tup [.agg z12,vO 4]) z6)∧(.tup [.agg z12,vO 4]:S)= .tup [.agg z15,vO 4]∧(z6:List Blk)=z4))∧((!decide (d.mode=8))=false→(z3=true→(Fun Tryz.prog 107 [.agg (Ac 0 1 d)] [.tree d.plan.shapes,.lst .lev d.stack] (.tup [.agg z13,vO 4]) z10)∧(.tup [.agg z13,vO 4]:S)= .tup [.agg z15,vO 4]∧(z10:List Blk)=z4)∧(z3=false→(Fun Tryz.prog 158 [.agg (Fd d.field),.c (.int .u64 u)] [] (.v (.agg z11)) [])∧(Fun Tryz.prog 110 [.agg (Ac 0 1 d),.agg z11] [.tree d.plan.shapes,.lst .lev d.stack] (.tup [.agg z13,vO 4]) z7)∧(.tup [.agg z13,vO 4]:S)= .tup [.agg z15,vO 4]∧(z7:List Blk)=z4)))) (by kernel_rfl) ?_
 refine⟨fun h1=>have q1:=Am h1;have p1:=of_decide_eq_false q1;?_,fun h1=>have q1:=Aj h1;have p1:=of_decide_eq_true q1;?_⟩
 refine⟨fun h2=>have p2:=(Co dT (Co dT (Co dT (Co dT dT)))).1 h2;?_,fun h2=>have p2:=(Cp dT (Cp dT (Cp dT (Cp dT dF)))).1 h2;?_⟩
 refine⟨(Hm (⟨d.plan,2,d.stack,d.scan,d.start,d.at_,d.field,d.wire,d.want,d.utf,d.end_⟩:Dcd) (by first|omega|rfl|(dsimp only;omega))),?_⟩
 refine have hm1:(Ad (Ba ⟨d,[]⟩ u)).d=(Ad ⟨(⟨d.plan,2,d.stack,d.scan,d.start,d.at_,d.field,d.wire,d.want,d.utf,d.end_⟩:Dcd),[]⟩).d:=?_;?_
 rotate_left
 refine have hm2:(Ad (Ba ⟨d,[]⟩ u)).out=(Ad ⟨(⟨d.plan,2,d.stack,d.scan,d.start,d.at_,d.field,d.wire,d.want,d.utf,d.end_⟩:Dcd),[]⟩).out:=?_;?_
 rotate_left
 exact⟨(by rw[hm1]<;>rfl),(by rw[hm1,hm2]<;>rfl)⟩
 refine⟨(Qd d.field _ (by omega)),(Nf (⟨d.plan,2,d.stack,d.scan,d.start,d.at_,d.field,d.wire,d.want,d.utf,d.end_⟩:Dcd) (Fp d.field u) (by first|omega|rfl|(dsimp only;omega))),?_⟩
 refine have hm1:(Ad (Ba ⟨d,[]⟩ u)).d=(Ad ⟨(⟨d.plan,2,d.stack,d.scan,d.start,d.at_,d.field,d.wire,d.want,d.utf,d.end_⟩:Dcd),[]⟩).d:=?_;?_
 rotate_left
 refine have hm2:(Ad (Ba ⟨d,[]⟩ u)).out=(Fp d.field u)::(Ad ⟨(⟨d.plan,2,d.stack,d.scan,d.start,d.at_,d.field,d.wire,d.want,d.utf,d.end_⟩:Dcd),[]⟩).out:=?_;?_
 rotate_left
 exact⟨(by rw[hm1]<;>rfl),(by rw[hm1,hm2]<;>rfl)⟩
 refine⟨fun h2=>have p2:=(Co dT (Co dT (Co dT (Co dT dT)))).1 h2;?_,fun h2=>have p2:=(Cp dT (Cp dT (Cp dT (Cp dT dF)))).1 h2;?_⟩
 refine⟨(Hm d (by omega)),?_⟩
 refine have hm1:(Ad (Ba ⟨d,[]⟩ u)).d=(Ad ⟨d,[]⟩).d:=?_;?_
 rotate_left
 refine have hm2:(Ad (Ba ⟨d,[]⟩ u)).out=(Ad ⟨d,[]⟩).out:=?_;?_
 rotate_left
 exact⟨(by rw[hm1]<;>rfl),(by rw[hm1,hm2]<;>rfl)⟩
 refine⟨(Qd d.field _ (by omega)),(Nf d (Fp d.field u) (by omega)),?_⟩
 refine have hm1:(Ad (Ba ⟨d,[]⟩ u)).d=(Ad ⟨d,[]⟩).d:=?_;?_
 rotate_left
 refine have hm2:(Ad (Ba ⟨d,[]⟩ u)).out=(Fp d.field u)::(Ad ⟨d,[]⟩).out:=?_;?_
 rotate_left
 exact⟨(by rw[hm1]<;>rfl),(by rw[hm1,hm2]<;>rfl)⟩
 all_goals first|((rw[Ade (by assumption) (Adb (f:=fld0) (by assumption))];simp[B9];done))|((rw[Adf (by assumption) (Vm (by assumption))];done))|(simp_all[Ba,B3,B9];done)|((cases d;simp_all[Ba,B3,B9];done))|(grind[Ba,B3,B9])
end Go.Proofs.YtpchkcpcdbdhdaaGreat.Ax
