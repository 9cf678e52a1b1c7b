/- Models: what is left of the levels. The law FnStepLeft. -/
import Derived.Test.YtcmnedgnppnhoaaGreatKS9
import Derived.Test.YtcmnedgnppnhoaaGreatKS6
set_option linter.unusedSimpArgs false
set_option linter.unusedVariables false
namespace Go.Proofs.YtcmnedgnppnhoaaGreat.Ax
open Go.RowKit
def J1:List Lev→Int
 |[]=>0
 |l::r=>l.left+J1 r
theorem Te: ∀(a b:List Lev),J1 (a++b)=J1 a+J1 b
 |[],b=>by simp[J1]
 |l::a,b=>by rw[List.cons_append,J1,J1,Te a b];omega
theorem Ain {d:Dcd} (h:0<d.stack.length):d.stack=d.stack.take (d.stack.length-1)++[Fu d]∧Di d=(Fu d).left:=by
 have hx:d.stack[d.stack.length-1]? =some (Fu d):=by
  unfold Fu
  rw[List.getD_eq_getElem?_getD,List.getElem?_eq_getElem (by omega)];rfl
 refine⟨?_,?_⟩
 ·have h1:=List.take_add_one (l:=d.stack) (i:=d.stack.length-1)
  rw[hx] at h1
  rw[show d.stack.length-1+1=d.stack.length by omega,List.take_length] at h1
  exact h1
 ·rfl
theorem Acs {d:Dcd} (h:0<d.stack.length):J1 d.stack=J1 (d.stack.take (d.stack.length-1))+Di d:=by
 obtain ⟨h1,h2⟩:=Ain h
 have:=Te (d.stack.take (d.stack.length-1)) [Fu d]
 rw[←h1] at this
 rw[this,h2]
 simp[J1]
theorem Ad5 {l:List Lev} {x:Lev} (h:0<l.length):l.set (l.length-1) x=l.take (l.length-1)++[x]:=by
 rw[List.set_eq_take_append_cons_drop,if_pos (by omega),List.drop_of_length_le (by omega)]
theorem Aio {m q:Mac} (h:Az m=some q):J1 q.d.stack=J1 m.d.stack∧∃t,q.out=m.out++t:=by
 unfold Az at h
 split at h
 ·split at h
  ·cases h;exact⟨rfl,_,rfl⟩
  ·cases h;exact⟨rfl,_,rfl⟩
 ·split at h
  ·cases h;exact⟨rfl,[],(List.append_nil _).symm⟩
  ·split at h
   ·rename_i hc
    have hs:=Acs hc.2.2.1
    split at h
    ·cases h;exact⟨by show J1 (m.d.stack.take (m.d.stack.length-1))=_;omega,_,rfl⟩
    ·cases h;exact⟨by show J1 (m.d.stack.take (m.d.stack.length-1))=_;omega,_,rfl⟩
   ·cases h
theorem Yp: ∀(k:Nat) (m:Mac),wM m≤k→J1 (Ad m).d.stack=J1 m.d.stack∧∃t,(Ad m).out=m.out++t:=by
 intro k
 induction k with
 |zero=>
  intro m hk
  cases hc:Az m with
  |none=>rw[Br hc];exact⟨rfl,[],(List.append_nil _).symm⟩
  |some q=>have:=(Bz hc).1;omega
 |succ k ih=>
  intro m hk
  cases hc:Az m with
  |none=>rw[Br hc];exact⟨rfl,[],(List.append_nil _).symm⟩
  |some q=>
   obtain ⟨h1,t,ht⟩:=Aio hc
   rw[Ca hc]
   obtain ⟨h2,t2,ht2⟩:=ih q (by have:=(Bz hc).1;omega)
   exact⟨h2.trans h1,t++t2,by rw[ht2,ht,List.append_assoc]⟩
theorem Ew (m:Mac):J1 (Ad m).d.stack=J1 m.d.stack:=(Yp _ m (Nat.le_refl _)).1
theorem Anp (m:Mac) (u:Int):J1 (D2 m u).d.stack=J1 m.d.stack:=by
 unfold D2;split;rfl;split;rfl;split;rfl;split<;>rfl
theorem Akk (m:Mac) (u:Int):J1 (Cd m u).d.stack=J1 m.d.stack:=by
 unfold Cd;split
 ·rfl
 rename_i hn
 split
 ·exact Ew _
 split
 ·split
  ·rfl
  ·rw[Ew]
   have h0:0<m.d.stack.length:=by omega
   have hs:=Acs h0
   show J1 (m.d.stack.set (m.d.stack.length-1) ⟨(Fu m.d).msg,Di m.d-u⟩++[⟨m.d.field.msg,u⟩])=_
   rw[Ad5 h0,Te,Te]
   simp only[J1]
   omega
 split
 ·exact Ew _
 split
 ·rfl
 ·exact Ew _
theorem Anq {m:Mac} {b a:Int} (h:m.d.mode≠1):J1 (Bp m b a).d.stack=J1 m.d.stack:=by
 unfold Bp;split
 ·rfl
 split
 ·unfold St;split<;>rfl
 split
 ·exact Anp _ _
 split
 ·exact Akk _ _
 ·exact Ew _
theorem Anr (m:Mac) (b:Int):J1 (C7 m b).d.stack=J1 m.d.stack:=by
 unfold C7;split
 ·rfl
 split
 ·rfl
 ·exact Ew _
theorem Akm (m:Mac) (b:Int):J1 (Dy m b).d.stack=J1 m.d.stack:=by
 unfold Dy;split
 ·split
  ·rfl
  ·exact Ew ⟨Ak6 m.d _,m.out++[Rv b]⟩
 ·exact Ew ⟨m.d,m.out++[Rv b]⟩
theorem Aip {d:Dcd} (h:0<d.stack.length):J1 (Ci d).stack=J1 d.stack-1:=by
 have hs:=Acs h
 unfold Ci
 dsimp only
 rw[if_neg (by omega),Ad5 h,Te]
 simp only[J1]
 omega
def Ge (d:Dcd):Int:=if B9 d=true then J1 d.stack else 0
theorem Aiq {d:Dcd} {b:Int} (h:B9 d=true) (ha:(Bc d b).d.at_≠d.at_) (hm:d.mode≠1):Ge (Bc d b).d=Ge d-1:=by
 have h1:=Ta (b:=b) h
 have hb:=Hf h
 unfold Ge
 rw[if_pos h1,if_pos h]
 unfold Bc at ha ⊢
 split
 ·rename_i hc
  have htk:=Zo hc.2.1
  have hst:=hb.2.2.2.2.2.2.2.2.1
  have h0:0<d.stack.length:=by
   unfold Jh at hst
   rw[if_neg hm,if_neg htk.1] at hst
   have:=of_decide_eq_true hst
   by_cases hz:d.stack.length=0
   ·unfold Di at this
    rw[List.eq_nil_of_length_eq_zero hz] at this
    exact absurd this Q28
   ·omega
  have hs:=Aip h0
  have hmo:(Ci d).mode≠1:=hm
  unfold Dn;split
  ·rw[Akm];exact hs
  split
  ·rw[Ew];exact hs
  split
  ·rw[Anr];exact hs
  ·rw[Anq (by exact hmo)];exact hs
 ·rename_i hc
  rw[if_neg hc] at ha
  exact(ha rfl).elim
theorem Afp {d:Dcd} {b:Int} (h:B9 d=true) (ha:(Bc d b).d.at_≠d.at_) (hm:d.mode=1) (h9:(Bc d b).d.mode≠9):
  ((Bc d b).out=[]∧Ge (Bc d b).d=0)∨∃e t,(Bc d b).out=e::t∧Ge (Bc d b).d=e.len:=by
 have h1:=Ta (b:=b) h
 have hb:=Hf h
 unfold Ge
 rw[if_pos h1]
 have hst:=hb.2.2.2.2.2.2.2.2.1
 have h0:d.stack=[]:=by unfold Jh at hst;rw[if_pos hm] at hst;exact of_decide_eq_true hst
 have hd0:(Ci d).stack=[]:=by unfold Ci;dsimp only;rw[if_pos (by rw[h0];rfl)];exact h0
 unfold Bc at ha h9 ⊢
 split
 ·rename_i hc
  rw[if_pos hc] at h9
  have hw: ¬0<Bq d:=by unfold Bq;rw[hm];simp
  have e6: ¬d.mode=6:=by omega
  have e7: ¬d.mode=7:=by omega
  unfold Dn at h9 ⊢
  dsimp only at h9 ⊢
  rw[if_neg e6,if_neg e7,if_neg hw] at h9
  rw[if_neg e6,if_neg e7,if_neg hw]
  have hmo:(Ci d).mode=1:=hm
  unfold Bp at h9 ⊢
  split
  ·rename_i h2;rw[if_pos h2] at h9;exact(h9 rfl).elim
  rename_i h2;rw[if_neg h2] at h9
  split
  ·rename_i h3;rw[if_pos h3] at h9
   left
   unfold St at h9 ⊢
   split
   ·rename_i h4;rw[if_pos h4] at h9;exact(h9 rfl).elim
   ·exact⟨rfl,by show J1 (Ci d).stack=0;rw[hd0];rfl⟩
  rename_i h3;rw[if_neg h3] at h9
  right
  rw[if_pos hmo] at h9
  unfold Ce at h9 ⊢
  split
  ·rename_i h4;rw[if_pos h4] at h9;exact(h9 rfl).elim
  ·obtain ⟨hs,t,ht⟩:=Yp _ (⟨⟨(D3 (Dj (Ci d) d.at_) scn0).plan,2,[⟨(D3 (Dj (Ci d) d.at_) scn0).plan.root,(Af (Ci d).scan b).1.bits⟩],⟨0,0⟩,(D3 (Dj (Ci d) d.at_) scn0).start,(D3 (Dj (Ci d) d.at_) scn0).at_,(D3 (Dj (Ci d) d.at_) scn0).field,(D3 (Dj (Ci d) d.at_) scn0).wire,(D3 (Dj (Ci d) d.at_) scn0).want,(D3 (Dj (Ci d) d.at_) scn0).utf,(D3 (Dj (Ci d) d.at_) scn0).end_⟩,[]++[Xk (Af (Ci d).scan b).1.bits]⟩:Mac) (Nat.le_refl _)
   refine⟨Xk (Af (Ci d).scan b).1.bits,t,ht,?_⟩
   exact hs.trans (by simp[J1,Xk])
 ·rename_i hc
  rw[if_neg hc] at ha
  exact(ha rfl).elim
theorem Yq {n:Int} {l:Lev} (h:E1 n l=true):0≤l.left∧l.left≤2000:=by
 unfold E1 at h
 simp only[Am,Bool.and_eq_true,decide_eq_true_eq] at h
 omega
theorem Amm: ∀l:List Lev,(∀x∈l,0≤x.left∧x.left≤2000)→0≤J1 l∧J1 l≤2000*(l.length:Int)
 |[],_=>by simp[J1]
 |x::r,h=>by
  have h1:=h x (List.mem_cons_self ..)
  have h2:=Amm r fun y hy=>h y (List.mem_cons_of_mem _ hy)
  rw[J1,List.length_cons];omega
theorem Ans (d:Dcd):0≤Ge d∧Ge d≤16000:=by
 unfold Ge;split
 ·rename_i h
  have hl:=By (Hf h).1
  have:=Amm d.stack fun x hx=>Yq (hl.2.2.2 x hx)
  omega
 ·omega
theorem Akn {l:List Lev} {i:Nat} {x:Lev} (h:l[i]? =some x):J1 (l.drop i)=x.left+J1 (l.drop (i+1)):=by
 obtain ⟨hi,hg⟩:=List.getElem?_eq_some_iff.1 h
 rw[List.drop_eq_getElem_cons hi,hg,J1]
structure Nx where
 sum:Int
 v:Nat
def Ny (d:Dcd):Fam:=⟨Nx,fun q1=>[(3,.v (vI q1.sum)),(11,.v (.c (.seq .lev d.stack))),(12,.v (vI ((List.length d.stack:Nat):Int))),(13,.v (vI ((q1.v:Nat):Int)))],fun _=>[],fun q1=>q1.v≤List.length d.stack∧q1.sum+J1 (List.drop q1.v d.stack)=J1 d.stack∧(0:Int)≤q1.sum∧q1.sum≤2000*q1.v,fun q1=>List.length d.stack-q1.v⟩
theorem Vo (d:Dcd) (hp1:List.length (d).stack≤Bf) (hp2:List.length (d).plan.shapes≤Bf):Fun Tryz.prog 24 [.agg (Bt d)] [] (.v (vI (Ge d))) []:=by
 have hN:Bf=274877906944:=rfl
 refine Aq Tryz.func24 Q4 Q4 (w:=let z3:=((List.length d.stack:Nat):Int);let z4:=Ny d;(.seg [.call [] (.v (vB (B9 d))) []] (.br (.leaf () []) (.seg [.at 0,.keep [3,11,12,13],.sel []] (.loop z4 fun q1=> .br (.intro (fun (x1:Lev)=>d.stack[q1.v]? =some x1) fun x1=> .seg [.el .lev x1,.as 20 (.v (vI (q1.sum+x1.left))),.as 21 (.v (vI (((q1.v:Nat):Int)+1))),.at 0,.keep [3,11,12,13],.sel []] (.next)) (.leaf () [])))),(Fun Tryz.prog 21 [.agg (Bt d)] [] (.v (vB (B9 d))) [])∧((!(B9 d))=true→(.v (vI 0):S)= .v (vI (Ge d))∧([]:List Blk)=[])∧((!(B9 d))=false→z4.Has [(3,.v (vI 0)),(11,.v (.c (.seq .lev d.stack))),(12,.v (vI z3)),(13,.v (vI 0))] []∧∀q1,z4.inv q1→(let z2:=((q1.v:Nat):Int);((decide (z2<z3))=true→(∃(x1:Lev),d.stack[q1.v]? =some x1)∧∀(x1:Lev),(d.stack[q1.v]? =some x1)→(let z1:=q1.sum+x1.left;(d.stack[q1.v]? =some x1)∧((0:Int)≤z2)∧((.v (vI (IntKind.i64.wrap z1)):S)= .v (vI z1))∧((.v (vI (IntKind.i64.wrap (z2+1))):S)= .v (vI (z2+1)))∧z4.Nxt q1 [(3,.v (vI z1)),(11,.v (.c (.seq .lev d.stack))),(12,.v (vI z3)),(13,.v (vI (z2+1)))] []))∧((decide (z2<z3))=false→(.v (vI q1.sum):S)= .v (vI (Ge d))∧([]:List Blk)=[]))))) Q4 ?_
 refine⟨(Wm d Q2 Q2),fun h1=>have q1:=Ap h1;?_,fun h1=>have q1:=An h1;?_⟩
 have hls:Ge d=0:=by unfold Ge;rw[if_neg (by simp[q1])]
 refine⟨(sI ?_),rfl⟩
 rotate_left
 have hlb:=By (Hf q1).1
 have hls:Ge d=J1 d.stack:=by unfold Ge;rw[if_pos q1]
 refine⟨Bi (j:=(⟨0,0⟩:Nx)) Q10 rfl (by dsimp only[Ny];exact⟨by omega,by simp,by omega,by omega⟩),fun (q1:Nx) hq_q1=>?_⟩
 have hi_q1:q1.v≤List.length d.stack∧q1.sum+J1 (List.drop q1.v d.stack)=J1 d.stack∧(0:Int)≤q1.sum∧q1.sum≤2000*q1.v:=hq_q1
 obtain ⟨v1,v2,v3,v4⟩:=hi_q1
 refine dsp (fun h2 p2=>?_) fun h2 p2=>?_
 refine⟨(Bh (l:=d.stack) (i:=q1.v) Q2),fun x1 hx1=>?_⟩
 have hlv:=Yq (hlb.2.2.2 x1 (List.mem_of_getElem? hx1))
 exact⟨hx1,Q2,(Ae Q2 Q2),(Ae Q2 Q2),A5 (j:=(⟨q1.sum+x1.left,q1.v+1⟩:Nx)) Q10 rfl (by dsimp only[Ny];exact⟨by omega,by rw[Akn hx1] at v2;omega,by omega,by omega⟩) (by dsimp only[Ny];omega)⟩
 rw[List.drop_eq_nil_of_le (by omega)] at v2
 simp only[J1,Int.add_zero] at v2
 refine⟨(sI ?_),rfl⟩
 rotate_left
 all_goals first|((rw[hls];done))|((rw[hls];exact v2))|(grind)
theorem Abe (code:List Int) (hp1:((List.length code:Nat):Int)≤9223372036854775807):Fun Tryz.prog 5 [.c (.seq .u8 code)] [] (.v (vB true)) []:=by
 have hN:Bf=274877906944:=rfl
 refine Aq Tryz.func5 Q4 Q4 (w:=let z3:=decide (1048576<((List.length code:Nat):Int));let z4:=([]:List Blk);let z5:=(.v (vB true):S);(.seg [.call [] (.v (vB z3)) []] (.br (.leaf () []) (.intro (E3 code) fun o1=>let z1:=Bc o1.d o1.b;.seg [.call [] (.tup [.agg (Ac 0 1 o1.d),vI o1.b]) [.tree o1.d.plan.shapes,.lst .lev o1.d.stack],.call [] (.tup [.agg (Ac 0 1 z1.d),vO 2]) [.tree z1.d.plan.shapes,.lst .lev z1.d.stack,.lst .ev z1.out],.call [] (.tup [.agg (Ac 0 1 z1.d),vO 2]) [.tree z1.d.plan.shapes,.lst .lev z1.d.stack,.lst .ev z1.out],.call [] (.v (vB (decide (z1.out=z1.out)))) [],.br false,.call [] (.v (vB (B9 o1.d))) []] (.br (.leaf () []) (.br (.leaf () []) (.br (.leaf () []) (.br (.br (.intro (fun (x1:Ev)=>z1.out[0]? =some x1) fun x1=> .seg [.el .ev x1,.call [] (.v (vI (Ge z1.d))) []] (.leaf () [])) (.seg [.call [] (.v (vI (Ge z1.d))) []] (.leaf () []))) (.seg [.ord [(0,true),(2,true),(1,false),(3,false),(4,true),(5,true),(6,true)] [],.call [] (.v (vI (Ge z1.d))) [],.call [] (.v (vI (Ge o1.d))) [],.as 66 (.v (vI (Ge o1.d-1)))] (.leaf () [])))))))),(Fun Tryz.prog 9 [.c (.seq .u8 code)] [] (.v (vB z3)) [])∧(z3=true→z5= .v (vB true)∧z4=[])∧(z3=false→In (E3 code) fun o1=>(let z2:=Bc o1.d o1.b;(Je code o1)∧(Fun Tryz.prog 17 [.agg (Bt o1.d),vI o1.b] [] (.tup [.agg (Ac 0 1 z2.d),vO 2]) [.tree z2.d.plan.shapes,.lst .lev z2.d.stack,.lst .ev z2.out])∧(Fun Tryz.prog 18 [.agg (Bt o1.d),vI o1.b] [] (.tup [.agg (Ac 0 1 z2.d),vO 2]) [.tree z2.d.plan.shapes,.lst .lev z2.d.stack,.lst .ev z2.out])∧(Fun Tryz.prog 15 [.c (.seq .ev z2.out),.c (.seq .ev z2.out)] [] (.v (vB (decide (z2.out=z2.out)))) [])∧((!(decide (z2.out=z2.out)))=false)∧(Fun Tryz.prog 20 [.agg (Bt o1.d)] [] (.v (vB (B9 o1.d))) [])∧((!(B9 o1.d))=true→z5= .v (vB true)∧z4=[])∧((!(B9 o1.d))=false→((decide (z2.d.at_=o1.d.at_))=true→z5= .v (vB true)∧z4=[])∧((decide (z2.d.at_=o1.d.at_))=false→((decide (z2.d.mode=9))=true→z5= .v (vB true)∧z4=[])∧((decide (z2.d.mode=9))=false→((decide (o1.d.mode=1))=true→((decide (0<((List.length z2.out:Nat):Int)))=true→(∃(x1:Ev),z2.out[0]? =some x1)∧∀(x1:Ev),(z2.out[0]? =some x1)→((0<((List.length z2.out:Nat):Int))∧((0:Int)≤0)∧(z2.out[0]? =some x1)∧(Fun Tryz.prog 24 [.agg (Bt z2.d)] [] (.v (vI (Ge z2.d))) [])∧(.v (vB (decide (Ge z2.d=x1.len))):S)= .v (vB true)∧z4=[]))∧((decide (0<((List.length z2.out:Nat):Int)))=false→(Fun Tryz.prog 24 [.agg (Bt z2.d)] [] (.v (vI (Ge z2.d))) [])∧(.v (vB (decide (Ge z2.d=0))):S)= .v (vB true)∧z4=[]))∧((decide (o1.d.mode=1))=false→(Fun Tryz.prog 24 [.agg (Bt z2.d)] [] (.v (vI (Ge z2.d))) [])∧(Fun Tryz.prog 24 [.agg (Bt o1.d)] [] (.v (vI (Ge o1.d))) [])∧((.v (vI (IntKind.i64.wrap ((Ge o1.d)-1))):S)= .v (vI (Ge o1.d-1)))∧(.v (vB (decide (Ge z2.d=Ge o1.d-1))):S)= .v (vB true)∧z4=[])))))))) Q4 ?_
 refine⟨(Ahr _ Q2),dsp (fun h1 p1=>?_) fun h1 p1=>?_⟩
 exact⟨rfl,rfl⟩
 refine⟨(Ri code Q2),fun o1 ho_o1=>?_⟩
 obtain ⟨hp_o1,hf_o1⟩:=ho_o1
 refine⟨hf_o1,(Ahi o1.d _ Q70 (fun e he=>by have:=(hp_o1).flds e he;omega) Q68 ((hp_o1).bits)),(Tt o1.d _ Q70 (fun e he=>by have:=(hp_o1).flds e he;omega) Q68 ((hp_o1).bits)),(Wt _ _ Q45 Q45),Q85,(Ze o1.d Q68 Q70),fun h2=>have q2:=Ap h2;?_,fun h2=>have q2:=An h2;?_⟩
 exact⟨rfl,rfl⟩
 refine dsp (fun h3 p3=>?_) fun h3 p3=>?_
 exact⟨rfl,rfl⟩
 refine dsp (fun h4 p4=>?_) fun h4 p4=>?_
 exact⟨rfl,rfl⟩
 refine dsp (fun h5 p5=>?_) fun h5 p5=>?_
 have hl1:=Afp (b:=o1.b) q2 p3 p5 p4
 refine dsp (fun h6 p6=>?_) fun h6 p6=>?_
 refine⟨(Bh (l:=(Bc o1.d o1.b).out) (i:=0) Q45),fun x1 hx1=>?_⟩
 refine⟨Q45,Q28,hx1,(Vo (Bc o1.d o1.b).d Q53 Q58),(sB ?_),rfl⟩
 rotate_left
 refine⟨(Vo (Bc o1.d o1.b).d Q53 Q58),(sB ?_),rfl⟩
 rotate_left
 have hl2:=Aiq (b:=o1.b) q2 p3 p5
 have hlb:=Ans o1.d
 refine⟨(Vo (Bc o1.d o1.b).d Q53 Q58),(Vo o1.d Q68 Q70),(Ae Q2 Q2),(sB ?_),rfl⟩
 rotate_left
 all_goals first|(rfl)|((simp[hl2];done))|((rcases hl1 with ⟨ho,hl⟩|⟨e,t,ho,hl⟩;· (rw[ho] at p6;simp at p6);· (rw[ho] at hx1;simp at hx1;subst hx1;simp[hl])))|((rcases hl1 with ⟨ho,hl⟩|⟨e,t,ho,hl⟩;· (simp[hl]);· (rw[ho] at p6;simp at p6;omega)))|((simp_all;done))|(grind)
end Go.Proofs.YtcmnedgnppnhoaaGreat.Ax
