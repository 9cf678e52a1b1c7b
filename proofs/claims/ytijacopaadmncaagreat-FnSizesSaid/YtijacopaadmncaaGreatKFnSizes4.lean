/- Models: frames are read as they are written. The law FnSizes. -/
import Derived.Test.YtijacopaadmncaaGreatKFnSizes3
import Derived.Test.YtijacopaadmncaaGreatKFnSizes2
import Derived.Test.YtijacopaadmncaaGreatKS3
set_option linter.unusedSimpArgs false
set_option linter.unusedVariables false
namespace Go.Proofs.YtijacopaadmncaaGreat.Ax
open Go.RowKit
theorem Aik {p:Pln} {l:List Ev} (h:(Bk p l).1=0) (hv:EvsB l) (hm:(B8 p l).length≤2000):
  ∃e0 b u,l=e0::(b++[u])∧e0.kind=1∧u.kind=8∧Bd p p.root b∧B8 p l=mT p p.root b∧
   mk (Bi ⟨p.shapes,p.root,p.deep,2000⟩ (A1 (B8 p l)))=(1,((B8 p l).length:Int))::mkS b (sT p p.root b):=by
 obtain ⟨hp,e0,b,u,hl,hb,hu,he0⟩:=Amf h
 have hpt:=C6 hp
 have hp2:B3 ⟨p.shapes,p.root,p.deep,2000⟩=true:=by
  simp only[B3,Bool.and_eq_true] at hp ⊢
  exact⟨hp.1,by decide⟩
 have hvb:EvsB b:=by rw[hl] at hv;exact(hv.cons).left
 have hbody:B8 p l=mT p p.root b:=by
  unfold B8
  rw[if_pos h,hl]
  exact(V3 (.inr hu) _ (Nat.le_refl _) hb.bd).1
 refine⟨e0,b,u,hl,he0,hu,hb.bd,hbody,?_⟩
 rw[hbody] at hm ⊢
 have hfl:(A1 (mT p p.root b)).length=(A9 ((mT p p.root b).length:Int)).length+(mT p p.root b).length:=by unfold A1;rw[List.length_append]
 have hpv:=F9 ((mT p p.root b).length:Int)
 have hp10:=Fm (u:=((mT p p.root b).length:Int)) (by omega)
 have hv0:=Ab6 (s:=A1 (mT p p.root b)) (x:=[]) (y:=mT p p.root b) (u:=((mT p p.root b).length:Int)) (e:=maxI) (by omega) (by omega) rfl (by simp only[List.length_nil];unfold maxI;omega)
 generalize hs:A1 (mT p p.root b)=s at *
 generalize hq:(⟨p.shapes,p.root,p.deep,2000⟩:Pln)=p2 at *
 have hsh:p2.shapes=p.shapes:=by rw[←hq]
 rw[show (([]:List UInt8).length:Int)=0 from rfl,Int.zero_add] at hv0
 have hok:Bf (mr0 p2 s 0) maxI=true:=by unfold Bf mr0;rw[hv0];rfl
 have hu0:Am (mr0 p2 s 0) maxI=((mT p p.root b).length:Int):=by unfold Am;rw[if_pos hok];unfold mr0;rw[hv0]
 have hva:Ad (mr0 p2 s 0) maxI=Gh (mr0 p2 s 0) ((A9 ((mT p p.root b).length:Int)).length:Int):=by rw[Pc hok];unfold mr0;rw[hv0]
 obtain ⟨t,T1,T2⟩:=Arx hp b.length (sh:=p.root) (D:=(p.deep-1).toNat) (r:=Aj (Gh (mr0 p2 s 0) ((A9 ((mT p p.root b).length:Int)).length:Int)) (Cr ((mT p p.root b).length:Int))) (x:=A9 ((mT p p.root b).length:Int)) (y:=[]) (e:=((A9 ((mT p p.root b).length:Int)).length:Int)+((mT p p.root b).length:Int)) (Nat.le_refl _) hb hvb hsh (by show s=_;rw[←hs,List.append_nil];rfl) rfl rfl (by omega) rfl
 have hdp:p2.deep=p.deep∧p2.root=p.root∧p2.most=2000:=by rw[←hq];exact⟨rfl,rfl,rfl⟩
 have hfm:Cs (mr0 p2 s 0)=Zw (Aj (Gh (mr0 p2 s 0) ((A9 ((mT p p.root b).length:Int)).length:Int)) (Cr ((mT p p.root b).length:Int))) (((A9 ((mT p p.root b).length:Int)).length:Int)+((mT p p.root b).length:Int)) t:=by
  unfold Cs
  rw[hva,hu0,show (mr0 p2 s 0).plan=p2 from rfl,hdp.1,hdp.2.1]
  exact T1
 have hfs:frmStep (mr0 p2 s 0)=Aj (Cs (mr0 p2 s 0)) frameEndEv:=by
  unfold frmStep
  rw[if_neg (by rw[hok];decide),if_neg (by rw[hu0];show¬p2.most<_;rw[hdp.2.2];omega),if_pos (by rw[hfm];rfl)]
 have hw0:WInv (wh0 p2 s) (wh0 p2 s):=WInv.refl
 have hnx:=hw0.next (x:=Du (wh0 p2 s)) (by show (0:Int)<_;omega) rfl rfl
 have hwr:(Du (wh0 p2 s)).r=Aj (Cs (mr0 p2 s 0)) frameEndEv:=hfs
 have hwh:Ef p2 s=Du (wh0 p2 s):=hnx.1.end_ (by rw[hwr,hfm];show¬((A9 ((mT p p.root b).length:Int)).length:Int)+((mT p p.root b).length:Int)<(s.length:Int);omega)
 have hwl:Bi p2 s=Cu p2 s:=by unfold Bi;rw[if_pos ⟨hp2,by omega⟩]
 rw[hwl]
 unfold Cu
 rw[hwh,hwr,hfm]
 rw[if_pos (show (Aj (Zw (Aj (Gh (mr0 p2 s 0) ((A9 ((mT p p.root b).length:Int)).length:Int)) (Cr ((mT p p.root b).length:Int))) (((A9 ((mT p p.root b).length:Int)).length:Int)+((mT p p.root b).length:Int)) t) frameEndEv).fail.kind=0 from rfl)]
 show mk (((([]++[Cr ((mT p p.root b).length:Int)])++t)++[frameEndEv])++[Uk (s.length:Int)])=_
 rw[Wp,Wp,Wp,T2,show mk [frameEndEv]=[] from rfl,show mk [Uk (s.length:Int)]=[] from rfl,List.append_nil,List.append_nil]
 rfl
theorem Amj {l:List Ev} {i:Nat} {e:Ev} (h:l[i]? =some e):mk (l.drop i)=if Ag4 e.kind then (e.kind,e.len)::mk (l.drop (i+1)) else mk (l.drop (i+1)):=by rw[C5 h,mk]
theorem Ag5 {l:List Ev} {n:List Int} {i:Nat} {e:Ev} {x:Int} (h:l[i]? =some e) (hx:n[i]? =some x):mkS (l.drop i) (n.drop i)=if Ag4 e.kind then (e.kind,x)::mkS (l.drop (i+1)) (n.drop (i+1)) else mkS (l.drop (i+1)) (n.drop (i+1)):=by rw[C5 h,C5 hx,mkS]
theorem wholeL_len {p:Pln} {s:List UInt8} :(Bi p s).length≤16001:=by unfold Bi;split;exact Nd (by omega);simp
theorem Auq {l W:List Ev} {n:List Int} {i k:Nat} {e:Ev} (h:mk (W.drop k)=mkS (l.drop i) (n.drop i)) (hx:l[i]? =some e) (hn:n.length=l.length) (hm:Ag4 e.kind=true):mk (W.drop k)=(e.kind,n.getD i 0)::mkS (l.drop (i+1)) (n.drop (i+1)):=by
 have hi:=(List.getElem?_eq_some_iff.1 hx).1
 have hg:n[i]? =some (n.getD i 0):=by rw[List.getD_eq_getElem?_getD,List.getElem?_eq_getElem (by omega)];rfl
 rw[h,Ag5 hx hg,if_pos hm]
theorem Atr {l W:List Ev} {n:List Int} {i k:Nat} {e:Ev} (h:mk (W.drop k)=mkS (l.drop i) (n.drop i)) (hx:l[i]? =some e) (hn:n.length=l.length) (hm: ¬Ag4 e.kind=true):mk (W.drop k)=mkS (l.drop (i+1)) (n.drop (i+1)):=by
 have hi:=(List.getElem?_eq_some_iff.1 hx).1
 have hg:n[i]? =some (n.getD i 0):=by rw[List.getD_eq_getElem?_getD,List.getElem?_eq_getElem (by omega)];rfl
 rw[h,Ag5 hx hg,if_neg hm]
theorem Ary {W:List Ev} {k:Nat} {e:Ev} {c v:Int} {r:List (Int×Int)} (h:mk (W.drop k)=(c,v)::r) (hx:W[k]? =some e) (hne:e.kind≠c):mk (W.drop (k+1))=(c,v)::r:=by
 rw[Amj hx] at h
 split at h
 ·injection h with h1 h2;injection h1 with h3 h4;exact absurd h3 hne
 ·exact h
theorem Ats {W:List Ev} {k:Nat} {c v:Int} {r:List (Int×Int)} (h:mk (W.drop k)=(c,v)::r) (hk: ¬((k:Nat):Int)<((W.length:Nat):Int)):False:=by
 rw[List.drop_eq_nil_of_le (by omega)] at h;cases h
theorem Aa5 {W:List Ev} {k:Nat} {e:Ev} {c v:Int} {r:List (Int×Int)} (h:mk (W.drop k)=(c,v)::r) (hx:W[k]? =some e) (he:e.kind=c) (hm:Ag4 c=true):e.len=v∧mk (W.drop (k+1))=r:=by
 rw[Amj hx,he,if_pos hm] at h
 injection h with h1 h2;injection h1 with h3 h4
 exact⟨h4,h2⟩
theorem Y9 {k:Int} (h: ¬(k≠1∧k≠3∧k≠6)):Ag4 k=true:=by
 unfold Ag4;simp only[Bool.or_eq_true,decide_eq_true_eq];omega
theorem Att {k:Int} (h1:k≠1) (h3:k≠3) (h6:k≠6): ¬Ag4 k=true:=by
 unfold Ag4;simp only[Bool.or_eq_true,decide_eq_true_eq];omega
theorem Afj {p:Pln} {l:List Ev} (h:(Bk p l).1=0) (hv:EvsB l) (hm:(B8 p l).length≤2000):mk (Bi ⟨p.shapes,p.root,p.deep,2000⟩ (A1 (B8 p l)))=mkS l (Cn p l):=by
 obtain ⟨e0,b,u,hl,he,hu,hb,hbo,ht⟩:=Aik h hv hm
 rw[ht,St h]
 have hc:List.drop 1 (List.take (Int.toNat ((l.length:Int)-1)) l)=b:=by rw[Rr,hl];simp
 rw[hc,hl,mkS,if_pos (by rw[he];rfl),he,Afi _ _ _ _ (S7 _ (Nat.le_refl _) hb)]
 have:mkS [u] [-1]=[]:=by rw[mkS,if_neg (by rw[hu];decide)];rfl
 rw[this,List.append_nil]
theorem Aim {p:Pln} {l:List Ev} (h:(Bk p l).1=0):(Cn p l).length=l.length∧(Cn p l)[0]? =some ((B8 p l).length:Int):=by
 obtain ⟨hp,e,b,u,hl,hb,hu⟩:=Xe h
 have hc:List.drop 1 (List.take (Int.toNat ((l.length:Int)-1)) l)=b:=by rw[Rr,hl];simp
 rw[St h,hc]
 refine⟨?_,rfl⟩
 rw[List.length_cons,List.length_append,S7 _ (Nat.le_refl _) hb,hl];simp
theorem Ain {p:Pln} {l:List Ev} (h:(Bk p l).1≠0):Cn p l=[]∧B8 p l=[]:=by
 unfold Cn B8;rw[if_neg h,if_neg h];exact⟨rfl,rfl⟩
theorem Aa6 {n:List Int} {i:Nat} {x:Int} (h:n[i]? =some x):n.getD i 0=x:=N0 h
structure Ky where
 i:Nat
def Kz (l:List Int):Fam:=⟨Ky,fun q1=>[(0,.v (.c (.seq .int l))),(1,.v (.c (.seq .int l))),(5,.v (vI ((q1.i:Nat):Int)))],fun _=>[],fun q1=>q1.i≤List.length l,fun q1=>List.length l-q1.i⟩
theorem Aio (l:List Int) (hp1:List.length l≤Ba):Fun Tryz.prog 13 [.c (.seq .int l),.c (.seq .int l)] [] (.v (vB true)) []:=by
 have hN:Ba=274877906944:=rfl
 refine Av Tryz.func13 Q8 Q8 (w:=let z3:=((List.length l:Nat):Int);let z4:=Kz l;(.seg [.br false,.at 0,.keep [0,1,5],.sel []] (.loop z4 fun q1=> .br (.intro (Sx (l[q1.i]?)) fun x1=> .seg [.ord (os 9 []) [],.el .int x1,.el .int x1,.br false,.as 16 (.v (vI (((q1.i:Nat):Int)+1))),.at 0,.keep [0,1,5],.sel []] (.next)) (.leaf () [])),((!decide (z3=z3))=false)∧z4.Has [(0,.v (.c (.seq .int l))),(1,.v (.c (.seq .int l))),(5,.v (vI 0))] []∧∀q1,z4.inv q1→(let z2:=((q1.i:Nat):Int);Bc (decide (z2<z3)) (El (l[q1.i]?) fun x1=>(let z1:=l[q1.i]? =some x1;z1∧((0:Int)≤z2)∧z1∧((0:Int)≤z2)∧z1∧((0:Int)≤z2)∧z1∧((0:Int)≤z2)∧((!decide (x1=x1))=false)∧(wI (z2+1))∧z4.Nxt q1 [(0,.v (.c (.seq .int l))),(1,.v (.c (.seq .int l))),(5,.v (vI (z2+1)))] [])) (Lf (.v (vB true)) (.v (vB true)) [] [])))) Q8 ?_
 refine⟨(by simp),Bv (j:=(⟨0⟩:Ky)) Q12 rfl (by dsimp only[Kz];omega),fun (q1:Ky) hq_q1=>?_⟩
 have hi_q1:q1.i≤List.length l:=hq_q1
 refine dsp (fun h1 p1=>?_) fun h1 p1=>?_
 refine⟨(A8 (l:=l) (i:=q1.i) Q5),fun x1 hx1=>?_⟩
 exact⟨hx1,Q5,hx1,Q5,hx1,Q5,hx1,Q5,(by simp),(Ac Q5 Q5),Ay (j:=(⟨q1.i+1⟩:Ky)) Q12 rfl (by dsimp only[Kz];omega) (by dsimp only[Kz];omega)⟩
 exact⟨rfl,rfl⟩
structure Fb where
 p:Pln
 l:List Ev
def Rz (code:List Int) (o:Fb):Prop:=Fun Tryz.prog 49 [.c (.seq .u8 code)] [] (.tup [.agg (Cd o.p),vO 0]) [.lst .ev o.l]
def Ma (code:List Int) (o:Fb):Prop:=((Vq o.p)∧(List.length o.l≤962000)∧(D2 o.l≤790000)∧(AllB o.l))∧Rz code o
theorem Ab9 (code:List Int) (hp1:List.length code≤1048576): ∃o:Fb,Ma code o:=by
 have hN:Ba=274877906944:=rfl
 refine Bz Tryz.func49 Q8 Q8 (w:=(.intro (Jh code) fun o1=> .seg [.call [] (.tup [.agg (Cd o1.p),vO 0]) [.lst .ev o1.l]] (.leaf (⟨o1.p,o1.l⟩:Fb) [1]),In (Jh code) fun o1=>((Nq code o1)∧((Vq o1.p)∧(List.length o1.l≤962000)∧(D2 o1.l≤790000)∧(AllB o1.l))∧Lf (.tup [.agg (Cd o1.p),vO 0]) (.tup [.agg (Cd o1.p),vO 0]) [.lst .ev o1.l] [.lst .ev o1.l]))) Q8 ?_
 refine⟨(Y1 code Q5),fun o1 ho_o1=>?_⟩
 obtain ⟨⟨hp_o1_0,hp_o1_1,hp_o1_2,hp_o1_3⟩,hf_o1⟩:=ho_o1
 exact⟨hf_o1,⟨Q79,Q5,Q5,Q54⟩,rfl,rfl⟩
structure D7 where
 k:Nat
 i:Nat
def Kg (o1:Fb):Fam:=⟨D7,fun q1=>[(4,.v (vO 0)),(5,.v (vO 1)),(9,.v (vO 2)),(10,.v (vI ((q1.k:Nat):Int))),(11,.v (vI ((q1.i:Nat):Int)))],fun _=>[.lst .ev o1.l,.lst .int (Cn o1.p o1.l),.lst .ev (Bi (⟨o1.p.shapes,o1.p.root,o1.p.deep,2000⟩:Pln) (A1 (B8 o1.p o1.l)))],fun q1=>q1.i≤List.length o1.l∧q1.k≤List.length (Bi ⟨o1.p.shapes,o1.p.root,o1.p.deep,2000⟩ (A1 (B8 o1.p o1.l)))∧mk (List.drop q1.k (Bi ⟨o1.p.shapes,o1.p.root,o1.p.deep,2000⟩ (A1 (B8 o1.p o1.l))))=mkS (List.drop q1.i o1.l) (List.drop q1.i (Cn o1.p o1.l)),fun q1=>List.length o1.l-q1.i⟩
structure Ek where
 k:Nat
def F5 (o1:Fb) (q1:D7) (x2:Ev):Fam:=⟨Ek,fun q2=>[(4,.v (vO 0)),(5,.v (vO 1)),(9,.v (vO 2)),(10,.v (vI ((q2.k:Nat):Int))),(11,.v (vI ((q1.i:Nat):Int))),(12,.v (vI x2.kind))],fun _=>[.lst .ev o1.l,.lst .int (Cn o1.p o1.l),.lst .ev (Bi (⟨o1.p.shapes,o1.p.root,o1.p.deep,2000⟩:Pln) (A1 (B8 o1.p o1.l)))],fun q2=>q2.k≤List.length (Bi ⟨o1.p.shapes,o1.p.root,o1.p.deep,2000⟩ (A1 (B8 o1.p o1.l)))∧mk (List.drop q2.k (Bi ⟨o1.p.shapes,o1.p.root,o1.p.deep,2000⟩ (A1 (B8 o1.p o1.l))))=(x2.kind,List.getD (Cn o1.p o1.l) q1.i 0)::mkS (List.drop (q1.i+1) o1.l) (List.drop (q1.i+1) (Cn o1.p o1.l)),fun q2=>List.length (Bi ⟨o1.p.shapes,o1.p.root,o1.p.deep,2000⟩ (A1 (B8 o1.p o1.l)))-q2.k⟩
theorem Amk (code:List Int) (hp1:((List.length code:Nat):Int)≤9223372036854775807):Fun Tryz.prog 9 [.c (.seq .u8 code)] [] (.v (vB true)) []:=by
 have hN:Ba=274877906944:=rfl
 refine Av Tryz.func9 Q8 Q8 (w:=let z63:S:= .v (vB true);let z64:=decide (1048576<((List.length code:Nat):Int));let z65:S:= .v (vB false);let z62:=Lf z65 z63 [] [];let z66:=os 16 [];let z67:S:= .v (vO 0);let z68:=(0:Int)≤0;(.seg [.call [] (.v (vB z64)) []] (.br (.leaf () []) (.intro (Ma code) fun o1=>let z50:=Cn o1.p o1.l;let z51:=B8 o1.p o1.l;let z49:=Bi (⟨o1.p.shapes,o1.p.root,o1.p.deep,2000⟩:Pln) (A1 z51);.seg [.call [] (.tup [.agg (Cd o1.p),vO 0]) [.lst .ev o1.l],.call [] z67 [.lst .int z50],.call [] z67 [.lst .int z50],.call [] z63 [],.br false,.call [] (.tup [vI (Bk o1.p o1.l).1,vI (Bk o1.p o1.l).2]) []] (.br (.br (.seg [.call [] (.v (vI ((List.length z51:Nat):Int))) []] (.leaf () [])) (.leaf () [])) (.case (!decide (((List.length z50:Nat):Int)=((List.length o1.l:Nat):Int))) (.seg [.ord (os 14 [11]) [],.br true] (.leaf () [])) (.intro (Sx (z50[0]?)) fun x1=> .seg [.ord (os 14 [11]) [],.br false,.el .int x1,.call [] (.v (vI ((List.length z51:Nat):Int))) []] (.br (.leaf () []) (.seg [.call [] (.v (vT z51)) [],.el .int x1] (.br (.seg [.el .int x1] (.leaf () [])) (.br (.seg [.el .int x1] (.leaf () [])) (.seg [.ord (os 5 [2,3]) [],.call [] (.v (vT (A1 z51))) [],.call [] z67 [.lst .ev z49],.at 0,.keep [4,5,9,10,11],.sel [0,2,4]] (.loop (Kg o1) fun q1=>let z40:S:= .v (vI (((q1.i:Nat):Int)+1));let z41:=Sx (z50[q1.i]?);.br (.intro (Sx (o1.l[q1.i]?)) fun x2=>let z37:=F5 o1 q1 x2;.seg [.el .ev x2] (.br (.br (.br (.seg [.as 90 z40,.at 0,.keep [4,5,9,10,11],.sel [0,1,2]] (.next)) (.seg [.at 0,.keep [4,5,9,10,11,12],.sel [0,1,2]] (.loop z37 fun q2=>let z5:=decide (((List.length z49:Nat):Int)≤((q2.k:Nat):Int));let z6:=Sx (z49[q2.k]?);let z7:S:= .v (vI (((q2.k:Nat):Int)+1));.br (.intro z6 fun x3=> .seg [.el .ev x3] (.br (.seg [.as 120 z7,.at 0,.keep [4,5,9,10,11,12],.sel [0,1,2]] (.next)) (.case z5 (.seg [.ord z66 [],.br true] (.leaf () [])) (.intro z41 fun x4=> .seg [.ord z66 [],.br false,.el .ev x3,.el .int x4] (.br (.leaf () []) (.seg [.as 138 z7,.as 90 z40,.at 0,.keep [4,5,9,10,11],.sel [0,1,2]] (.next))))))) (.case z5 (.seg [.ord z66 [],.br true] (.leaf () [])) (.intro z6 fun x3=> .intro z41 fun x4=> .seg [.ord z66 [],.br false,.el .ev x3,.el .int x4] (.br (.leaf () []) (.seg [.as 138 z7,.as 90 z40,.at 0,.keep [4,5,9,10,11],.sel [0,1,2]] (.next)))))))) (.seg [.at 0,.keep [4,5,9,10,11,12],.sel [0,1,2]] (.loop z37 fun q2=>let z17:=decide (((List.length z49:Nat):Int)≤((q2.k:Nat):Int));let z18:=Sx (z49[q2.k]?);let z19:S:= .v (vI (((q2.k:Nat):Int)+1));.br (.intro z18 fun x3=> .seg [.el .ev x3] (.br (.seg [.as 120 z19,.at 0,.keep [4,5,9,10,11,12],.sel [0,1,2]] (.next)) (.case z17 (.seg [.ord z66 [],.br true] (.leaf () [])) (.intro z41 fun x4=> .seg [.ord z66 [],.br false,.el .ev x3,.el .int x4] (.br (.leaf () []) (.seg [.as 138 z19,.as 90 z40,.at 0,.keep [4,5,9,10,11],.sel [0,1,2]] (.next))))))) (.case z17 (.seg [.ord z66 [],.br true] (.leaf () [])) (.intro z18 fun x3=> .intro z41 fun x4=> .seg [.ord z66 [],.br false,.el .ev x3,.el .int x4] (.br (.leaf () []) (.seg [.as 138 z19,.as 90 z40,.at 0,.keep [4,5,9,10,11],.sel [0,1,2]] (.next)))))))) (.seg [.at 0,.keep [4,5,9,10,11,12],.sel [0,1,2]] (.loop z37 fun q2=>let z29:=decide (((List.length z49:Nat):Int)≤((q2.k:Nat):Int));let z30:=Sx (z49[q2.k]?);let z31:S:= .v (vI (((q2.k:Nat):Int)+1));.br (.intro z30 fun x3=> .seg [.el .ev x3] (.br (.seg [.as 120 z31,.at 0,.keep [4,5,9,10,11,12],.sel [0,1,2]] (.next)) (.case z29 (.seg [.ord z66 [],.br true] (.leaf () [])) (.intro z41 fun x4=> .seg [.ord z66 [],.br false,.el .ev x3,.el .int x4] (.br (.leaf () []) (.seg [.as 138 z31,.as 90 z40,.at 0,.keep [4,5,9,10,11],.sel [0,1,2]] (.next))))))) (.case z29 (.seg [.ord z66 [],.br true] (.leaf () [])) (.intro z30 fun x3=> .intro z41 fun x4=> .seg [.ord z66 [],.br false,.el .ev x3,.el .int x4] (.br (.leaf () []) (.seg [.as 138 z31,.as 90 z40,.at 0,.keep [4,5,9,10,11],.sel [0,1,2]] (.next))))))))) (.leaf () [])))))))))))),(Fp 10 [.c (.seq .u8 code)] [] (.v (vB z64)) [])∧Bc z64 (Lf z63 z63 [] []) (In (Ma code) fun o1=>(let z54:=Cn o1.p o1.l;let z57:=B8 o1.p o1.l;let z52:=Bi (⟨o1.p.shapes,o1.p.root,o1.p.deep,2000⟩:Pln) (A1 z57);let z53:List Blk:=[.lst .ev o1.l,.lst .int z54,.lst .ev z52];let z55:=((List.length z57:Nat):Int);let z58:=Kg o1;let z59:=((List.length o1.l:Nat):Int);let z56:= !decide (((List.length z54:Nat):Int)=z59);let z60:=Cd o1.p;let z61:=Bk o1.p o1.l;(Rz code o1)∧(Fp 50 [.agg z60,.c (.seq .ev o1.l)] [] z67 [.lst .int z54])∧(Fp 51 [.agg z60,.c (.seq .ev o1.l)] [] z67 [.lst .int z54])∧(Fp 13 [.c (.seq .int z54),.c (.seq .int z54)] [] z63 [])∧((!true)=false)∧(Fp 52 [.agg z60,.c (.seq .ev o1.l)] [] (.tup [vI z61.1,vI z61.2]) [])∧Bc (!decide (z61.1=0)) (Bc (decide (((List.length z54:Nat):Int)=0)) ((Fp 53 [.agg z60,.c (.seq .ev o1.l)] [] (.v (vI z55)) [])∧Lf (.v (vB (decide (z55=0)))) z63 [] []) z62) (Bc z56 ((z56=true)∧Lf z65 z63 [] []) (El (z54[0]?) fun x1=>(let z47:=z54[0]? =some x1;let z48:=z55=x1;let z46:=(0<((List.length z54:Nat):Int))∧z68∧z47∧Lf (.v (vB (decide z48))) z63 [] [];(z56=false)∧(0<((List.length z54:Nat):Int))∧z68∧(0<((List.length z54:Nat):Int))∧z68∧z47∧z47∧(Fp 53 [.agg z60,.c (.seq .ev o1.l)] [] (.v (vI z55)) [])∧Bc (!decide (x1=z55)) z62 ((Fp 54 [.agg z60,.c (.seq .ev o1.l)] [] (.v (vT z57)) [])∧(0<((List.length z54:Nat):Int))∧z68∧z47∧Bc (!decide z48) z46 (Bc (decide (2000<z55)) z46 ((Fp 55 [vT z57] [] (.v (vT (A1 z57))) [])∧(Fp 25 [.agg [.seq .shp o1.p.shapes,.int .i64 o1.p.root,.int .i64 o1.p.deep,.int .i64 2000],vT (A1 z57)] [] z67 [.lst .ev z52])∧z58.Has [(4,.v (vO 0)),(5,.v (vO 1)),(9,.v (vO 2)),(10,.v (vI 0)),(11,.v (vI 0))] z53∧∀q1,z58.inv q1→(let z43:=((q1.i:Nat):Int);let z42:=z43<((List.length z54:Nat):Int);let z44:=z54[q1.i]?;let z45:=vI ((q1.k:Nat):Int);Bc (decide (z43<z59)) (El (o1.l[q1.i]?) fun x2=>(let z38:=F5 o1 q1 x2;let z39:=vI x2.kind;(z43<z59)∧((0:Int)≤z43)∧(o1.l[q1.i]? =some x2)∧Bc (!decide (x2.kind=1)) (Bc (!decide (x2.kind=3)) (Bc (!decide (x2.kind=6)) ((wI (z43+1))∧z58.Nxt q1 [(4,.v (vO 0)),(5,.v (vO 1)),(9,.v (vO 2)),(10,.v z45),(11,.v (vI (z43+1)))] z53) (z38.Has [(4,.v (vO 0)),(5,.v (vO 1)),(9,.v (vO 2)),(10,.v z45),(11,.v (vI z43)),(12,.v z39)] z53∧∀q2,z38.inv q2→(let z11:=((q2.k:Nat):Int);let z8:=decide (((List.length z52:Nat):Int)≤z11);let z9:=z11<((List.length z52:Nat):Int);let z10:=(wI (z11+1))∧(wI (z43+1))∧z58.Nxt q1 [(4,.v (vO 0)),(5,.v (vO 1)),(9,.v (vO 2)),(10,.v (vI (z11+1))),(11,.v (vI (z43+1)))] z53;let z12:=z52[q2.k]?;Bc (decide z9) (El z12 fun x3=>(let z2:=z52[q2.k]? =some x3;z9∧((0:Int)≤z11)∧z2∧Bc (!decide (x3.kind=x2.kind)) ((wI (z11+1))∧z38.Nxt q2 [(4,.v (vO 0)),(5,.v (vO 1)),(9,.v (vO 2)),(10,.v (vI (z11+1))),(11,.v (vI z43)),(12,.v z39)] z53) (Bc z8 ((z8=true)∧Lf z65 z63 [] []) (El z44 fun x4=>(let z1:=z54[q1.i]? =some x4;(z8=false)∧z9∧((0:Int)≤z11)∧z9∧((0:Int)≤z11)∧z2∧z2∧z42∧((0:Int)≤z43)∧z42∧((0:Int)≤z43)∧z1∧z1∧Bc (!decide (x3.len=x4)) z62 z10))))) (Bc z8 ((z8=true)∧Lf z65 z63 [] []) (El z12 fun x3=>(let z4:=z52[q2.k]? =some x3;El z44 fun x4=>(let z3:=z54[q1.i]? =some x4;(z8=false)∧z9∧((0:Int)≤z11)∧z9∧((0:Int)≤z11)∧z4∧z4∧z42∧((0:Int)≤z43)∧z42∧((0:Int)≤z43)∧z3∧z3∧Bc (!decide (x3.len=x4)) z62 z10))))))) (z38.Has [(4,.v (vO 0)),(5,.v (vO 1)),(9,.v (vO 2)),(10,.v z45),(11,.v (vI z43)),(12,.v z39)] z53∧∀q2,z38.inv q2→(let z23:=((q2.k:Nat):Int);let z20:=decide (((List.length z52:Nat):Int)≤z23);let z21:=z23<((List.length z52:Nat):Int);let z22:=(wI (z23+1))∧(wI (z43+1))∧z58.Nxt q1 [(4,.v (vO 0)),(5,.v (vO 1)),(9,.v (vO 2)),(10,.v (vI (z23+1))),(11,.v (vI (z43+1)))] z53;let z24:=z52[q2.k]?;Bc (decide z21) (El z24 fun x3=>(let z14:=z52[q2.k]? =some x3;z21∧((0:Int)≤z23)∧z14∧Bc (!decide (x3.kind=x2.kind)) ((wI (z23+1))∧z38.Nxt q2 [(4,.v (vO 0)),(5,.v (vO 1)),(9,.v (vO 2)),(10,.v (vI (z23+1))),(11,.v (vI z43)),(12,.v z39)] z53) (Bc z20 ((z20=true)∧Lf z65 z63 [] []) (El z44 fun x4=>(let z13:=z54[q1.i]? =some x4;(z20=false)∧z21∧((0:Int)≤z23)∧z21∧((0:Int)≤z23)∧z14∧z14∧z42∧((0:Int)≤z43)∧z42∧((0:Int)≤z43)∧z13∧z13∧Bc (!decide (x3.len=x4)) z62 z22))))) (Bc z20 ((z20=true)∧Lf z65 z63 [] []) (El z24 fun x3=>(let z16:=z52[q2.k]? =some x3;El z44 fun x4=>(let z15:=z54[q1.i]? =some x4;(z20=false)∧z21∧((0:Int)≤z23)∧z21∧((0:Int)≤z23)∧z16∧z16∧z42∧((0:Int)≤z43)∧z42∧((0:Int)≤z43)∧z15∧z15∧Bc (!decide (x3.len=x4)) z62 z22))))))) (z38.Has [(4,.v (vO 0)),(5,.v (vO 1)),(9,.v (vO 2)),(10,.v z45),(11,.v (vI z43)),(12,.v z39)] z53∧∀q2,z38.inv q2→(let z35:=((q2.k:Nat):Int);let z32:=decide (((List.length z52:Nat):Int)≤z35);let z33:=z35<((List.length z52:Nat):Int);let z34:=(wI (z35+1))∧(wI (z43+1))∧z58.Nxt q1 [(4,.v (vO 0)),(5,.v (vO 1)),(9,.v (vO 2)),(10,.v (vI (z35+1))),(11,.v (vI (z43+1)))] z53;let z36:=z52[q2.k]?;Bc (decide z33) (El z36 fun x3=>(let z26:=z52[q2.k]? =some x3;z33∧((0:Int)≤z35)∧z26∧Bc (!decide (x3.kind=x2.kind)) ((wI (z35+1))∧z38.Nxt q2 [(4,.v (vO 0)),(5,.v (vO 1)),(9,.v (vO 2)),(10,.v (vI (z35+1))),(11,.v (vI z43)),(12,.v z39)] z53) (Bc z32 ((z32=true)∧Lf z65 z63 [] []) (El z44 fun x4=>(let z25:=z54[q1.i]? =some x4;(z32=false)∧z33∧((0:Int)≤z35)∧z33∧((0:Int)≤z35)∧z26∧z26∧z42∧((0:Int)≤z43)∧z42∧((0:Int)≤z43)∧z25∧z25∧Bc (!decide (x3.len=x4)) z62 z34))))) (Bc z32 ((z32=true)∧Lf z65 z63 [] []) (El z36 fun x3=>(let z28:=z52[q2.k]? =some x3;El z44 fun x4=>(let z27:=z54[q1.i]? =some x4;(z32=false)∧z33∧((0:Int)≤z35)∧z33∧((0:Int)≤z35)∧z28∧z28∧z42∧((0:Int)≤z43)∧z42∧((0:Int)≤z43)∧z27∧z27∧Bc (!decide (x3.len=x4)) z62 z34)))))))) (Lf z63 z63 [] [])))))))))))) Q8 ?_
 refine⟨(Akg _ Q5),dsp (fun h1 p1=>?_) fun h1 p1=>?_⟩
 exact⟨rfl,rfl⟩
 refine⟨(Ab9 code Q5),fun o1 ho_o1=>?_⟩
 obtain ⟨⟨hp_o1_0,hp_o1_1,hp_o1_2,hp_o1_3⟩,hf_o1⟩:=ho_o1
 refine⟨hf_o1,(Amb o1.p _ (⟨by omega,by omega,hp_o1_3⟩)),(Amc o1.p _ (⟨by omega,by omega,hp_o1_3⟩)),(Aio _ Q27),Q26,(Tv o1.p _ Q5 (hp_o1_3)),fun h2=>have q2:=Ar h2;have p2:=of_decide_eq_false q2;?_,fun h2=>have q2:=Ao h2;have p2:=of_decide_eq_true q2;?_⟩
 have hsn:=Ain (p:=o1.p) (l:=o1.l) (by omega)
 refine dsp (fun h3 p3=>?_) fun h3 p3=>?_
 refine⟨(Y3 o1.p _ (⟨by omega,by omega,hp_o1_3⟩)),(sB ?_),rfl⟩
 rotate_left
 refine⟨(sB ?_),rfl⟩
 rotate_left
 have hsf:=Aim (p:=o1.p) (l:=o1.l) (by omega)
 have hs1:=hsf.1
 have hsp:=(List.getElem?_eq_some_iff.1 hsf.2).1
 refine⟨fun h3=>have q3:=Ar h3;have p3:=of_decide_eq_false q3;?_,fun h3=>have q3:=Ao h3;have p3:=of_decide_eq_true q3;?_⟩
 refine⟨h3,(sB ?_),rfl⟩
 rotate_left
 refine⟨(A8 (l:=Cn o1.p o1.l) (i:=0) Q27),fun x1 hx1=>?_⟩
 have hz0:=Option.some.inj (hsf.2.symm.trans hx1)
 refine⟨h3,Q27,Q26,Q27,Q26,hx1,hx1,(Y3 o1.p _ (⟨by omega,by omega,hp_o1_3⟩)),fun h4=>have q4:=Ar h4;have p4:=of_decide_eq_false q4;?_,fun h4=>have q4:=Ao h4;have p4:=of_decide_eq_true q4;?_⟩
 refine⟨(sB ?_),rfl⟩
 rotate_left
 refine⟨(Agz o1.p _ (⟨by omega,by omega,hp_o1_3⟩)),Q27,Q26,hx1,fun h5=>have q5:=Ar h5;have p5:=of_decide_eq_false q5;?_,fun h5=>have q5:=Ao h5;have p5:=of_decide_eq_true q5;?_⟩
 refine⟨Q27,Q26,hx1,(sB ?_),rfl⟩
 rotate_left
 refine dsp (fun h6 p6=>?_) fun h6 p6=>?_
 refine⟨Q27,Q26,hx1,(sB ?_),rfl⟩
 rotate_left
 have hsm:=Afj (p:=o1.p) (l:=o1.l) (by omega) ⟨by omega,by omega,hp_o1_3⟩ (by omega)
 refine⟨(Rc _ (by have:=Aie (p:=o1.p) (l:=o1.l) ⟨by omega,by omega,hp_o1_3⟩;omega)),(Vo (⟨o1.p.shapes,o1.p.root,o1.p.deep,2000⟩:Pln) _ (by have:=Lz (b:=B8 o1.p o1.l) Q5;omega)),Bv (j:=(⟨0,0⟩:D7)) Q12 rfl (by dsimp only[Kg];exact⟨by omega,by omega,by simpa using hsm⟩),fun (q1:D7) hq_q1=>?_⟩
 have hi_q1:q1.i≤List.length o1.l∧q1.k≤List.length (Bi ⟨o1.p.shapes,o1.p.root,o1.p.deep,2000⟩ (A1 (B8 o1.p o1.l)))∧mk (List.drop q1.k (Bi ⟨o1.p.shapes,o1.p.root,o1.p.deep,2000⟩ (A1 (B8 o1.p o1.l))))=mkS (List.drop q1.i o1.l) (List.drop q1.i (Cn o1.p o1.l)):=hq_q1
 obtain ⟨v1,v2,v3⟩:=hi_q1
 have hwl:= @wholeL_len ⟨o1.p.shapes,o1.p.root,o1.p.deep,2000⟩ (A1 (B8 o1.p o1.l))
 refine dsp (fun h7 p7=>?_) fun h7 p7=>?_
 refine⟨(A8 (l:=o1.l) (i:=q1.i) Q5),fun x2 hx2=>?_⟩
 refine⟨Q5,Q5,hx2,fun h8=>have q8:=Ar h8;have p8:=of_decide_eq_false q8;?_,fun h8=>have q8:=Ao h8;have p8:=of_decide_eq_true q8;?_⟩
 refine⟨fun h9=>have q9:=Ar h9;have p9:=of_decide_eq_false q9;?_,fun h9=>have q9:=Ao h9;have p9:=of_decide_eq_true q9;?_⟩
 refine⟨fun h10=>have q10:=Ar h10;have p10:=of_decide_eq_false q10;?_,fun h10=>have q10:=Ao h10;have p10:=of_decide_eq_true q10;?_⟩
 exact⟨(Ac Q5 Q5),Ay (j:=(⟨q1.k,q1.i+1⟩:D7)) Q12 rfl Q29 Q78⟩
 refine⟨Bv (j:=(⟨q1.k⟩:Ek)) rfl rfl Q87,fun (q2:Ek) hq_q2=>?_⟩
 have hi_q2:q2.k≤List.length (Bi ⟨o1.p.shapes,o1.p.root,o1.p.deep,2000⟩ (A1 (B8 o1.p o1.l)))∧mk (List.drop q2.k (Bi ⟨o1.p.shapes,o1.p.root,o1.p.deep,2000⟩ (A1 (B8 o1.p o1.l))))=(x2.kind,List.getD (Cn o1.p o1.l) q1.i 0)::mkS (List.drop (q1.i+1) o1.l) (List.drop (q1.i+1) (Cn o1.p o1.l)):=hq_q2
 obtain ⟨w1,w2⟩:=hi_q2
 refine dsp (fun h11 p11=>?_) fun h11 p11=>?_
 refine⟨(A8 (l:=Bi (⟨o1.p.shapes,o1.p.root,o1.p.deep,2000⟩:Pln) (A1 (B8 o1.p o1.l))) (i:=q2.k) Q21),fun x3 hx3=>?_⟩
 refine⟨Q21,Q5,hx3,fun h12=>have q12:=Ar h12;have p12:=of_decide_eq_false q12;?_,fun h12=>have q12:=Ao h12;have p12:=of_decide_eq_true q12;?_⟩
 exact⟨(Ac Q5 Q5),Ay (j:=(⟨q2.k+1⟩:Ek)) Q12 rfl Q91 (by dsimp only[F5];omega)⟩
 refine dsp (fun h13 p13=>?_) fun h13 p13=>?_
 refine⟨h13,(sB ?_),rfl⟩
 rotate_left
 refine⟨(A8 (l:=Cn o1.p o1.l) (i:=q1.i) Q27),fun x4 hx4=>?_⟩
 have hmh:=Aa5 w2 hx3 (by omega) (Y9 (by omega))
 have hge:=Aa6 hx4
 have hme:=hmh.1
 refine⟨h13,Q21,Q5,Q21,Q5,hx3,hx3,Q27,Q5,Q27,Q5,hx4,hx4,fun h14=>have q14:=Ar h14;have p14:=of_decide_eq_false q14;?_,fun h14=>have q14:=Ao h14;have p14:=of_decide_eq_true q14;?_⟩
 refine⟨(sB ?_),rfl⟩
 rotate_left
 exact⟨(Ac Q5 Q5),(Ac Q5 Q5),Ay (j:=(⟨q2.k+1,q1.i+1⟩:D7)) Q12 rfl Q29 Q78⟩
 refine dsp (fun h12 p12=>?_) fun h12 p12=>?_
 refine⟨h12,(sB ?_),rfl⟩
 rotate_left
 refine⟨(A8 (l:=Bi (⟨o1.p.shapes,o1.p.root,o1.p.deep,2000⟩:Pln) (A1 (B8 o1.p o1.l))) (i:=q2.k) Q21),fun x3 hx3=>?_⟩
 refine⟨(A8 (l:=Cn o1.p o1.l) (i:=q1.i) Q27),fun x4 hx4=>?_⟩
 have hmh:=Aa5 w2 hx3 (by omega) (Y9 (by omega))
 have hge:=Aa6 hx4
 have hme:=hmh.1
 refine⟨h12,Q21,Q5,Q21,Q5,hx3,hx3,Q27,Q5,Q27,Q5,hx4,hx4,fun h13=>have q13:=Ar h13;have p13:=of_decide_eq_false q13;?_,fun h13=>have q13:=Ao h13;have p13:=of_decide_eq_true q13;?_⟩
 refine⟨(sB ?_),rfl⟩
 rotate_left
 exact⟨(Ac Q5 Q5),(Ac Q5 Q5),Ay (j:=(⟨q2.k+1,q1.i+1⟩:D7)) Q12 rfl Q29 Q78⟩
 refine⟨Bv (j:=(⟨q1.k⟩:Ek)) rfl rfl Q87,fun (q2:Ek) hq_q2=>?_⟩
 have hi_q2:q2.k≤List.length (Bi ⟨o1.p.shapes,o1.p.root,o1.p.deep,2000⟩ (A1 (B8 o1.p o1.l)))∧mk (List.drop q2.k (Bi ⟨o1.p.shapes,o1.p.root,o1.p.deep,2000⟩ (A1 (B8 o1.p o1.l))))=(x2.kind,List.getD (Cn o1.p o1.l) q1.i 0)::mkS (List.drop (q1.i+1) o1.l) (List.drop (q1.i+1) (Cn o1.p o1.l)):=hq_q2
 obtain ⟨w1,w2⟩:=hi_q2
 refine dsp (fun h10 p10=>?_) fun h10 p10=>?_
 refine⟨(A8 (l:=Bi (⟨o1.p.shapes,o1.p.root,o1.p.deep,2000⟩:Pln) (A1 (B8 o1.p o1.l))) (i:=q2.k) Q21),fun x3 hx3=>?_⟩
 refine⟨Q21,Q5,hx3,fun h11=>have q11:=Ar h11;have p11:=of_decide_eq_false q11;?_,fun h11=>have q11:=Ao h11;have p11:=of_decide_eq_true q11;?_⟩
 exact⟨(Ac Q5 Q5),Ay (j:=(⟨q2.k+1⟩:Ek)) Q12 rfl Q91 (by dsimp only[F5];omega)⟩
 refine dsp (fun h12 p12=>?_) fun h12 p12=>?_
 refine⟨h12,(sB ?_),rfl⟩
 rotate_left
 refine⟨(A8 (l:=Cn o1.p o1.l) (i:=q1.i) Q27),fun x4 hx4=>?_⟩
 have hmh:=Aa5 w2 hx3 (by omega) (Y9 (by omega))
 have hge:=Aa6 hx4
 have hme:=hmh.1
 refine⟨h12,Q21,Q5,Q21,Q5,hx3,hx3,Q27,Q5,Q27,Q5,hx4,hx4,fun h13=>have q13:=Ar h13;have p13:=of_decide_eq_false q13;?_,fun h13=>have q13:=Ao h13;have p13:=of_decide_eq_true q13;?_⟩
 refine⟨(sB ?_),rfl⟩
 rotate_left
 exact⟨(Ac Q5 Q5),(Ac Q5 Q5),Ay (j:=(⟨q2.k+1,q1.i+1⟩:D7)) Q12 rfl Q29 Q78⟩
 refine dsp (fun h11 p11=>?_) fun h11 p11=>?_
 refine⟨h11,(sB ?_),rfl⟩
 rotate_left
 refine⟨(A8 (l:=Bi (⟨o1.p.shapes,o1.p.root,o1.p.deep,2000⟩:Pln) (A1 (B8 o1.p o1.l))) (i:=q2.k) Q21),fun x3 hx3=>?_⟩
 refine⟨(A8 (l:=Cn o1.p o1.l) (i:=q1.i) Q27),fun x4 hx4=>?_⟩
 have hmh:=Aa5 w2 hx3 (by omega) (Y9 (by omega))
 have hge:=Aa6 hx4
 have hme:=hmh.1
 refine⟨h11,Q21,Q5,Q21,Q5,hx3,hx3,Q27,Q5,Q27,Q5,hx4,hx4,fun h12=>have q12:=Ar h12;have p12:=of_decide_eq_false q12;?_,fun h12=>have q12:=Ao h12;have p12:=of_decide_eq_true q12;?_⟩
 refine⟨(sB ?_),rfl⟩
 rotate_left
 exact⟨(Ac Q5 Q5),(Ac Q5 Q5),Ay (j:=(⟨q2.k+1,q1.i+1⟩:D7)) Q12 rfl Q29 Q78⟩
 refine⟨Bv (j:=(⟨q1.k⟩:Ek)) rfl rfl Q87,fun (q2:Ek) hq_q2=>?_⟩
 have hi_q2:q2.k≤List.length (Bi ⟨o1.p.shapes,o1.p.root,o1.p.deep,2000⟩ (A1 (B8 o1.p o1.l)))∧mk (List.drop q2.k (Bi ⟨o1.p.shapes,o1.p.root,o1.p.deep,2000⟩ (A1 (B8 o1.p o1.l))))=(x2.kind,List.getD (Cn o1.p o1.l) q1.i 0)::mkS (List.drop (q1.i+1) o1.l) (List.drop (q1.i+1) (Cn o1.p o1.l)):=hq_q2
 obtain ⟨w1,w2⟩:=hi_q2
 refine dsp (fun h9 p9=>?_) fun h9 p9=>?_
 refine⟨(A8 (l:=Bi (⟨o1.p.shapes,o1.p.root,o1.p.deep,2000⟩:Pln) (A1 (B8 o1.p o1.l))) (i:=q2.k) Q21),fun x3 hx3=>?_⟩
 refine⟨Q21,Q5,hx3,fun h10=>have q10:=Ar h10;have p10:=of_decide_eq_false q10;?_,fun h10=>have q10:=Ao h10;have p10:=of_decide_eq_true q10;?_⟩
 exact⟨(Ac Q5 Q5),Ay (j:=(⟨q2.k+1⟩:Ek)) Q12 rfl Q91 (by dsimp only[F5];omega)⟩
 refine dsp (fun h11 p11=>?_) fun h11 p11=>?_
 refine⟨h11,(sB ?_),rfl⟩
 rotate_left
 refine⟨(A8 (l:=Cn o1.p o1.l) (i:=q1.i) Q27),fun x4 hx4=>?_⟩
 have hmh:=Aa5 w2 hx3 (by omega) (Y9 (by omega))
 have hge:=Aa6 hx4
 have hme:=hmh.1
 refine⟨h11,Q21,Q5,Q21,Q5,hx3,hx3,Q27,Q5,Q27,Q5,hx4,hx4,fun h12=>have q12:=Ar h12;have p12:=of_decide_eq_false q12;?_,fun h12=>have q12:=Ao h12;have p12:=of_decide_eq_true q12;?_⟩
 refine⟨(sB ?_),rfl⟩
 rotate_left
 exact⟨(Ac Q5 Q5),(Ac Q5 Q5),Ay (j:=(⟨q2.k+1,q1.i+1⟩:D7)) Q12 rfl Q29 Q78⟩
 refine dsp (fun h10 p10=>?_) fun h10 p10=>?_
 refine⟨h10,(sB ?_),rfl⟩
 rotate_left
 refine⟨(A8 (l:=Bi (⟨o1.p.shapes,o1.p.root,o1.p.deep,2000⟩:Pln) (A1 (B8 o1.p o1.l))) (i:=q2.k) Q21),fun x3 hx3=>?_⟩
 refine⟨(A8 (l:=Cn o1.p o1.l) (i:=q1.i) Q27),fun x4 hx4=>?_⟩
 have hmh:=Aa5 w2 hx3 (by omega) (Y9 (by omega))
 have hge:=Aa6 hx4
 have hme:=hmh.1
 refine⟨h10,Q21,Q5,Q21,Q5,hx3,hx3,Q27,Q5,Q27,Q5,hx4,hx4,fun h11=>have q11:=Ar h11;have p11:=of_decide_eq_false q11;?_,fun h11=>have q11:=Ao h11;have p11:=of_decide_eq_true q11;?_⟩
 refine⟨(sB ?_),rfl⟩
 rotate_left
 exact⟨(Ac Q5 Q5),(Ac Q5 Q5),Ay (j:=(⟨q2.k+1,q1.i+1⟩:D7)) Q12 rfl Q29 Q78⟩
 exact⟨rfl,rfl⟩
 all_goals first|(rfl)|((simp[hsn.1,hsn.2];done))|((simp[hsf.1];done))|((exfalso;exact Ats w2 (by assumption)))|((exfalso;omega))|((exact decide_eq_true (by omega)))|((simp;omega))|(grind)
end Go.Proofs.YtijacopaadmncaaGreat.Ax
