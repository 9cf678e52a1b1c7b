/- Models: told events are valid. The law FnStepRight. -/
import Derived.Test.YtcmnedgnppnhoaaGreatKS9
import Derived.Test.YtcmnedgnppnhoaaGreatKS6
set_option linter.unusedSimpArgs false
set_option linter.unusedVariables false
namespace Go.Proofs.YtcmnedgnppnhoaaGreat.Ax
open Go.RowKit
def EO (o:List Ev):Prop:= ∀e∈o,Dc e=true
theorem EO.nil:EO []:=fun e h=>by cases h
theorem EO.snoc {o:List Ev} {e:Ev} (h:EO o) (he:Dc e=true):EO (o++[e]):=by
 intro x hx
 rcases List.mem_append.1 hx with hx|hx
 ·exact h x hx
 ·rw[List.mem_singleton.1 hx];exact he
theorem Air {c a:Int} (hc:1≤c) (ha:0≤a):Dc (A2 c a)=true:=by simp[Dc,F9,Am,K3,Df,A2,De,hc,ha]
theorem EO.failed {m:Mac} {c a:Int} (h:EO m.out) (hc:1≤c) (ha:0≤a):EO (A1 m c a).out:=h.snoc (Air hc ha)
theorem Ako {m q:Mac} (h:Az m=some q) (ho:EO m.out) (ha:0≤m.d.at_):EO q.out∧q.d.at_=m.d.at_:=by
 unfold Az at h
 split at h
 ·split at h
  ·cases h;exact⟨ho.failed (by omega) ha,rfl⟩
  ·cases h;exact⟨ho.snoc (by decide),rfl⟩
 ·split at h
  ·cases h;exact⟨ho,rfl⟩
  ·split at h
   ·split at h
    ·cases h;exact⟨ho.snoc (by decide),rfl⟩
    ·cases h;exact⟨ho.snoc (by decide),rfl⟩
   ·cases h
theorem Ais: ∀(k:Nat) (m:Mac),wM m≤k→EO m.out→0≤m.d.at_→EO (Ad m).out:=by
 intro k
 induction k with
 |zero=>
  intro m hk ho ha
  cases hc:Az m with
  |none=>rw[Br hc];exact ho
  |some q=>have:=(Bz hc).1;omega
 |succ k ih=>
  intro m hk ho ha
  cases hc:Az m with
  |none=>rw[Br hc];exact ho
  |some q=>
   have h1:=Ako hc ho ha
   rw[Ca hc]
   exact ih q (by have:=(Bz hc).1;omega) h1.1 (by rw[h1.2];exact ha)
theorem EO.settled {m:Mac} (h:EO m.out) (ha:0≤m.d.at_):EO (Ad m).out:=Ais _ m (Nat.le_refl _) h ha
theorem T8 {l:List Shp} {f:Fld} (hl:Dm l=true): ∀k:Nat,E8 l f k=true→1≤f.number∧f.number≤536870911
 |0,h=>by simp[E8] at h
 |k+1,h=>by
  rw[E8,Bool.or_eq_true] at h
  rcases h with h|h
  ·first|exact T8 hl k h|(have hf:=V9 (Qh hl (of_decide_eq_true h)).1;exact⟨hf.1,hf.2.1⟩)
  ·first|(have hf:=V9 (Qh hl (of_decide_eq_true h)).1;exact⟨hf.1,hf.2.1⟩)|exact T8 hl k h
structure Evs (m:Mac):Prop where
 out:EO m.out
 at_:0≤m.d.at_
 st:0≤m.d.start
 pl:Ez m.d.plan=true
 fl:m.d.field=fld0∨known m.d.plan.shapes m.d.field=true
theorem Evs.num {m:Mac} (h:Evs m) (hf:m.d.field≠fld0):1≤m.d.field.number∧m.d.field.number≤536870911:=
 T8 (B8 h.pl).2.1 _ (h.fl.resolve_left hf)
theorem Akp {m:Mac} {u:Int} (h:Evs m) (hu:0≤u):EO (Ce m u).out:=by
 unfold Ce;split
 ·exact h.out.failed (by omega) h.st
 ·exact EO.settled (h.out.snoc (by simp[Dc,F9,Am,K3,Df,Xk,De,hu])) h.at_
theorem Ao5 {m:Mac} {u:Int} (h:Evs m):EO (D2 m u).out:=by
 unfold D2;split
 ·exact h.out.failed (by omega) h.st
 split
 ·exact h.out.failed (by omega) h.st
 split
 ·exact h.out.failed (by omega) h.st
 split
 ·exact EO.failed (m:=⟨_,m.out⟩) h.out (by omega) h.at_
 ·exact h.out
theorem Ant {m:Mac} {u:Int} (h:Evs m) (hu:0≤u):EO (Cd m u).out:=by
 unfold Cd;split
 ·exact h.out.failed (by omega) h.st
 split
 ·exact EO.settled h.out h.at_
 rename_i hf
 have hn:=h.num hf
 split
 ·split
  ·exact h.out.failed (by omega) h.st
  ·exact EO.settled (h.out.snoc (by simp[Dc,F9,Am,K3,Df,Y9,De,hu,hn])) h.at_
 split
 ·exact EO.settled (h.out.snoc (by simp[Dc,F9,Am,K3,Df,Za,De,hu,hn])) h.at_
 split
 ·exact h.out.failed (by omega) h.at_
 ·exact EO.settled h.out h.at_
theorem Zw {m:Mac} {u:Int} (h:Evs m):EO (Bm m u).out:=by
 unfold Bm
 dsimp only
 split
 ·exact h.out
 ·rename_i hf
  have hn:=h.num hf
  exact h.out.snoc (by simp[Dc,F9,Am,K3,Df,E0,De,hn])
theorem Ao6 {m:Mac} {b a:Int} (h:Evs m) (ha:0≤a) (hb:0≤m.d.scan.bits) (hb2:0≤b):EO (Bp m b a).out:=by
 have hs:0≤(Dj m.d a).start:=by unfold Dj;dsimp only;split;exact ha;exact h.st
 have hsc:0≤(Af m.d.scan b).1.bits:=by
  unfold Af;split
  ·exact hb
  ·dsimp only
   have h1:0≤b % 128:=by omega
   have h2:(0:Int)≤2 ^ (7*m.d.scan.have_.toNat):=Int.le_of_lt (Int.pow_pos (by decide))
   have:=Int.mul_nonneg h1 h2
   omega
 have hE: ∀s:Scn,Evs ⟨D3 (Dj m.d a) s,m.out⟩:=fun s=>⟨h.out,h.at_,hs,h.pl,h.fl⟩
 unfold Bp;split
 ·exact EO.failed (m:=⟨Dj m.d a,m.out⟩) h.out (by omega) ha
 split
 ·unfold St;split
  ·exact EO.failed (m:=⟨D3 (Dj m.d a) (Af m.d.scan b).1,m.out⟩) h.out (by omega) h.at_
  ·exact h.out
 split
 ·exact Akp (hE _) hsc
 split
 ·exact Ao5 (hE _)
 split
 ·exact Ant (hE _) hsc
 ·exact EO.settled (Zw (hE _)) h.at_
theorem Ao7 {m:Mac} {b:Int} (h:Evs m):EO (C7 m b).out:=by
 have hE: ∀s:Scn,Evs ⟨D3 m.d s,m.out⟩:=fun s=>⟨h.out,h.at_,h.st,h.pl,h.fl⟩
 unfold C7;split
 ·exact h.out
 split
 ·exact EO.failed (Zw (hE _)) (by omega) h.at_
 ·exact EO.settled (Zw (hE _)) h.at_
theorem Anu {m:Mac} {b:Int} (h:Evs m) (h1:1≤m.d.at_):EO (Dy m b).out:=by
 have hp:Dc (Rv b)=true:=by simp[Dc,F9,Am,K3,Df,Rv,De]
 unfold Dy;split
 ·split
  ·exact h.out.failed (by omega) (by omega)
  ·exact EO.settled (m:=⟨Ak6 m.d _,m.out++[Rv b]⟩) (h.out.snoc hp) h.at_
 ·exact EO.settled (m:=⟨m.d,m.out++[Rv b]⟩) (h.out.snoc hp) h.at_
theorem Akq {d:Dcd} {b:Int} :EO (Bc d b).out:=by
 unfold Bc;split
 ·rename_i h
  have hb:=Hf h.1
  have hbits:=Mc h.1
  have hw:=As h.2.2
  have hE:Evs ⟨Ci d,[]⟩:=⟨EO.nil,by show 0≤d.at_+1;omega,by show 0≤d.start;omega,(By hb.1).1,hb.2.2.2.2.2.2.1⟩
  unfold Dn;split
  ·exact Anu hE (by show 1≤d.at_+1;omega)
  split
  ·exact EO.settled (m:=⟨Ci d,[]⟩) EO.nil (by show 0≤d.at_+1;omega)
  split
  ·exact Ao7 hE
  ·exact Ao6 hE (by show 0≤d.at_;omega) hbits.1 hw.1
 ·exact EO.nil
theorem Akr {d:Dcd} {b:Int} (h:B9 d=false):(Bc d b).d=d∧(Bc d b).out=[]:=by rw[Zn (.inl h)];exact⟨rfl,rfl⟩
theorem Ait (d:Dcd):Bq d≤8:=by
 unfold Bq Ay
 repeat' split
 all_goals omega
theorem Afq {d:Dcd} (h:B9 d=true):0≤d.scan.have_∧d.scan.have_≤9:=by
 have hb:=Hf h
 have hs:=hb.2.2.2.2.2.2.2.2.2.2.2
 have hbits:=Mc h
 have hwd:=Ait d
 unfold Kj at hs
 repeat' split at hs
 all_goals first|(have hz:=of_decide_eq_true hs;rw[hz];exact⟨by decide,by decide⟩)|(have:=Sw hs hbits.1;omega)|(simp only[Am,Bool.and_eq_true,decide_eq_true_eq] at hs;omega)
theorem Aiu {d:Dcd} {b:Int} (h:B9 d=true):B9 (Bc d b).d=true∧(0≤(Bc d b).d.scan.have_∧(Bc d b).d.scan.have_≤9)∧((Bc d b).d.stack.length:Int)≤d.plan.deep:=by
 have h1:=Ta (b:=b) h
 refine⟨h1,Afq h1,?_⟩
 have:=(By (Hf h1).1).2.1
 rw[H7.1] at this
 exact this
theorem Yr (d:Dcd):Fun Tryz.prog 23 [.agg (Bt d)] [] (.v (vI (d).scan.have_)) []:=by
 have hN:Bf=274877906944:=rfl
 refine Aq Tryz.func23 Q4 Q4 (w:=(.leaf () [],(.v (vI d.scan.have_):S)= .v (vI (d).scan.have_)∧([]:List Blk)=[])) Q4 ?_
 exact⟨(congrArg S.v (congrArg V.c (congrArg (C.int .i64) (by rfl)))),rfl⟩
structure F5 where
 i:Nat
def E4 (o1:E2):Fam:=⟨F5,fun q1=>[(3,.v (vP 0)),(5,.v (vP 3)),(6,.v (vO 6)),(9,.v (vI ((q1.i:Nat):Int)))],fun _=>[.cells (Ac 1 2 o1.d),.tree o1.d.plan.shapes,.lst .lev o1.d.stack,.cells (Ac 4 5 (Bc o1.d o1.b).d),.tree (Bc o1.d o1.b).d.plan.shapes,.lst .lev (Bc o1.d o1.b).d.stack,.lst .ev (Bc o1.d o1.b).out],fun q1=>q1.i≤List.length (Bc o1.d o1.b).out,fun q1=>List.length (Bc o1.d o1.b).out-q1.i⟩
theorem Zx (code:List Int) (hp1:((List.length code:Nat):Int)≤9223372036854775807):Fun Tryz.prog 4 [.c (.seq .u8 code)] [] (.v (vB true)) []:=by
 have hN:Bf=274877906944:=rfl
 refine Aq Tryz.func4 Q4 Q4 (w:=let z9:=decide (1048576<((List.length code:Nat):Int));let z10:=([]:List Blk);let z11:=(.v (vB false):S);(.seg [.call [] (.v (vB z9)) []] (.br (.leaf () []) (.intro (E3 code) fun o1=>let z3:=Bc o1.d o1.b;.seg [.call [] (.tup [.agg (Ac 0 1 o1.d),vI o1.b]) [.tree o1.d.plan.shapes,.lst .lev o1.d.stack],.call [] (.tup [.agg (Ac 0 1 z3.d),vO 2]) [.tree z3.d.plan.shapes,.lst .lev z3.d.stack,.lst .ev z3.out],.call [] (.tup [.agg (Ac 0 1 z3.d),vO 2]) [.tree z3.d.plan.shapes,.lst .lev z3.d.stack,.lst .ev z3.out],.call [] (.v (vB true)) [],.br false,.call [] (.v (vB (decide (z3.out=z3.out)))) [],.br false,.call [] (.v (vB (B9 o1.d))) []] (.br (.seg [.call [] (.v (vB true)) [],.br true] (.br (.seg [.call [] (.v (vB (B9 o1.d))) []] (.leaf () [])) (.leaf () []))) (.seg [.at 0,.keep [3,5,6,9],.sel [2,0,1,6,3,4,5]] (.loop (E4 o1) fun q1=> .br (.intro (fun (x1:Ev)=>z3.out[q1.i]? =some x1) fun x1=> .seg [.el .ev x1,.call [] (.v (vB (Dc x1))) []] (.br (.leaf () []) (.seg [.as 60 (.v (vI (((q1.i:Nat):Int)+1))),.at 0,.keep [3,5,6,9],.sel [0,1,2,3,4,5,6]] (.next)))) (.seg [.call [] (.v (vB (B9 z3.d))) []] (.br (.seg [.call [] (.v (vB (B9 z3.d))) [],.br true,.call [] (.v (vI (z3.d).scan.have_)) []] (.br (.seg [.call [] (.v (vI (z3.d).scan.have_)) []] (.br (.leaf () []) (.leaf () []))) (.leaf () []))) (.leaf () [])))))))),(Fun Tryz.prog 9 [.c (.seq .u8 code)] [] (.v (vB z9)) [])∧(z9=true→(.v (vB true):S)= .v (vB true)∧z10=[])∧(z9=false→In (E3 code) fun o1=>(let z4:=Bc o1.d o1.b;let z5:List Blk:=[.cells (Ac 1 2 o1.d),.tree o1.d.plan.shapes,.lst .lev o1.d.stack,.cells (Ac 4 5 z4.d),.tree z4.d.plan.shapes,.lst .lev z4.d.stack,.lst .ev z4.out];let z6:=B9 o1.d;let z7:=E4 o1;let z8:=Bt o1.d;(Je code o1)∧(Fun Tryz.prog 17 [.agg z8,vI o1.b] [] (.tup [.agg (Ac 0 1 z4.d),vO 2]) [.tree z4.d.plan.shapes,.lst .lev z4.d.stack,.lst .ev z4.out])∧(Fun Tryz.prog 18 [.agg z8,vI o1.b] [] (.tup [.agg (Ac 0 1 z4.d),vO 2]) [.tree z4.d.plan.shapes,.lst .lev z4.d.stack,.lst .ev z4.out])∧(Fun Tryz.prog 19 [.agg (Bt z4.d),.agg (Bt z4.d)] [] (.v (vB true)) [])∧((!true)=false)∧(Fun Tryz.prog 15 [.c (.seq .ev z4.out),.c (.seq .ev z4.out)] [] (.v (vB (decide (z4.out=z4.out)))) [])∧((!(decide (z4.out=z4.out)))=false)∧(Fun Tryz.prog 20 [.agg z8] [] (.v (vB z6)) [])∧((!z6)=true→(Fun Tryz.prog 19 [.agg (Bt z4.d),.agg z8] [] (.v (vB true)) [])∧(true=true)∧((decide (((List.length z4.out:Nat):Int)=0))=true→(Fun Tryz.prog 21 [.agg z8] [] (.v (vB z6)) [])∧(.v (vB (!z6)):S)= .v (vB true)∧z10=[])∧((decide (((List.length z4.out:Nat):Int)=0))=false→z11= .v (vB true)∧z10=[]))∧((!z6)=false→z7.Has [(3,.v (vP 0)),(5,.v (vP 3)),(6,.v (vO 6)),(9,.v (vI 0))] z5∧∀q1,z7.inv q1→(let z2:=((q1.i:Nat):Int);let z1:=z2<((List.length z4.out:Nat):Int);((decide z1)=true→(∃(x1:Ev),z4.out[q1.i]? =some x1)∧∀(x1:Ev),(z4.out[q1.i]? =some x1)→(z1∧((0:Int)≤z2)∧(z4.out[q1.i]? =some x1)∧(Fun Tryz.prog 22 [.agg (cEv x1)] [] (.v (vB (Dc x1))) [])∧((!(Dc x1))=true→z11= .v (vB true)∧z10=[])∧((!(Dc x1))=false→((.v (vI (IntKind.i64.wrap (z2+1))):S)= .v (vI (z2+1)))∧z7.Nxt q1 [(3,.v (vP 0)),(5,.v (vP 3)),(6,.v (vO 6)),(9,.v (vI (z2+1)))] z5)))∧((decide z1)=false→(Fun Tryz.prog 21 [.agg (Bt z4.d)] [] (.v (vB (B9 z4.d))) [])∧((B9 z4.d)=true→(Fun Tryz.prog 20 [.agg (Bt z4.d)] [] (.v (vB (B9 z4.d))) [])∧((B9 z4.d)=true)∧(Fun Tryz.prog 23 [.agg (Bt z4.d)] [] (.v (vI (z4.d).scan.have_)) [])∧((decide (0≤(z4.d).scan.have_))=true→(Fun Tryz.prog 23 [.agg (Bt z4.d)] [] (.v (vI (z4.d).scan.have_)) [])∧((decide ((z4.d).scan.have_≤9))=true→(.v (vB (decide (((List.length z4.d.stack:Nat):Int)≤o1.d.plan.deep))):S)= .v (vB true)∧z10=[])∧((decide ((z4.d).scan.have_≤9))=false→z11= .v (vB true)∧z10=[]))∧((decide (0≤(z4.d).scan.have_))=false→z11= .v (vB true)∧z10=[]))∧((B9 z4.d)=false→z11= .v (vB true)∧z10=[])))))))) Q4 ?_
 refine⟨(Ahr _ Q2),dsp (fun h1 p1=>?_) fun h1 p1=>?_⟩
 exact⟨rfl,rfl⟩
 refine⟨(Ri code Q2),fun o1 ho_o1=>?_⟩
 obtain ⟨hp_o1,hf_o1⟩:=ho_o1
 refine⟨hf_o1,(Ahi o1.d _ Q70 (fun e he=>by have:=(hp_o1).flds e he;omega) Q68 ((hp_o1).bits)),(Tt o1.d _ Q70 (fun e he=>by have:=(hp_o1).flds e he;omega) Q68 ((hp_o1).bits)),(Aa2 (Bc o1.d o1.b).d (Bc o1.d o1.b).d (by first|rfl|exact hbd.1) Q58 (fun e he=>by have:=(Sa (b:=o1.b) hp_o1).flds e he;omega) Q53),Q28,(Wt _ _ Q45 Q45),Q85,(Ze o1.d Q68 Q70),fun h2=>have q2:=Ap h2;?_,fun h2=>have q2:=An h2;?_⟩
 have hbd:=Akr (b:=o1.b) q2
 refine⟨(Aa2 (Bc o1.d o1.b).d o1.d (by first|rfl|exact hbd.1) Q58 (fun e he=>by have:=(Sa (b:=o1.b) hp_o1).flds e he;omega) Q53),Q28,dsp (fun h3 p3=>?_) fun h3 p3=>?_⟩
 refine⟨(Wm o1.d Q68 Q70),(sB ?_),rfl⟩
 rotate_left
 refine⟨(sB ?_),rfl⟩
 rotate_left
 have hgd:=Aiu (b:=o1.b) q2
 refine⟨Bi (j:=(⟨0⟩:F5)) Q10 rfl (by dsimp only[E4];omega),fun (q1:F5) hq_q1=>?_⟩
 have hi_q1:q1.i≤List.length (Bc o1.d o1.b).out:=hq_q1
 have hol:=(H7 (d:=o1.d) (b:=o1.b)).2.2.1
 refine dsp (fun h3 p3=>?_) fun h3 p3=>?_
 refine⟨(Bh (l:=(Bc o1.d o1.b).out) (i:=q1.i) Q45),fun x1 hx1=>?_⟩
 refine⟨Q45,Q2,?_⟩
 have heo:=Akq (d:=o1.d) (b:=o1.b) x1 (List.mem_of_getElem? hx1)
 refine⟨hx1,(Aat x1),fun h4=>have q4:=Ap h4;?_,fun h4=>have q4:=An h4;?_⟩
 refine⟨(sB ?_),rfl⟩
 rotate_left
 exact⟨(Ae Q2 Q2),A5 (j:=(⟨q1.i+1⟩:F5)) Q10 rfl (by dsimp only[E4];omega) (by dsimp only[E4];omega)⟩
 refine⟨(Wm (Bc o1.d o1.b).d Q53 Q58),fun h4=>?_,fun h4=>?_⟩
 refine⟨(Ze (Bc o1.d o1.b).d Q53 Q58),h4,(Yr (Bc o1.d o1.b).d),dsp (fun h5 p5=>?_) fun h5 p5=>?_⟩
 refine⟨(Yr (Bc o1.d o1.b).d),dsp (fun h6 p6=>?_) fun h6 p6=>?_⟩
 refine⟨(sB ?_),rfl⟩
 rotate_left
 refine⟨(sB ?_),rfl⟩
 rotate_left
 refine⟨(sB ?_),rfl⟩
 rotate_left
 refine⟨(sB ?_),rfl⟩
 rotate_left
 all_goals first|(rfl)|((simp_all;done))|(grind)
end Go.Proofs.YtcmnedgnppnhoaaGreat.Ax
