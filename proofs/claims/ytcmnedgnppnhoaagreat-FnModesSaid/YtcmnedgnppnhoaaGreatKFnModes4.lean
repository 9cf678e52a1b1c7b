/- Whole inputs. Whole inputs: the program. The reference: settling. The reference: frames, tags, lengths. The reference: lengths, numbers. -/
import Derived.Test.YtcmnedgnppnhoaaGreatKFnModes3
import Derived.Test.YtcmnedgnppnhoaaGreatKFnModes2
import Derived.Test.YtcmnedgnppnhoaaGreatKS2
set_option linter.unusedSimpArgs false
set_option linter.unusedVariables false
namespace Go.Proofs.YtcmnedgnppnhoaaGreat.Ax
open Go.RowKit
theorem Aoq {d:Dcd} {o:List Ev} {b:Int} (hok:Dr d=true) (h9:d.mode≠9) (hat:d.at_<1000000000) (hb:0≤b∧b≤255):Dr (Et ⟨d,o⟩ b).d=true:=by
 obtain ⟨lv,hm,hat0,hst,hut,hwi,hfl,hen,hsk,hwd,hkd,hsc⟩:=S6 hok
 have hbits:=R7 hok
 have hs:=Wi hok h9
 have hms:=(Wg hok hbits).step hs.1 hs.2.1 hs.2.2.1
 have hw:=Adp hwd
 have hc:Com (Ek d):=⟨hms.lv,(show 0≤d.at_+1∧d.at_+1≤1000000000 by omega),(show 0≤d.start∧d.start≤d.at_+1 by omega),hut,hwi,hfl,hs.2.2.2.2⟩
 have hk:Kc (Ek d)=true:=hkd
 have htp:d.mode≠1→1≤Ef d:=fun h1=>by unfold Lr at hsk;rw[if_neg h1,if_neg h9] at hsk;exact of_decide_eq_true hsk
 have hn:d.mode≠1→0<d.stack.length:=fun h1=>by
  have:=htp h1
  by_cases h0:d.stack.length=0
  ·rw[Aaq (List.eq_nil_of_length_eq_zero h0)] at this;omega
  ·omega
 have hns:d.mode≠1→0<(Ek d).stack.length:=fun h1=>by rw[Ls];exact hn h1
 have ht:d.mode≠1→Ef (Ek d)=Ef d-1:=fun h1=>Ai2 (by have:=hn h1;omega)
 have hwa:(Ek d).want=if d.mode=6∨d.mode=7∨d.mode=8 then d.want-1 else d.want:=rfl
 have hwb:=D5 (Br d.field.kind)
 unfold Et
 simp only
 split
 ·rename_i h6
  have hw1:=hw.1 (by omega)
  rw[if_pos (by omega)] at hwa
  have ht:=ht (by omega)
  refine Aop hc (show 1≤d.at_+1 by omega) h6 ?_ Q2 (hns Q2) ?_
  ·unfold Kc at hkd;rw[if_pos h6] at hkd;exact hkd
  ·unfold Lq B1 at hsc
   rw[if_neg (show¬d.mode=5 by omega),if_neg (show¬d.mode=8 by omega),if_neg (by decide),if_pos (by omega)] at hsc
   exact of_decide_eq_true hsc
 ·split
  ·rename_i h6 h7
   have hw1:=hw.1 (by omega)
   rw[if_pos (by omega)] at hwa
   have ht:=ht (by omega)
   refine G2 ⟨hc,?_,hns Q2,.inr (.inr (.inl ⟨h7,by show 0≤(Ek d).want;omega,by show (Ek d).want≤Ef (Ek d);omega⟩))⟩
   unfold Lq B1 at hsc
   rw[if_neg (show¬d.mode=5 by omega),if_neg (show¬d.mode=8 by omega),if_neg (by decide),if_pos (by omega)] at hsc
   exact of_decide_eq_true hsc
  ·rename_i h6 h7
   split
   ·rename_i h0
    unfold Lq at hsc
    rw[if_pos h0] at hsc
    simp only[Bool.and_eq_true,decide_eq_true_eq] at hsc
    have hh:=Av hsc.1.1
    have hwe:B1 (Ek d)=B1 d:=rfl
    have hmm:d.mode=5∨d.mode=8:=by unfold B1 at h0;split at h0<;>(try split at h0)<;>omega
    have ht:=ht (by omega)
    have hr1:Re d=if d.mode=8 then d.want else Ef d:=rfl
    have hr2:Re (Ek d)=if d.mode=8 then (Ek d).want else Ef (Ek d):=rfl
    refine Ap6 hc (hns Q2) hk hb (by rw[hwe];exact hh) hsc.1.2 ?_ ?_
    ·rw[hwe]
     show B1 d-d.scan.have_-1≤Re (Ek d)
     rcases hmm with h5|h8
     ·rw[if_neg (by omega)] at hr1 hr2;omega
     ·rw[if_pos h8] at hr1 hr2;rw[if_pos (by omega)] at hwa;omega
    ·rcases hmm with h5|h8
     ·rw[if_neg (by omega)] at hwa
      exact .inl ⟨h5,by rw[hwa];exact hw.2 Q2⟩
     ·rw[if_pos (by omega)] at hwa
      have hw1:=hw.1 (by omega)
      exact .inr ⟨h8,by omega,by omega⟩
   ·rename_i h0
    have h5:d.mode≠5:=fun h5=>by
     unfold Kc at hkd
     rw[if_neg (by omega),if_neg (by omega),if_neg (by omega),if_neg (by omega),if_pos h5] at hkd
     simp only[Bool.and_eq_true,decide_eq_true_eq] at hkd
     unfold B1 at h0
     rw[if_pos h5] at h0
     omega
    refine Ap5 hc hbits (show 0≤d.at_∧d.at_≤d.at_+1 by omega) (fun h1=>?_) hns hk ?_
    ·unfold Lr at hsk
     rw[if_pos (show d.mode=1 from h1)] at hsk
     have e:d.stack=[]:=of_decide_eq_true hsk
     exact List.eq_nil_of_length_eq_zero (by rw[Ls,e];rfl)
    ·by_cases h8:d.mode=8
     ·rw[if_pos (by omega)] at hwa
      have hw1:=hw.1 (by omega)
      have ht:=ht (by omega)
      refine .inr ⟨h8,?_,by omega,by omega⟩
      unfold B1 at h0
      rw[if_neg (by omega),if_pos h8] at h0
      show Az (Br d.field.kind)=0
      omega
     ·rw[if_neg (by omega)] at hwa
      exact .inl ⟨(show d.mode=1∨d.mode=2∨d.mode=3∨d.mode=4 by omega),by rw[hwa];exact hw.2 Q2⟩
def Lt (o:List Ev) (m:Mac):Mac:=⟨m.d,o++m.out⟩
theorem Gd (o:List Ev) (m:Mac) (c a:Int):A7 (Lt o m) c a=Lt o (A7 m c a):=by simp[A7,Lt,List.append_assoc]
theorem Zt (o:List Ev) (m:Mac):A9 (Lt o m)=(A9 m).map (Lt o):=by
 have hd:(Lt o m).d=m.d:=rfl
 unfold A9
 rw[hd]
 split
 ·split<;>simp[A7,Lt,List.append_assoc]
 ·split
  ·simp[Lt]
  ·split
   ·split<;>simp[Lt,List.append_assoc]
   ·rfl
theorem Mm (o:List Ev): ∀(m:Mac),Af (Lt o m)=Lt o (Af m):=by
 suffices ∀(k:Nat) (m:Mac),wM m≤k→Af (Lt o m)=Lt o (Af m) from fun m=>this _ m (Nat.le_refl _)
 intro k
 induction k with
 |zero=>
  intro m hk
  have hp:=Zt o m
  cases h:A9 m with
  |none=>rw[Cm h];rw[h] at hp;exact Cm hp
  |some q=>have:=(Cr h).1;omega
 |succ k ih=>
  intro m hk
  have hp:=Zt o m
  cases h:A9 m with
  |none=>rw[Cm h];rw[h] at hp;exact Cm hp
  |some q=>
   rw[h] at hp
   rw[Da h,Da hp]
   exact ih q (by have:=(Cr h).1;omega)
theorem Ft {o:List Ev} {d:Dcd} {p r:List Ev} (h:r=o++p):Af ⟨d,r⟩=Lt o (Af ⟨d,p⟩):=by subst h;exact Mm o ⟨d,p⟩
theorem Age (o:List Ev) (m:Mac) (u:Int):Db (Lt o m) u=Lt o (Db m u):=by
 have hd:(Lt o m).d=m.d:=rfl
 unfold Db
 rw[hd]
 split
 ·exact Gd _ _ _ _
 ·exact Ft (List.append_assoc _ _ _)
theorem Amf (o:List Ev) (m:Mac) (u:Int):Fc (Lt o m) u=Lt o (Fc m u):=by
 have hd:(Lt o m).d=m.d:=rfl
 unfold Fc
 rw[hd]
 split
 ·exact Gd _ _ _ _
 ·split
  ·exact Gd _ _ _ _
  ·split
   ·exact Gd _ _ _ _
   ·split
    ·simp[A7,Lt,List.append_assoc]
    ·rfl
theorem Ai3 (o:List Ev) (m:Mac) (u:Int):Cv (Lt o m) u=Lt o (Cv m u):=by
 have hd:(Lt o m).d=m.d:=rfl
 unfold Cv
 rw[hd]
 split
 ·exact Gd _ _ _ _
 ·split
  ·exact Ft rfl
  ·split
   ·split
    ·exact Gd _ _ _ _
    ·exact Ft (List.append_assoc _ _ _)
   ·split
    ·exact Ft (List.append_assoc _ _ _)
    ·split
     ·exact Gd _ _ _ _
     ·exact Ft rfl
theorem U4 (o:List Ev) (m:Mac) (u:Int):Bz (Lt o m) u=Lt o (Bz m u):=by
 unfold Bz Lt
 simp only
 by_cases h:m.d.field=fld0<;>simp[h,List.append_assoc]
theorem Amg (o:List Ev) (m:Mac) (b a:Int):B0 (Lt o m) b a=Lt o (B0 m b a):=by
 have hd:(Lt o m).d=m.d:=rfl
 have hq: ∀d:Dcd,(⟨d,(Lt o m).out⟩:Mac)=Lt o ⟨d,m.out⟩:=fun _=>rfl
 unfold B0
 simp only[hd,hq]
 split
 ·exact Gd _ _ _ _
 ·split
  ·unfold Aar
   rw[hd]
   split
   ·exact Gd _ _ _ _
   ·rfl
  ·split
   ·exact Age _ _ _
   ·split
    ·exact Amf _ _ _
    ·split
     ·exact Ai3 _ _ _
     ·rw[U4,Mm]
theorem Amh (o:List Ev) (m:Mac) (b:Int):D0 (Lt o m) b=Lt o (D0 m b):=by
 have hd:(Lt o m).d=m.d:=rfl
 have hq: ∀d:Dcd,(⟨d,(Lt o m).out⟩:Mac)=Lt o ⟨d,m.out⟩:=fun _=>rfl
 unfold D0
 simp only[hd,hq]
 split
 ·rfl
 ·split
  ·rw[U4,Gd]
  ·rw[U4,Mm]
theorem Ai4 (o:List Ev) (m:Mac) (b:Int):Fr (Lt o m) b=Lt o (Fr m b):=by
 have hd:(Lt o m).d=m.d:=rfl
 unfold Fr
 rw[hd]
 split
 ·split
  ·exact Gd _ _ _ _
  ·exact Ft (List.append_assoc _ _ _)
 ·exact Ft (List.append_assoc _ _ _)
theorem Ai5 (o:List Ev) (m:Mac) (b:Int):Et (Lt o m) b=Lt o (Et m b):=by
 have hd:(Lt o m).d=m.d:=rfl
 have hq: ∀d:Dcd,(⟨d,(Lt o m).out⟩:Mac)=Lt o ⟨d,m.out⟩:=fun _=>rfl
 unfold Et
 simp only[hd,hq]
 split
 ·exact Ai4 _ _ _
 ·split
  ·exact Mm _ _
  ·split
   ·exact Amh _ _ _
   ·exact Amg _ _ _ _
def Ys (m:Mac) (b:Int):Mac:=⟨(Cf m.d b).d,m.out++(Cf m.d b).out⟩
def Dz (m:Mac) (s:List UInt8):Mac:=s.foldl (fun m b=>Ys m (b.toNat:Int)) m
theorem X2 (m:Mac):Dz m []=m:=rfl
theorem K8 (m:Mac) (b:UInt8) (r:List UInt8):Dz m (b::r)=Dz (Ys m (b.toNat:Int)) r:=List.foldl_cons ..
theorem Agf {d:Dcd} {b:Int} (hok:Dr d=true) (ht:Eg d=true) (hb:0≤b∧b≤255):Cf d b=Et ⟨d,[]⟩ b:=by
 unfold Cf
 rw[if_pos ⟨hok,ht,by simp only[Aq,Bool.and_eq_true,decide_eq_true_eq];exact hb⟩]
theorem Zu {m:Mac} {b:Int} (hok:Dr m.d=true) (ht:Eg m.d=true) (hb:0≤b∧b≤255):Ys m b=Et m b:=by
 have h:=Ai5 m.out ⟨m.d,[]⟩ b
 have e:Lt m.out ⟨m.d,[]⟩=m:=by cases m;simp[Lt]
 rw[e] at h
 unfold Ys
 rw[Agf hok ht hb,h];rfl
theorem Aav {d:Dcd} {b:Int} (h:Dr d=false∨Eg d=false):Cf d b=⟨d,[]⟩:=by
 unfold Cf
 rw[if_neg]
 rintro ⟨h1,h2,-⟩
 rcases h with h|h
 ·rw[h] at h1;cases h1
 ·rw[h] at h2;cases h2
theorem Ae0 {m:Mac} {b:Int} (h:Dr m.d=false∨Eg m.d=false):Ys m b=m:=by
 unfold Ys
 rw[Aav h]
 cases m;simp
theorem Aaw {d:Dcd} (h:Eg d=true):d.mode≠9∧d.at_<1000000000:=by
 simpa only[Eg,Bool.and_eq_true,Bool.not_eq_true',decide_eq_false_iff_not,decide_eq_true_eq] using h
theorem Wn {d:Dcd} {b:Int} (hok:Dr d=true):Dr (Cf d b).d=true:=by
 unfold Cf
 split
 ·rename_i h
  have ht:=Aaw h.2.1
  exact Aoq hok ht.1 ht.2 (Av h.2.2)
 ·exact hok
theorem Acf {m:Mac} (h:Dr m.d=false): ∀s:List UInt8,Dz m s=m
 |[]=>rfl
 |b::r=>by rw[K8,Ae0 (.inl h)];exact Acf h r
theorem Aax {m:Mac} (h:Eg m.d=false): ∀s:List UInt8,Dz m s=m
 |[]=>rfl
 |b::r=>by rw[K8,Ae0 (.inr h)];exact Aax h r
theorem Zv {m:Mac} (h:Eg m.d=false) (s r:List UInt8):Dz m s=Dz m r:=by rw[Aax h,Aax h]
theorem X3 {d:Dcd} {b:Int} :(Cf d b).d.plan=d.plan∧((Cf d b).d.stack.length:Int)≤max (d.stack.length:Int) 8∧(Cf d b).out.length≤14∧((0≤d.scan.bits∧d.scan.bits≤18446744073709551615)→0≤(Cf d b).d.scan.bits∧(Cf d b).d.scan.bits≤18446744073709551615):=by
 cases hok:Dr d with
 |false=>rw[Aav (.inl hok)];exact⟨rfl,by simp only;omega,by simp,fun h=>h⟩
 |true=>
  have h1:=Wn (b:=b) hok
  have h2:=Cb (S6 hok).1
  have h3:=Cb (S6 h1).1
  exact⟨Aga.1,by omega,by have:=Air (d:=d) (b:=b);omega,fun _=>R7 h1⟩
theorem Aq4 (b:UInt8):(0:Int)≤(b.toNat:Int)∧(b.toNat:Int)≤255:=by have:=b.toNat_lt;omega
theorem Zw  :Fun Tryz.prog 91 [] [] (.tup []) []:=by
 have hN:Be=274877906944:=rfl
 refine Ar Tryz.func91 Q4 Q4 (w:=(.leaf () [],(.tup []:S)= .tup []∧([]:List Blk)=[])) Q4 ?_
 exact⟨rfl,rfl⟩
structure Ng where
 m:Mac
 v:Nat
def Nh (m:Mac) (s:List UInt8):Fam:=⟨Ng,fun q1=>[(0,.v (vP 0)),(1,.v (vT s)),(2,.v (.c (.fn 91 []))),(8,.v (vI ((List.length s:Nat):Int))),(9,.v (vI ((q1.v:Nat):Int)))],fun q1=>[.cells (Ab 4 5 6 q1.m),.dead,.dead,.dead,.tree q1.m.d.plan.shapes,.lst .lev q1.m.d.stack,.lst .ev q1.m.out],fun q1=>q1.v≤List.length s∧Dz q1.m (List.drop q1.v s)=Dz m s∧Dr (q1.m).d=true∧List.length (q1.m).out≤List.length m.out+14*q1.v,fun q1=>List.length s-q1.v⟩
theorem Aor (m:Mac) (s:List UInt8) (hp1:Dr (m).d=true) (hp2:List.length (m).out≤1000000) (hp3:List.length s≤1048576):Fun Tryz.prog 90 [vP 0,vT s,.c (.fn 91 [])] [.cells (Ab 1 2 3 m),.tree m.d.plan.shapes,.lst .lev m.d.stack,.lst .ev m.out] (.tup []) [.cells (Ab 4 5 6 (Dz m s)),.dead,.dead,.dead,.tree (Dz m s).d.plan.shapes,.lst .lev (Dz m s).d.stack,.lst .ev (Dz m s).out]:=by
 have hN:Be=274877906944:=rfl
 refine Ar Tryz.func90 Q4 Q4 (w:=let z6:=((List.length s:Nat):Int);let z7:=Nh m s;(.seg [.at 0,.cut 0 0,.cut 0 5,.cut 0 27,.keep [0,1,2,8,9],.sel [0,1,2,3,4,5,6]] (.loop z7 fun q1=> .br (.seg [.call [] (.v (vB (Eg q1.m.d))) []] (.br (.intro (fun (x1:UInt8)=>s[q1.v]? =some x1) fun x1=>let z1:=Et q1.m ((UInt8.toNat x1:Nat):Int);.seg [.ch x1,.as 21 (.v (vI ((UInt8.toNat x1:Nat):Int))),.call [0,4,5,6] (.tup []) [.cells (Ab 4 5 6 z1),.dead,.dead,.dead,.tree z1.d.plan.shapes,.lst .lev z1.d.stack,.lst .ev z1.out],.call [] (.tup []) [],.as 25 (.v (vI (((q1.v:Nat):Int)+1))),.at 0,.keep [0,1,2,8,9],.sel [0,1,2,3,7,8,9]] (.next)) (.seg [.call [] (.tup []) [],.as 25 (.v (vI (((q1.v:Nat):Int)+1))),.at 0,.keep [0,1,2,8,9],.sel [0,1,2,3,4,5,6]] (.next)))) (.leaf () [0,1,2,3,4,5,6])),z7.Has [(0,.v (vP 0)),(1,.v (vT s)),(2,.v (.c (.fn 91 []))),(8,.v (vI z6)),(9,.v (vI 0))] [.cells (Ab 4 5 6 m),.dead,.dead,.dead,.tree m.d.plan.shapes,.lst .lev m.d.stack,.lst .ev m.out]∧∀q1,z7.inv q1→(let z4:=((q1.v:Nat):Int);let z5:List Blk:=[.cells (Ab 4 5 6 q1.m),.dead,.dead,.dead,.tree q1.m.d.plan.shapes,.lst .lev q1.m.d.stack,.lst .ev q1.m.out];((decide (z4<z6))=true→(Fun Tryz.prog 55 [.agg (Cd q1.m.d)] [] (.v (vB (Eg q1.m.d))) [])∧((Eg q1.m.d)=true→(∃(x1:UInt8),s[q1.v]? =some x1)∧∀(x1:UInt8),(s[q1.v]? =some x1)→(let z3:=((UInt8.toNat x1:Nat):Int);let z2:=Et q1.m z3;(s[q1.v]? =some x1)∧((0:Int)≤z4)∧((.v (vI (IntKind.i64.wrap (z3))):S)= .v (vI z3))∧(Fun Tryz.prog 57 [vP 0,vI z3] [.cells (Ab 1 2 3 q1.m),.tree q1.m.d.plan.shapes,.lst .lev q1.m.d.stack,.lst .ev q1.m.out] (.tup []) [.cells (Ab 4 5 6 z2),.dead,.dead,.dead,.tree z2.d.plan.shapes,.lst .lev z2.d.stack,.lst .ev z2.out])∧(Fun Tryz.prog 91 [] [] (.tup []) [])∧((.v (vI (IntKind.i64.wrap (z4+1))):S)= .v (vI (z4+1)))∧z7.Nxt q1 [(0,.v (vP 0)),(1,.v (vT s)),(2,.v (.c (.fn 91 []))),(8,.v (vI z6)),(9,.v (vI (z4+1)))] [.cells (Ab 4 5 6 z2),.dead,.dead,.dead,.tree z2.d.plan.shapes,.lst .lev z2.d.stack,.lst .ev z2.out]))∧((Eg q1.m.d)=false→(Fun Tryz.prog 91 [] [] (.tup []) [])∧((.v (vI (IntKind.i64.wrap (z4+1))):S)= .v (vI (z4+1)))∧z7.Nxt q1 [(0,.v (vP 0)),(1,.v (vT s)),(2,.v (.c (.fn 91 []))),(8,.v (vI z6)),(9,.v (vI (z4+1)))] z5))∧((decide (z4<z6))=false→(.tup []:S)= .tup []∧(z5:List Blk)=[.cells (Ab 4 5 6 (Dz m s)),.dead,.dead,.dead,.tree (Dz m s).d.plan.shapes,.lst .lev (Dz m s).d.stack,.lst .ev (Dz m s).out])))) Q4 ?_
 refine⟨Bs (j:=(⟨m,0⟩:Ng)) Q9 rfl (by dsimp only[Nh];exact⟨by omega,rfl,hp1,by omega⟩),fun (q1:Ng) hq_q1=>?_⟩
 have hi_q1:q1.v≤List.length s∧Dz q1.m (List.drop q1.v s)=Dz m s∧Dr (q1.m).d=true∧List.length (q1.m).out≤List.length m.out+14*q1.v:=hq_q1
 obtain ⟨v1,v2,v3,v4⟩:=hi_q1
 have hbt:=R7 v3
 have hmw:=Wg v3 hbt
 have hlv:=Cb hmw.lv
 have hpt:=By hlv.1
 refine dsp (fun h1 p1=>?_) fun h1 p1=>?_
 refine⟨(Ai0 q1.m.d),fun h2=>?_,fun h2=>?_⟩
 have hta:Eg q1.m.d=true:=h2
 have htk:=Aaw hta
 have hst:=Wi v3 htk.1
 refine⟨(Bq (l:=s) (i:=q1.v) Q2),fun x1 hx1=>?_⟩
 have hb_x1:=UInt8.toNat_lt x1
 rw[Er hx1,K8] at v2
 have hub:=Aq4 x1
 have hsm:=Zu (m:=q1.m) v3 hta hub
 exact⟨hx1,Q2,(Ac Q2 Q2),(Ang q1.m _ (hmw) Q2 Q2 Q2 Q2 (hst.2.2.1)),(Zw),(Ac Q2 Q2),Bc (j:=(⟨(Et q1.m ((UInt8.toNat x1:Nat):Int)),q1.v+1⟩:Ng)) Q9 rfl Q52 (by dsimp only[Nh];omega)⟩
 have hnt:Eg q1.m.d=false:=h2
 exact⟨(Zw),(Ac Q2 Q2),Bc (j:=(⟨q1.m,q1.v+1⟩:Ng)) Q9 rfl Q52 (by dsimp only[Nh];omega)⟩
 rw[List.drop_eq_nil_of_le (by omega),X2] at v2
 refine have hm1:Dz m s=q1.m:=?_;?_
 rotate_left
 exact⟨rfl,Q5⟩
 all_goals first|((rw[←v2];done))|(rfl)|(grind)
theorem Ai6 (d:Dcd) (s:List UInt8) (hp1:List.length (d).plan.shapes≤1048576) (hp2: ∀e∈(d).plan.shapes,List.length e.fields≤1048576) (hp3:List.length (d).stack≤1048576) (hp4:(0:Int)≤(d).scan.bits∧(d).scan.bits≤18446744073709551615) (hp5:List.length s≤1048576):Fun Tryz.prog 26 [.agg (Cd d),vT s] [] (.tup [.agg (Ak 0 1 (Dz ⟨d,[]⟩ s).d),vO 2]) [.tree (Dz ⟨d,[]⟩ s).d.plan.shapes,.lst .lev (Dz ⟨d,[]⟩ s).d.stack,.lst .ev (Dz ⟨d,[]⟩ s).out]:=by
 have hN:Be=274877906944:=rfl
 refine Ar Tryz.func26 Q4 Q4 (w:=let zi:Int→C:= .int .i64;let z1:=Dz (⟨d,([]:List Ev)⟩:Mac) s;let z2:List Blk:=[.cells (Ab 4 5 6 z1),.dead,.dead,.dead,.tree z1.d.plan.shapes,.lst .lev z1.d.stack,.lst .ev z1.out];let z3:=Dz ⟨d,[]⟩ s;(.seg [.call [] (.v (.agg (Ak 0 1 d))) [.tree d.plan.shapes,.lst .lev d.stack],.call [] (.v (vB (Dr d))) []] (.br (.seg [.at 4,.mk 4 27 .ev,.call [4,2,3,5] (.tup []) z2,.ord (os 10 [8]) [1]] (.leaf () [6,7,8])) (.seg [.ord (os 10 [8]) [1],.at 0,.mkS 5 .ev] (.leaf () [2,3,5]))),(Fun Tryz.prog 54 [.agg (Cd d)] [] (.v (.agg (Ak 0 1 d))) [.tree d.plan.shapes,.lst .lev d.stack])∧(Fun Tryz.prog 21 [.agg (Cd d)] [] (.v (vB (Dr d))) [])∧((Dr d)=true→(Fun Tryz.prog 90 [vP 0,vT s,.c (.fn 91 [])] [.cells [.own 1,zi d.plan.root,zi d.plan.deep,zi d.plan.most,zi d.mode,.own 2,.int .u64 d.scan.bits,zi d.scan.have_,zi d.start,zi d.at_,zi d.field.number,zi d.field.kind,.bool d.field.rep,.bool d.field.packed,zi d.field.msg,zi d.wire,zi d.want,zi d.utf.want,zi d.utf.low,zi d.utf.high,zi d.end_.kind,zi d.end_.field,.int .u64 d.end_.bits,zi d.end_.len,.str d.end_.text,zi d.end_.code,zi d.end_.at_,.own 3],.tree d.plan.shapes,.lst .lev d.stack,.lst .ev ([]:List Ev)] (.tup []) z2)∧(.tup [.agg (Ak 0 1 z1.d),vO 2]:S)= .tup [.agg (Ak 0 1 z3.d),vO 2]∧([.tree z1.d.plan.shapes,.lst .lev z1.d.stack,.lst .ev z1.out]:List Blk)=[.tree z3.d.plan.shapes,.lst .lev z3.d.stack,.lst .ev z3.out])∧((Dr d)=false→(.tup [.agg (Ak 0 1 d),vO 2]:S)= .tup [.agg (Ak 0 1 z3.d),vO 2]∧([.tree d.plan.shapes,.lst .lev d.stack,.lst .ev ([]:List Ev)]:List Blk)=[.tree z3.d.plan.shapes,.lst .lev z3.d.stack,.lst .ev z3.out]))) Q4 ?_
 refine⟨(Aiw d Q2 (hp2) Q2),(Aoj d Q2 Q2),fun h1=>?_,fun h1=>?_⟩
 refine⟨(Aor (⟨d,([]:List Ev)⟩:Mac) _ Q7 Q17 Q2),?_⟩
 refine have hm1:(Dz ⟨d,[]⟩ s).d=(Dz (⟨d,([]:List Ev)⟩:Mac) s).d:=?_;?_
 rotate_left
 refine have hm2:(Dz ⟨d,[]⟩ s).out=(Dz (⟨d,([]:List Ev)⟩:Mac) s).out:=?_;?_
 rotate_left
 exact⟨Q5,Q11⟩
 have hbad:Dz ⟨d,[]⟩ s=⟨d,[]⟩:=Acf (m:=⟨d,[]⟩) (by simpa using h1) s
 refine have hm1:(Dz ⟨d,[]⟩ s).d=d:=?_;?_
 rotate_left
 refine have hm2:(Dz ⟨d,[]⟩ s).out=([]:List Ev):=?_;?_
 rotate_left
 exact⟨Q5,Q11⟩
 all_goals first|(rfl)|((rw[hbad];done))|(grind)
theorem Ads (a:List Ev): ∀(k:Nat) (d:Dcd) (o:List Ev),wM ⟨d,o⟩≤k→Af ⟨d,a++o⟩=⟨(Af ⟨d,o⟩).d,a++(Af ⟨d,o⟩).out⟩:=by
 have hc: ∀(d:Dcd) (o:List Ev),A9 ⟨d,a++o⟩=(A9 ⟨d,o⟩).map fun q=>⟨q.d,a++q.out⟩:=by
  intro d o
  unfold A9 A7
  simp only
  split
  ·split<;>simp
  ·split
   ·rfl
   ·split
    ·split<;>simp
    ·rfl
 intro k
 induction k with
 |zero=>
  intro d o hk
  cases h:A9 ⟨d,o⟩ with
  |none=>rw[Cm h,Cm (by rw[hc,h];rfl)]
  |some q=>have:=(Cr h).1;omega
 |succ k ih=>
  intro d o hk
  cases h:A9 ⟨d,o⟩ with
  |none=>rw[Cm h,Cm (by rw[hc,h];rfl)]
  |some q=>
   have h2:A9 ⟨d,a++o⟩=some ⟨q.d,a++q.out⟩:=by rw[hc,h];rfl
   rw[Da h,Da h2]
   have h3:=(Cr h).1
   exact ih q.d q.out (by have:wM (⟨q.d,q.out⟩:Mac)=wM q:=rfl;omega)
theorem Cs (d:Dcd) (e:Ev):Af ⟨d,[e]⟩=⟨(Af ⟨d,[]⟩).d,e::(Af ⟨d,[]⟩).out⟩:=Ads [e] _ d [] (Nat.le_refl _)
structure Ky where
 i:Nat
def Kz (d:Dcd):Fam:=⟨Ky,fun q1=>[(1,.v (vP 0)),(3,.v (vI ((q1.i:Nat):Int)))],fun _=>[.cells (Cd d)],fun q1=>q1.i≤List.length d.stack∧Yr (List.length d.plan.shapes:Int) (List.drop q1.i d.stack)+q1.i=Yr (List.length d.plan.shapes:Int) d.stack,fun q1=>List.length d.stack-q1.i⟩
theorem U5 (d:Dcd) (hp1:List.length (d).stack≤Be) (hp2:List.length (d).plan.shapes≤Be):Fun Tryz.prog 181 [.agg (Cd d)] [] (.v (vB (Bn d))) []:=by
 have hN:Be=274877906944:=rfl
 refine Ar Tryz.func181 Q4 Q4 (w:=let z7:=((List.length d.plan.shapes:Nat):Int)-1;let z8:=(.v (vI (IntKind.i64.wrap z7)):S)= .v (vI z7);let z9:=((List.length d.stack:Nat):Int);let z10:=vB (Bn d);let z11:=(.v (vB false):S);let z12:=([]:List Blk);let z13:=Kz d;let z14:=B5 d.plan;(.seg [.call [] (.v (vB z14)) []] (.br (.leaf () []) (.br (.leaf () []) (.seg [.at 0,.keep [1,3],.sel [0]] (.loop z13 fun q1=> .br (.intro (fun (x1:Lev)=>d.stack[q1.i]? =some x1) fun x1=>let z1:=Aq x1.msg 0 z7;.case (!z1) (.seg [.ord (os 24 [12,21]) [],.el .lev x1,.as 35 (.v (vI z7)),.call [] (.v (vB z1)) [],.br true] (.leaf () [])) (.seg [.ord (os 24 [12,21]) [],.el .lev x1,.as 35 (.v (vI z7)),.call [] (.v (vB z1)) [],.br false,.el .lev x1,.call [] (.v (vB (Aq x1.left 0 2000))) []] (.br (.leaf () []) (.seg [.as 23 (.v (vI (((q1.i:Nat):Int)+1))),.at 0,.keep [1,3],.sel [0]] (.next))))) (.leaf () []))))),(Fun Tryz.prog 34 [.agg (Ex d.plan)] [] (.v (vB z14)) [])∧((!z14)=true→z11= .v z10∧z12=[])∧((!z14)=false→((decide (d.plan.deep<z9))=true→z11= .v z10∧z12=[])∧((decide (d.plan.deep<z9))=false→z13.Has [(1,.v (vP 0)),(3,.v (vI 0))] [.cells (Cd d)]∧∀q1,z13.inv q1→(let z6:=((q1.i:Nat):Int);((decide (z6<z9))=true→(∃(x1:Lev),d.stack[q1.i]? =some x1)∧∀(x1:Lev),(d.stack[q1.i]? =some x1)→(let z2:=Aq x1.msg 0 z7;let z3:=d.stack[q1.i]? =some x1;let z4:List V:=[vI x1.msg,vI 0,vI z7];let z5:=Aq x1.left 0 2000;((!z2)=true→z3∧((0:Int)≤z6)∧z3∧((0:Int)≤z6)∧z8∧z8∧(Fun Tryz.prog 59 z4 [] (.v (vB z2)) [])∧((!z2)=true)∧z11= .v z10∧z12=[])∧((!z2)=false→z3∧((0:Int)≤z6)∧z3∧((0:Int)≤z6)∧z8∧z8∧(Fun Tryz.prog 59 z4 [] (.v (vB z2)) [])∧((!z2)=false)∧z3∧((0:Int)≤z6)∧z3∧((0:Int)≤z6)∧(Fun Tryz.prog 59 [vI x1.left,vI 0,vI 2000] [] (.v (vB z5)) [])∧((!z5)=true→z11= .v z10∧z12=[])∧((!z5)=false→((.v (vI (IntKind.i64.wrap (z6+1))):S)= .v (vI (z6+1)))∧z13.Nxt q1 [(1,.v (vP 0)),(3,.v (vI (z6+1)))] [.cells (Cd d)]))))∧((decide (z6<z9))=false→(.v (vB true):S)= .v z10∧z12=[])))))) Q4 ?_
 refine⟨(Rt d.plan),fun h1=>have q1:=Ap h1;?_,fun h1=>have q1:=Ao h1;have p1:=By q1;?_⟩
 refine⟨(sB ?_),rfl⟩
 rotate_left
 refine dsp (fun h2 p2=>?_) fun h2 p2=>?_
 refine⟨(sB ?_),rfl⟩
 rotate_left
 refine⟨Bs (j:=(⟨0⟩:Ky)) Q9 rfl (by dsimp only[Kz];exact⟨by omega,rfl⟩),fun (q1:Ky) hq_q1=>?_⟩
 have hi_q1:q1.i≤List.length d.stack∧Yr (List.length d.plan.shapes:Int) (List.drop q1.i d.stack)+q1.i=Yr (List.length d.plan.shapes:Int) d.stack:=hq_q1
 obtain ⟨v1,v2⟩:=hi_q1
 refine dsp (fun h3 p3=>?_) fun h3 p3=>?_
 refine⟨(Bq (l:=d.stack) (i:=q1.i) Q2),fun x1 hx1=>?_⟩
 rw[Er hx1,Tp] at v2
 have hll:=congrArg List.length (Er hx1)
 rw[List.length_drop,List.length_cons,List.length_drop] at hll
 refine⟨fun h4=>have q4:=Ap h4;have p4:=A4 q4;?_,fun h4=>have q4:=Ao h4;have p4:=Av q4;?_⟩
 refine⟨hx1,Q2,hx1,Q2,(Ac Q2 Q2),(Ac Q2 Q2),(Bh _ _ _),h4,(sB ?_),rfl⟩
 rotate_left
 refine⟨hx1,Q2,hx1,Q2,(Ac Q2 Q2),(Ac Q2 Q2),(Bh _ _ _),h4,hx1,Q2,hx1,Q2,(Bh _ _ _),fun h5=>have q5:=Ap h5;have p5:=A4 q5;?_,fun h5=>have q5:=Ao h5;have p5:=Av q5;?_⟩
 refine⟨(sB ?_),rfl⟩
 rotate_left
 exact⟨(Ac Q2 Q2),Bc (j:=(⟨q1.i+1⟩:Ky)) Q9 rfl (by dsimp only[Kz];exact⟨by omega,by simp_all[F5];omega⟩) (by dsimp only[Kz];omega)⟩
 have hal:List.all d.stack (F5 (List.length d.plan.shapes:Int))=true:=by rw[Pp];rw[List.drop_eq_nil_of_le (by omega)] at v2;simp only[Yr] at v2;exact decide_eq_true (by omega)
 refine⟨(sB ?_),rfl⟩
 rotate_left
 all_goals first|(simp_all[Bn];done)|((have hal:List.all d.stack (F5 (List.length d.plan.shapes:Int))=false:=(by rw[Pp];rw[if_neg (by simp_all[F5])] at v2;exact decide_eq_false (by omega));simp[Bn,hal];done))|(grind[Bn])
theorem Do (d:Dcd) (c:Int) (a:Int):Fun Tryz.prog 63 [.agg (Ak 0 1 d),vI c,vI a] [.tree d.plan.shapes,.lst .lev d.stack] (.tup [.agg (Ak 2 3 (A8 d c a)),vO 4]) [.dead,.dead,.tree (A8 d c a).plan.shapes,.lst .lev (A8 d c a).stack,.lst .ev [Aw c a]]:=by
 have hN:Be=274877906944:=rfl
 refine Ar Tryz.func63 Q4 Q4 (w:=let zi:Int→C:= .int .i64;let z2:=Aw c a;let z1:List C:=[.int .u64 0,zi 0,zi d.start,zi d.at_,zi d.field.number,zi d.field.kind,.bool d.field.rep,.bool d.field.packed,zi d.field.msg,zi d.wire,zi 0,zi d.utf.want,zi d.utf.low,zi d.utf.high,zi z2.kind,zi z2.field,.int .u64 z2.bits,zi z2.len,.str z2.text,zi z2.code,zi z2.at_];(.seg [.call [] (.v (.agg (cEv z2))) [],.tree (fr (.two 3 (.one 4 (.first 5 (.done))) 4 (.one 3 (.first 5 (.done)))) 0 3) 6 [3],.ty .ev,.at 0,.keep [6,7],.sel [0,1,3,4],.ty .ev,.at 0,.keep [6,7],.sel [0,1,3,4],.at 0,.cut 2 0,.cut 2 5] (.leaf () [0,1,4,5,3]),(Fun Tryz.prog 110 [vI c,vI a] [] (.v (.agg (cEv z2))) [])∧(([.tree d.plan.shapes,.lst .lev d.stack,.cells (.own 0::zi d.plan.root::zi d.plan.deep::zi d.plan.most::zi 9:: .own 1::z1),.lst .ev [z2]]:List Blk)=[.tree d.plan.shapes,.lst .lev d.stack,.cells (.own 0::zi d.plan.root::zi d.plan.deep::zi d.plan.most::zi 9:: .own 1::z1),.lst .ev [z2]])∧(([(6,.v (vP 2)),(7,.v (vO 3))]:List (Nat×S))=[(6,.v (vP 2)),(7,.v (vO 3))])∧(.tup [.agg (.own 2::zi d.plan.root::zi d.plan.deep::zi d.plan.most::zi 9:: .own 3::z1),vO 4]:S)= .tup [.agg (Ak 2 3 (A8 d c a)),vO 4]∧([.dead,.dead,.tree d.plan.shapes,.lst .lev d.stack,.lst .ev [z2]]:List Blk)=[.dead,.dead,.tree (A8 d c a).plan.shapes,.lst .lev (A8 d c a).stack,.lst .ev [Aw c a]])) Q4 ?_
 refine⟨(Dk _ _),rfl,rfl,?_⟩
 refine have hm1:A8 d c a=(⟨d.plan,9,d.stack,(⟨0,0⟩:Scn),d.start,d.at_,d.field,d.wire,0,d.utf,(Aw c a)⟩:Dcd):=?_;?_
 rotate_left
 refine have hm2:[Aw c a]=[(Aw c a)]:=?_;?_
 rotate_left
 exact⟨Q5,Q11⟩
 all_goals first|(rfl)|(simp_all[A8])
structure D4 where
 d:Dcd
 out:List Ev
def E6 (d:Dcd):Fam:=⟨D4,fun q1=>[(1,.v (vP 2)),(2,.v (vP 5)),(4,.v (vO 6))],fun q1=>[.dead,.dead,.cells (Ak 3 4 q1.d),.tree q1.d.plan.shapes,.lst .lev q1.d.stack,.cells [.nil,.int .i64 0,.int .i64 0,.int .i64 0,.int .i64 0,.nil,.int .u64 0,.int .i64 0,.int .i64 0,.int .i64 0,.int .i64 0,.int .i64 0,.bool false,.bool false,.int .i64 0,.int .i64 0,.int .i64 0,.int .i64 0,.int .i64 0,.int .i64 0,.int .i64 0,.int .i64 0,.int .u64 0,.int .i64 0,.str [],.int .i64 0,.int .i64 0],.lst .ev q1.out],fun q1=>Af ⟨q1.d,q1.out⟩=Af ⟨d,[]⟩∧List.length q1.out+wM ⟨q1.d,q1.out⟩≤wM ⟨d,[]⟩∧List.length (q1.d).stack≤List.length d.stack,fun q1=>wM ⟨q1.d,q1.out⟩⟩
theorem Js (d:Dcd) (hp1:List.length (d).stack≤1000):Fun Tryz.prog 61 [.agg (Ak 0 1 d)] [.tree d.plan.shapes,.lst .lev d.stack] (.tup [.agg (Ak 2 3 (Af ⟨d,[]⟩).d),vO 4]) [.dead,.dead,.tree (Af ⟨d,[]⟩).d.plan.shapes,.lst .lev (Af ⟨d,[]⟩).d.stack,.lst .ev (Af ⟨d,[]⟩).out]:=by
 have hN:Be=274877906944:=rfl
 have hwd:=Agt ⟨d,[]⟩
 simp only at hwd
 refine Ar Tryz.func61 Q4 Q4 (w:=let zi:Int→C:= .int .i64;let z14:List C:=[.nil,zi 0,zi 0,zi 0,zi 0,.nil,.int .u64 0,zi 0,zi 0,zi 0,zi 0,zi 0,.bool false,.bool false,zi 0,zi 0,zi 0,zi 0,zi 0,zi 0,zi 0,zi 0,.int .u64 0,zi 0,.str [],zi 0,zi 0];let z17:=E6 d;let z18:=Af ⟨d,[]⟩;let z15:List Blk:=[.dead,.dead,.tree z18.d.plan.shapes,.lst .lev z18.d.stack,.lst .ev z18.out];let z16:=Ak 2 3 z18.d;(.seg [.ty .ev,.at 0,.cut 2 0,.cut 2 5,.keep [1,2,4],.sel [0,1,2,5,6,3,4]] (.loop z17 fun q1=>let z1:=((List.length q1.d.stack:Nat):Int)-1;let z2:=A8 q1.d 5 q1.d.at_;.br (.br (.br (.seg [.call [3,4] (.tup [.agg (Ak 2 3 z2),vO 4]) [.dead,.dead,.tree z2.plan.shapes,.lst .lev z2.stack,.lst .ev [Aw 5 q1.d.at_]],.tree (fr (.one 3 (.one 4 (.first 5 (.done)))) 0 3) 4 [6,9],.ty .ev] (.leaf () [0,1,7,8,11])) (.seg [.ty .ev,.ty .ev,.at 0,.keep [1,2,4],.sel [0,1,2,3,4,5,8]] (.next))) (.seg [.br false] (.br (.br (.br (.seg [.as 86 (.v (vI z1))] (.intro (fun (x1:Lev)=>q1.d.stack[Int.toNat z1]? =some x1) fun x1=> .seg [.el .lev x1] (.br (.seg [.ty .lev,.as 96 (.v (vI z1)),.ty .lev] (.br (.seg [.ty .ev,.ty .ev,.at 0,.keep [1,2,4],.sel [0,1,2,3,8,5,10]] (.next)) (.seg [.ty .ev,.ty .ev,.at 0,.keep [1,2,4],.sel [0,1,2,3,8,5,10]] (.next)))) (.leaf () [0,1,3,4,6])))) (.leaf () [0,1,3,4,6])) (.leaf () [0,1,3,4,6])) (.leaf () [0,1,3,4,6])))) (.br (.br (.seg [.at 0,.keep [1,2,4],.sel [0,1,2,3,4,5,6]] (.next)) (.br (.br (.seg [.at 0,.keep [1,2,4],.sel [0,1,2,3,4,5,6]] (.next)) (.br (.seg [.br false] (.leaf () [0,1,3,4,6])) (.leaf () [0,1,3,4,6]))) (.br (.br (.br (.seg [.as 86 (.v (vI z1))] (.intro (fun (x1:Lev)=>q1.d.stack[Int.toNat z1]? =some x1) fun x1=> .seg [.el .lev x1] (.br (.seg [.ty .lev,.as 96 (.v (vI z1)),.ty .lev] (.br (.seg [.ty .ev,.ty .ev,.at 0,.keep [1,2,4],.sel [0,1,2,3,8,5,10]] (.next)) (.seg [.ty .ev,.ty .ev,.at 0,.keep [1,2,4],.sel [0,1,2,3,8,5,10]] (.next)))) (.leaf () [0,1,3,4,6])))) (.leaf () [0,1,3,4,6])) (.leaf () [0,1,3,4,6])) (.leaf () [0,1,3,4,6])))) (.br (.br (.br (.seg [.as 86 (.v (vI z1))] (.intro (fun (x1:Lev)=>q1.d.stack[Int.toNat z1]? =some x1) fun x1=> .seg [.el .lev x1] (.br (.seg [.ty .lev,.as 96 (.v (vI z1)),.ty .lev] (.br (.seg [.ty .ev,.ty .ev,.at 0,.keep [1,2,4],.sel [0,1,2,3,8,5,10]] (.next)) (.seg [.ty .ev,.ty .ev,.at 0,.keep [1,2,4],.sel [0,1,2,3,8,5,10]] (.next)))) (.leaf () [0,1,3,4,6])))) (.leaf () [0,1,3,4,6])) (.leaf () [0,1,3,4,6])) (.leaf () [0,1,3,4,6])))),z17.Has [(1,.v (vP 2)),(2,.v (vP 5)),(4,.v (vO 6))] [.dead,.dead,.cells (Ak 3 4 d),.tree d.plan.shapes,.lst .lev d.stack,.cells z14,.lst .ev ([]:List Ev)]∧∀q1,z17.inv q1→(let z5:List Blk:=[.dead,.dead,.cells [.own 3,zi q1.d.plan.root,zi q1.d.plan.deep,zi q1.d.plan.most,zi 2,.own 4,.int .u64 q1.d.scan.bits,zi q1.d.scan.have_,zi q1.d.start,zi q1.d.at_,zi q1.d.field.number,zi q1.d.field.kind,.bool q1.d.field.rep,.bool q1.d.field.packed,zi q1.d.field.msg,zi q1.d.wire,zi 0,zi q1.d.utf.want,zi q1.d.utf.low,zi q1.d.utf.high,zi q1.d.end_.kind,zi q1.d.end_.field,.int .u64 q1.d.end_.bits,zi q1.d.end_.len,.str q1.d.end_.text,zi q1.d.end_.code,zi q1.d.end_.at_],.tree q1.d.plan.shapes,.lst .lev q1.d.stack,.cells z14,.lst .ev q1.out];let z6:=((List.length q1.d.stack:Nat):Int);let z7:=([.dead,.dead,.tree q1.d.plan.shapes,.lst .lev q1.d.stack,.lst .ev q1.out]:List Blk);let z8:=(.tup [.agg (Ak 2 3 q1.d),vO 4]:S);let z9:=List.take ((Int.toNat (z6-1))-0) (List.drop 0 q1.d.stack);let z10:=decide (q1.d.scan.have_=0);let z11:=A8 q1.d 5 q1.d.at_;let z12:=decide (q1.d.want<1);let z13:=decide (q1.d.mode=2);let z3:=z13=true→(z10=true→((decide (0<z6))=true→((.v (vI (IntKind.i64.wrap (z6-1))):S)= .v (vI (z6-1)))∧(∃(x1:Lev),q1.d.stack[Int.toNat (z6-1)]? =some x1)∧∀(x1:Lev),(q1.d.stack[Int.toNat (z6-1)]? =some x1)→((z6-1<z6)∧((0:Int)≤z6-1)∧(q1.d.stack[Int.toNat (z6-1)]? =some x1)∧((decide (x1.left=0))=true→((.v (vI (IntKind.i64.wrap (z6-1))):S)= .v (vI (z6-1)))∧(z6-1≤z6)∧((0:Int)≤z6-1)∧(List.length ([]:List Lev)+List.length z9≤Be)∧((decide (z6=1))=true→(List.length q1.out+List.length [(⟨8,0,0,0,[],0,0⟩:Ev)]≤Be)∧z17.Nxt q1 [(1,.v (vP 2)),(2,.v (vP 5)),(4,.v (vO 6))] [.dead,.dead,.cells [.own 3,zi q1.d.plan.root,zi q1.d.plan.deep,zi q1.d.plan.most,zi 1,.own 4,.int .u64 q1.d.scan.bits,zi q1.d.scan.have_,zi q1.d.start,zi q1.d.at_,zi q1.d.field.number,zi q1.d.field.kind,.bool q1.d.field.rep,.bool q1.d.field.packed,zi q1.d.field.msg,zi q1.d.wire,zi q1.d.want,zi q1.d.utf.want,zi q1.d.utf.low,zi q1.d.utf.high,zi q1.d.end_.kind,zi q1.d.end_.field,.int .u64 q1.d.end_.bits,zi q1.d.end_.len,.str q1.d.end_.text,zi q1.d.end_.code,zi q1.d.end_.at_],.tree q1.d.plan.shapes,.lst .lev (([]:List Lev)++z9),.cells z14,.lst .ev (q1.out++[(⟨8,0,0,0,[],0,0⟩:Ev)])])∧((decide (z6=1))=false→(List.length q1.out+List.length [(⟨7,0,0,0,[],0,0⟩:Ev)]≤Be)∧z17.Nxt q1 [(1,.v (vP 2)),(2,.v (vP 5)),(4,.v (vO 6))] [.dead,.dead,.cells (Ak 3 4 q1.d),.tree q1.d.plan.shapes,.lst .lev (([]:List Lev)++z9),.cells z14,.lst .ev (q1.out++[(⟨7,0,0,0,[],0,0⟩:Ev)])]))∧((decide (x1.left=0))=false→z8= .tup [.agg z16,vO 4]∧z7=z15)))∧((decide (0<z6))=false→z8= .tup [.agg z16,vO 4]∧z7=z15))∧(z10=false→z8= .tup [.agg z16,vO 4]∧z7=z15);let z4:=z13=false→z8= .tup [.agg z16,vO 4]∧z7=z15;((decide (q1.d.mode=6))=true→(z12=true→((decide (0<q1.d.utf.want))=true→(Fun Tryz.prog 63 [.agg (Ak 0 1 q1.d),vI 5,vI q1.d.at_] [.tree q1.d.plan.shapes,.lst .lev q1.d.stack] (.tup [.agg (Ak 2 3 z11),vO 4]) [.dead,.dead,.tree z11.plan.shapes,.lst .lev z11.stack,.lst .ev [Aw 5 q1.d.at_]])∧(List.length q1.out+List.length [Aw 5 q1.d.at_]≤Be)∧(.tup [.agg (Ak 2 3 z11),vO 4]:S)= .tup [.agg z16,vO 4]∧([.dead,.dead,.tree z11.plan.shapes,.lst .lev z11.stack,.lst .ev (q1.out++[Aw 5 q1.d.at_])]:List Blk)=z15)∧((decide (0<q1.d.utf.want))=false→(List.length q1.out+List.length [(⟨5,0,0,0,[],0,0⟩:Ev)]≤Be)∧z17.Nxt q1 [(1,.v (vP 2)),(2,.v (vP 5)),(4,.v (vO 6))] [.dead,.dead,.cells [.own 3,zi q1.d.plan.root,zi q1.d.plan.deep,zi q1.d.plan.most,zi 2,.own 4,.int .u64 q1.d.scan.bits,zi q1.d.scan.have_,zi q1.d.start,zi q1.d.at_,zi q1.d.field.number,zi q1.d.field.kind,.bool q1.d.field.rep,.bool q1.d.field.packed,zi q1.d.field.msg,zi q1.d.wire,zi 0,zi 0,zi 0,zi 0,zi q1.d.end_.kind,zi q1.d.end_.field,.int .u64 q1.d.end_.bits,zi q1.d.end_.len,.str q1.d.end_.text,zi q1.d.end_.code,zi q1.d.end_.at_],.tree q1.d.plan.shapes,.lst .lev q1.d.stack,.cells z14,.lst .ev (q1.out++[(⟨5,0,0,0,[],0,0⟩:Ev)])]))∧(z12=false→(z12=false)∧z3∧z4))∧((decide (q1.d.mode=6))=false→(z12=true→((decide (q1.d.mode=7))=true→z17.Nxt q1 [(1,.v (vP 2)),(2,.v (vP 5)),(4,.v (vO 6))] z5)∧((decide (q1.d.mode=7))=false→((decide (q1.d.mode=8))=true→(z10=true→z17.Nxt q1 [(1,.v (vP 2)),(2,.v (vP 5)),(4,.v (vO 6))] z5)∧(z10=false→(z13=true→(z10=false)∧z8= .tup [.agg z16,vO 4]∧z7=z15)∧z4))∧((decide (q1.d.mode=8))=false→z3∧z4)))∧(z12=false→z3∧z4))))) Q4 ?_
 refine⟨Bs (j:=(⟨d,([]:List Ev)⟩:D4)) rfl rfl (by dsimp only[E6];exact⟨rfl,by simp,Nat.le_refl _⟩),fun (q1:D4) hq_q1=>?_⟩
 have hi_q1:Af ⟨q1.d,q1.out⟩=Af ⟨d,[]⟩∧List.length q1.out+wM ⟨q1.d,q1.out⟩≤wM ⟨d,[]⟩∧List.length (q1.d).stack≤List.length d.stack:=hq_q1
 obtain ⟨v1,v2,v3⟩:=hi_q1
 have hwq:=Agt ⟨q1.d,q1.out⟩
 refine dsp (fun h1 p1=>?_) fun h1 p1=>?_
 refine dsp (fun h2 p2=>?_) fun h2 p2=>?_
 refine dsp (fun h3 p3=>?_) fun h3 p3=>?_
 have hst:Af ⟨d,[]⟩=A7 ⟨q1.d,q1.out⟩ 5 q1.d.at_:=by rw[←v1];exact Acb (by assumption) (by assumption) (by assumption)
 refine⟨(Do q1.d _ _),Q6,?_⟩
 refine have hm1:(Af ⟨d,[]⟩).d=(A8 q1.d 5 q1.d.at_):=?_;?_
 rotate_left
 refine have hm2:(Af ⟨d,[]⟩).out=q1.out++[Aw 5 q1.d.at_]:=?_;?_
 rotate_left
 exact⟨Q5,Q11⟩
 exact⟨Q6,Bc (j:=(⟨(⟨q1.d.plan,2,q1.d.stack,q1.d.scan,q1.d.start,q1.d.at_,q1.d.field,q1.d.wire,0,(⟨0,0,0⟩:Utf),q1.d.end_⟩:Dcd),q1.out++[(⟨5,0,0,0,[],0,0⟩:Ev)]⟩:D4)) rfl Q9 (by dsimp only[E6];have hcl:A9 ⟨q1.d,q1.out⟩=some ⟨(⟨q1.d.plan,2,q1.d.stack,q1.d.scan,q1.d.start,q1.d.at_,q1.d.field,q1.d.wire,0,(⟨0,0,0⟩:Utf),q1.d.end_⟩:Dcd),q1.out++[(⟨5,0,0,0,[],0,0⟩:Ev)]⟩:=Q37;exact⟨by rw[←v1];exact(Da hcl).symm,by have:=Cr hcl;simp only at this;omega,by have:=(K6 hcl).1;simp only at this;omega⟩) (by dsimp only[E6];have hcl:A9 ⟨q1.d,q1.out⟩=some ⟨(⟨q1.d.plan,2,q1.d.stack,q1.d.scan,q1.d.start,q1.d.at_,q1.d.field,q1.d.wire,0,(⟨0,0,0⟩:Utf),q1.d.end_⟩:Dcd),q1.out++[(⟨5,0,0,0,[],0,0⟩:Ev)]⟩:=Q37;exact(Cr hcl).1)⟩
 refine⟨h2,dsp (fun h3 p3=>?_) fun h3 p3=>?_⟩
 refine dsp (fun h4 p4=>?_) fun h4 p4=>?_
 refine dsp (fun h5 p5=>?_) fun h5 p5=>?_
 refine⟨(Ac Q2 Q2),(Bq (l:=q1.d.stack) (i:=Int.toNat (((List.length q1.d.stack:Nat):Int)-1)) Q2),fun x1 hx1=>?_⟩
 refine⟨Q2,Q2,?_⟩
 have hll:=Kv (d:=q1.d) (by rw[←hx1];congr 1;omega)
 have hix:Int.toNat ((q1.d.stack.length:Int)-1)=q1.d.stack.length-1:=by omega
 refine⟨hx1,dsp (fun h6 p6=>?_) fun h6 p6=>?_⟩
 refine⟨(Ac Q2 Q2),Q2,Q2,Q75,dsp (fun h7 p7=>?_) fun h7 p7=>?_⟩
 exact⟨Q6,Bc (j:=(⟨(⟨q1.d.plan,1,([]:List Lev)++(List.take ((Int.toNat (((List.length q1.d.stack:Nat):Int)-1))-0) (List.drop 0 q1.d.stack)),q1.d.scan,q1.d.start,q1.d.at_,q1.d.field,q1.d.wire,q1.d.want,q1.d.utf,q1.d.end_⟩:Dcd),q1.out++[(⟨8,0,0,0,[],0,0⟩:Ev)]⟩:D4)) rfl Q9 Q22 Q29⟩
 exact⟨Q6,Bc (j:=(⟨(⟨q1.d.plan,q1.d.mode,([]:List Lev)++(List.take ((Int.toNat (((List.length q1.d.stack:Nat):Int)-1))-0) (List.drop 0 q1.d.stack)),q1.d.scan,q1.d.start,q1.d.at_,q1.d.field,q1.d.wire,q1.d.want,q1.d.utf,q1.d.end_⟩:Dcd),q1.out++[(⟨7,0,0,0,[],0,0⟩:Ev)]⟩:D4)) rfl Q9 Q21 Q28⟩
 refine have hm1:(Af ⟨d,[]⟩).d=q1.d:=?_;?_
 rotate_left
 refine have hm2:(Af ⟨d,[]⟩).out=q1.out:=?_;?_
 rotate_left
 exact⟨Q5,Q11⟩
 refine have hm1:(Af ⟨d,[]⟩).d=q1.d:=?_;?_
 rotate_left
 refine have hm2:(Af ⟨d,[]⟩).out=q1.out:=?_;?_
 rotate_left
 exact⟨Q5,Q11⟩
 refine have hm1:(Af ⟨d,[]⟩).d=q1.d:=?_;?_
 rotate_left
 refine have hm2:(Af ⟨d,[]⟩).out=q1.out:=?_;?_
 rotate_left
 exact⟨Q5,Q11⟩
 refine have hm1:(Af ⟨d,[]⟩).d=q1.d:=?_;?_
 rotate_left
 refine have hm2:(Af ⟨d,[]⟩).out=q1.out:=?_;?_
 rotate_left
 exact⟨Q5,Q11⟩
 refine dsp (fun h2 p2=>?_) fun h2 p2=>?_
 refine dsp (fun h3 p3=>?_) fun h3 p3=>?_
 exact Bc (j:=(⟨(⟨q1.d.plan,2,q1.d.stack,q1.d.scan,q1.d.start,q1.d.at_,q1.d.field,q1.d.wire,0,q1.d.utf,q1.d.end_⟩:Dcd),q1.out⟩:D4)) rfl Q9 Q48 Q67
 refine dsp (fun h4 p4=>?_) fun h4 p4=>?_
 refine dsp (fun h5 p5=>?_) fun h5 p5=>?_
 exact Bc (j:=(⟨(⟨q1.d.plan,2,q1.d.stack,q1.d.scan,q1.d.start,q1.d.at_,q1.d.field,q1.d.wire,0,q1.d.utf,q1.d.end_⟩:Dcd),q1.out⟩:D4)) rfl Q9 Q48 Q67
 refine dsp (fun h6 p6=>?_) fun h6 p6=>?_
 refine⟨h5,?_⟩
 refine have hm1:(Af ⟨d,[]⟩).d=q1.d:=?_;?_
 rotate_left
 refine have hm2:(Af ⟨d,[]⟩).out=q1.out:=?_;?_
 rotate_left
 exact⟨Q5,Q11⟩
 refine have hm1:(Af ⟨d,[]⟩).d=q1.d:=?_;?_
 rotate_left
 refine have hm2:(Af ⟨d,[]⟩).out=q1.out:=?_;?_
 rotate_left
 exact⟨Q5,Q11⟩
 refine dsp (fun h5 p5=>?_) fun h5 p5=>?_
 refine dsp (fun h6 p6=>?_) fun h6 p6=>?_
 refine dsp (fun h7 p7=>?_) fun h7 p7=>?_
 refine⟨(Ac Q2 Q2),(Bq (l:=q1.d.stack) (i:=Int.toNat (((List.length q1.d.stack:Nat):Int)-1)) Q2),fun x1 hx1=>?_⟩
 refine⟨Q2,Q2,?_⟩
 have hll:=Kv (d:=q1.d) (by rw[←hx1];congr 1;omega)
 have hix:Int.toNat ((q1.d.stack.length:Int)-1)=q1.d.stack.length-1:=by omega
 refine⟨hx1,dsp (fun h8 p8=>?_) fun h8 p8=>?_⟩
 refine⟨(Ac Q2 Q2),Q2,Q2,Q75,dsp (fun h9 p9=>?_) fun h9 p9=>?_⟩
 exact⟨Q6,Bc (j:=(⟨(⟨q1.d.plan,1,([]:List Lev)++(List.take ((Int.toNat (((List.length q1.d.stack:Nat):Int)-1))-0) (List.drop 0 q1.d.stack)),q1.d.scan,q1.d.start,q1.d.at_,q1.d.field,q1.d.wire,q1.d.want,q1.d.utf,q1.d.end_⟩:Dcd),q1.out++[(⟨8,0,0,0,[],0,0⟩:Ev)]⟩:D4)) rfl Q9 Q22 Q29⟩
 exact⟨Q6,Bc (j:=(⟨(⟨q1.d.plan,q1.d.mode,([]:List Lev)++(List.take ((Int.toNat (((List.length q1.d.stack:Nat):Int)-1))-0) (List.drop 0 q1.d.stack)),q1.d.scan,q1.d.start,q1.d.at_,q1.d.field,q1.d.wire,q1.d.want,q1.d.utf,q1.d.end_⟩:Dcd),q1.out++[(⟨7,0,0,0,[],0,0⟩:Ev)]⟩:D4)) rfl Q9 Q21 Q28⟩
 refine have hm1:(Af ⟨d,[]⟩).d=q1.d:=?_;?_
 rotate_left
 refine have hm2:(Af ⟨d,[]⟩).out=q1.out:=?_;?_
 rotate_left
 exact⟨Q5,Q11⟩
 refine have hm1:(Af ⟨d,[]⟩).d=q1.d:=?_;?_
 rotate_left
 refine have hm2:(Af ⟨d,[]⟩).out=q1.out:=?_;?_
 rotate_left
 exact⟨Q5,Q11⟩
 refine have hm1:(Af ⟨d,[]⟩).d=q1.d:=?_;?_
 rotate_left
 refine have hm2:(Af ⟨d,[]⟩).out=q1.out:=?_;?_
 rotate_left
 exact⟨Q5,Q11⟩
 refine have hm1:(Af ⟨d,[]⟩).d=q1.d:=?_;?_
 rotate_left
 refine have hm2:(Af ⟨d,[]⟩).out=q1.out:=?_;?_
 rotate_left
 exact⟨Q5,Q11⟩
 refine dsp (fun h3 p3=>?_) fun h3 p3=>?_
 refine dsp (fun h4 p4=>?_) fun h4 p4=>?_
 refine dsp (fun h5 p5=>?_) fun h5 p5=>?_
 refine⟨(Ac Q2 Q2),(Bq (l:=q1.d.stack) (i:=Int.toNat (((List.length q1.d.stack:Nat):Int)-1)) Q2),fun x1 hx1=>?_⟩
 refine⟨Q2,Q2,?_⟩
 have hll:=Kv (d:=q1.d) (by rw[←hx1];congr 1;omega)
 have hix:Int.toNat ((q1.d.stack.length:Int)-1)=q1.d.stack.length-1:=by omega
 refine⟨hx1,dsp (fun h6 p6=>?_) fun h6 p6=>?_⟩
 refine⟨(Ac Q2 Q2),Q2,Q2,Q75,dsp (fun h7 p7=>?_) fun h7 p7=>?_⟩
 exact⟨Q6,Bc (j:=(⟨(⟨q1.d.plan,1,([]:List Lev)++(List.take ((Int.toNat (((List.length q1.d.stack:Nat):Int)-1))-0) (List.drop 0 q1.d.stack)),q1.d.scan,q1.d.start,q1.d.at_,q1.d.field,q1.d.wire,q1.d.want,q1.d.utf,q1.d.end_⟩:Dcd),q1.out++[(⟨8,0,0,0,[],0,0⟩:Ev)]⟩:D4)) rfl Q9 Q22 Q29⟩
 exact⟨Q6,Bc (j:=(⟨(⟨q1.d.plan,q1.d.mode,([]:List Lev)++(List.take ((Int.toNat (((List.length q1.d.stack:Nat):Int)-1))-0) (List.drop 0 q1.d.stack)),q1.d.scan,q1.d.start,q1.d.at_,q1.d.field,q1.d.wire,q1.d.want,q1.d.utf,q1.d.end_⟩:Dcd),q1.out++[(⟨7,0,0,0,[],0,0⟩:Ev)]⟩:D4)) rfl Q9 Q21 Q28⟩
 refine have hm1:(Af ⟨d,[]⟩).d=q1.d:=?_;?_
 rotate_left
 refine have hm2:(Af ⟨d,[]⟩).out=q1.out:=?_;?_
 rotate_left
 exact⟨Q5,Q11⟩
 refine have hm1:(Af ⟨d,[]⟩).d=q1.d:=?_;?_
 rotate_left
 refine have hm2:(Af ⟨d,[]⟩).out=q1.out:=?_;?_
 rotate_left
 exact⟨Q5,Q11⟩
 refine have hm1:(Af ⟨d,[]⟩).d=q1.d:=?_;?_
 rotate_left
 refine have hm2:(Af ⟨d,[]⟩).out=q1.out:=?_;?_
 rotate_left
 exact⟨Q5,Q11⟩
 refine have hm1:(Af ⟨d,[]⟩).d=q1.d:=?_;?_
 rotate_left
 refine have hm2:(Af ⟨d,[]⟩).out=q1.out:=?_;?_
 rotate_left
 exact⟨Q5,Q11⟩
 all_goals first|((rw[hst];rfl))|((rw[←v1,Cm (by first|((simp_all[A9,Xy,Anc,Me,utf0];done))|(grind[A9,Xy,Anc,Me,utf0]))]))
theorem Jt (d:Dcd) (e:Ev) (hp1:List.length (d).stack≤1000):Fun Tryz.prog 64 [.agg (Ak 0 1 d),.agg (cEv e)] [.tree d.plan.shapes,.lst .lev d.stack] (.tup [.agg (Ak 2 3 (Af ⟨d,[]⟩).d),vO 4]) [.dead,.dead,.tree (Af ⟨d,[]⟩).d.plan.shapes,.lst .lev (Af ⟨d,[]⟩).d.stack,.lst .ev (e::(Af ⟨d,[]⟩).out)]:=by
 have hN:Be=274877906944:=rfl
 have hso:=Xz ⟨d,[]⟩
 have hwd:=Agt ⟨d,[]⟩
 simp only[List.length_nil] at hwd hso
 refine Ar Tryz.func64 Q4 Q4 (w:=let z1:=Af ⟨d,[]⟩;let z2:List Blk:=[.dead,.dead,.tree z1.d.plan.shapes,.lst .lev z1.d.stack,.lst .ev z1.out];let z3:=Ak 2 3 z1.d;(.seg [.call [0,1] (.tup [.agg z3,vO 4]) z2,.tree (.first 0 (.first 1 (.first 3 (.one 2 (.one 4 (.one 5 (.first 6 (.done)))))))) 5 [7],.ty .ev,.ty .ev] (.leaf () [0,1,5,6,10]),(Fun Tryz.prog 61 [.agg (Ak 0 1 d)] [.tree d.plan.shapes,.lst .lev d.stack] (.tup [.agg z3,vO 4]) z2)∧(List.length [e]+List.length z1.out≤Be)∧(.tup [.agg z3,vO 4]:S)= .tup [.agg z3,vO 4]∧([.dead,.dead,.tree z1.d.plan.shapes,.lst .lev z1.d.stack,.lst .ev ([e]++z1.out)]:List Blk)=[.dead,.dead,.tree z1.d.plan.shapes,.lst .lev z1.d.stack,.lst .ev (e::z1.out)])) Q4 ?_
 exact⟨(Js d Q2),Q6,rfl,(Aa rfl (Aa rfl (Aa rfl (Aa rfl (Aa (congrArg (Blk.lst .ev) (by rfl)) rfl)))))⟩
theorem Ai7 (d:Dcd) (u:Int) (hp1:Bn d=true) (hp2:(0:Int)≤u∧u≤18446744073709551615):Fun Tryz.prog 130 [.agg (Cd d),.c (.int .u64 u)] [] (.tup [.agg (Ak 0 1 (Db ⟨d,[]⟩ u).d),vO 2]) [.tree (Db ⟨d,[]⟩ u).d.plan.shapes,.lst .lev (Db ⟨d,[]⟩ u).d.stack,.lst .ev (Db ⟨d,[]⟩ u).out]:=by
 have hN:Be=274877906944:=rfl
 have hlv:=Cb hp1
 have hpt:=By hlv.1
 have htb:=H9 hp1
 refine Ar Tryz.func130 Q4 Q4 (w:=let zi:Int→C:= .int .i64;let z1:List C:=[.own 1,.int .u64 0,zi 0,zi d.start,zi d.at_,zi d.field.number,zi d.field.kind,.bool d.field.rep,.bool d.field.packed,zi d.field.msg,zi d.wire,zi d.want,zi d.utf.want,zi d.utf.low,zi d.utf.high,zi d.end_.kind,zi d.end_.field,.int .u64 d.end_.bits,zi d.end_.len,.str d.end_.text,zi d.end_.code,zi d.end_.at_];let z2:=Af ⟨(⟨d.plan,2,[(⟨d.plan.root,u⟩:Lev)],(⟨0,0⟩:Scn),d.start,d.at_,d.field,d.wire,d.want,d.utf,d.end_⟩:Dcd),[]⟩;let z3:=A8 (⟨d.plan,d.mode,d.stack,(⟨0,0⟩:Scn),d.start,d.at_,d.field,d.wire,d.want,d.utf,d.end_⟩:Dcd) 7 d.start;let z4:=Db ⟨d,[]⟩ u;let z6:List Blk:=[.dead,.dead,.tree z3.plan.shapes,.lst .lev z3.stack,.lst .ev [Aw 7 d.start]];let z7:=(.v (vI (IntKind.i64.wrap (u))):S)= .v (vI u);let z8:=(⟨1,0,0,u,[],0,0⟩:Ev)::z2.out;let z5:List Blk:=[.dead,.dead,.tree z2.d.plan.shapes,.lst .lev z2.d.stack,.lst .ev z8];(.seg [.call [] (.v (.agg (Ak 0 1 d))) [.tree d.plan.shapes,.lst .lev d.stack],.call [] (.v (vB (Bn d))) [],.br false,.as 20 (.v (.c (.int .u64 d.plan.most)))] (.br (.seg [.call [2,3] (.tup [.agg (Ak 2 3 z3),vO 4]) z6] (.leaf () [5,6,7])) (.seg [.as 32 (.v (vI u)),.ty .lev,.as 39 (.v (vI u)),.call [2,5] (.tup [.agg (Ak 2 3 z2.d),vO 4]) z5] (.leaf () [6,7,8]))),(Fun Tryz.prog 58 [.agg (Cd d)] [] (.v (.agg (Ak 0 1 d))) [.tree d.plan.shapes,.lst .lev d.stack])∧(Fun Tryz.prog 181 [.agg (Cd d)] [] (.v (vB (Bn d))) [])∧((!(Bn d))=false)∧((.v (.c (.int .u64 (IntKind.u64.wrap (d.plan.most)))):S)= .v (.c (.int .u64 d.plan.most)))∧((decide (d.plan.most<u))=true→(Fun Tryz.prog 63 [.agg (.own 0::zi d.plan.root::zi d.plan.deep::zi d.plan.most::zi d.mode::z1),vI 7,vI d.start] [.tree d.plan.shapes,.lst .lev d.stack] (.tup [.agg (Ak 2 3 z3),vO 4]) z6)∧(.tup [.agg (Ak 0 1 z3),vO 2]:S)= .tup [.agg (Ak 0 1 z4.d),vO 2]∧([.tree z3.plan.shapes,.lst .lev z3.stack,.lst .ev [Aw 7 d.start]]:List Blk)=[.tree z4.d.plan.shapes,.lst .lev z4.d.stack,.lst .ev z4.out])∧((decide (d.plan.most<u))=false→z7∧z7∧(Fun Tryz.prog 64 [.agg (.own 0::zi d.plan.root::zi d.plan.deep::zi d.plan.most::zi 2::z1),.agg [zi 1,zi 0,.int .u64 0,zi u,.str [],zi 0,zi 0]] [.tree d.plan.shapes,.lst .lev [(⟨d.plan.root,u⟩:Lev)]] (.tup [.agg (Ak 2 3 z2.d),vO 4]) z5)∧(.tup [.agg (Ak 0 1 z2.d),vO 2]:S)= .tup [.agg (Ak 0 1 z4.d),vO 2]∧([.tree z2.d.plan.shapes,.lst .lev z2.d.stack,.lst .ev z8]:List Blk)=[.tree z4.d.plan.shapes,.lst .lev z4.d.stack,.lst .ev z4.out]))) Q4 ?_
 refine⟨(T3 d Q2 (Em hpt.2.1) Q2),(U5 d Q2 Q2),(by simp[hp1]),(Bp Q2 Q2),dsp (fun h1 p1=>?_) fun h1 p1=>?_⟩
 refine⟨(Do (⟨d.plan,d.mode,d.stack,(⟨0,0⟩:Scn),d.start,d.at_,d.field,d.wire,d.want,d.utf,d.end_⟩:Dcd) _ _),?_⟩
 refine have hm1:(Db ⟨d,[]⟩ u).d=(A8 (⟨d.plan,d.mode,d.stack,(⟨0,0⟩:Scn),d.start,d.at_,d.field,d.wire,d.want,d.utf,d.end_⟩:Dcd) 7 d.start):=?_;?_
 rotate_left
 refine have hm2:(Db ⟨d,[]⟩ u).out=[Aw 7 d.start]:=?_;?_
 rotate_left
 exact⟨Q5,Q11⟩
 refine⟨(Ac Q2 Q2),(Ac Q2 Q2),(Jt (⟨d.plan,2,[(⟨d.plan.root,u⟩:Lev)],(⟨0,0⟩:Scn),d.start,d.at_,d.field,d.wire,d.want,d.utf,d.end_⟩:Dcd) (⟨1,0,0,u,[],0,0⟩:Ev) Q17),?_⟩
 refine have hm1:(Db ⟨d,[]⟩ u).d=(Af ⟨(⟨d.plan,2,[(⟨d.plan.root,u⟩:Lev)],(⟨0,0⟩:Scn),d.start,d.at_,d.field,d.wire,d.want,d.utf,d.end_⟩:Dcd),[]⟩).d:=?_;?_
 rotate_left
 refine have hm2:(Db ⟨d,[]⟩ u).out=(⟨1,0,0,u,[],0,0⟩:Ev)::(Af ⟨(⟨d.plan,2,[(⟨d.plan.root,u⟩:Lev)],(⟨0,0⟩:Scn),d.start,d.at_,d.field,d.wire,d.want,d.utf,d.end_⟩:Dcd),[]⟩).out:=?_;?_
 rotate_left
 exact⟨Q5,Q11⟩
 all_goals first|(simp_all[Db,Ain,A7,A8,scn0,utf0,Cs];done)|(grind[Db,Ain,A7,A8,scn0,utf0,Cs])
set_option maxHeartbeats 1600000 in
theorem Ap7 (d:Dcd) (u:Int) (hp1:Bn d=true) (hp2:(0:Int)≤u∧u≤18446744073709551615):Fun Tryz.prog 131 [.agg (Cd d),.c (.int .u64 u)] [] (.tup [.agg (Ak 0 1 (Fc ⟨d,[]⟩ u).d),vO 2]) [.tree (Fc ⟨d,[]⟩ u).d.plan.shapes,.lst .lev (Fc ⟨d,[]⟩ u).d.stack,.lst .ev (Fc ⟨d,[]⟩ u).out]:=by
 have hN:Be=274877906944:=rfl
 have hlv:=Cb hp1
 have hpt:=By hlv.1
 have htb:=H9 hp1
 have htw:=Ane u
 have hwb:=D5 (Ag u)
 have hmx:max (Az (Ag u)) 1=if 1>Az (Ag u) then 1 else Az (Ag u):=by split<;>omega
 have hw1:C7 (Ag u)=true→¬Ag u=0→¬Ag u=2→1≤Az (Ag u):=by
  intro a b c
  simp[C7] at a
  unfold Az
  split<;>(try split)<;>omega
 refine Ar Tryz.func131 Q4 Q4 (w:=let zi:Int→C:= .int .i64;let z11:List C:=[zi d.want,zi d.utf.want,zi d.utf.low,zi d.utf.high,zi d.end_.kind,zi d.end_.field,.int .u64 d.end_.bits,zi d.end_.len,.str d.end_.text,zi d.end_.code,zi d.end_.at_];let z12:List C:=[.nil,zi 0,zi 0,zi 0,zi 0,.nil,.int .u64 0,zi 0,zi 0,zi 0,zi 0,zi 0,.bool false,.bool false,zi 0,zi 0,zi 0,zi 0,zi 0,zi 0,zi 0,zi 0,.int .u64 0,zi 0,.str [],zi 0,zi 0];let z14:=((List.length d.stack:Nat):Int);let z15:=Fc ⟨d,[]⟩ u;let z16:=(⟨0,0⟩:Scn);let z13:=(⟨d.plan,d.mode,d.stack,z16,d.start,d.at_,d.field,d.wire,d.want,d.utf,d.end_⟩:Dcd);let z19:=Ag u;let z20:=A8 z13 2 d.start;let z18:List Blk:=[.dead,.dead,.tree z20.plan.shapes,.lst .lev z20.stack,.lst .ev [Aw 2 d.start]];let z21:=Ak 0 1 z15.d;let z22:=([.tree d.plan.shapes,.lst .lev d.stack,.lst .ev ([]:List Ev)]:List Blk);let z23:=A8 z13 3 d.start;let z24:=A8 z13 4 d.start;let z25:=(0:Int)≤z14-1;let z26:=([.tree z20.plan.shapes,.lst .lev z20.stack,.lst .ev [Aw 2 d.start]]:List Blk);let z27:=vI (z14-1);let z17:=(.v (vI (IntKind.i64.wrap (z14-1))):S)= .v z27;let z28:List Blk:=[.dead,.dead,.tree z23.plan.shapes,.lst .lev z23.stack,.lst .ev [Aw 3 d.start]];let z29:List Blk:=[.dead,.dead,.tree z24.plan.shapes,.lst .lev z24.stack,.lst .ev [Aw 4 d.start]];let z30:=decide (Ag u=0);let z31:=decide (Ag u=2);let z32:=vI (Az z19);let z33:=Ak 2 3 z20;let z34:=(.tup [.agg (Ak 0 1 z20),vO 2]:S);let z35:=Ba u;(.seg [.call [] (.v (.agg (Ak 0 1 d))) [.tree d.plan.shapes,.lst .lev d.stack],.call [] (.v (vB (Bn d))) [],.br false,.call [] (.tup [vI z35,vI z19,vB (Gv u)]) []] (.br (.seg [.call [2,3] (.tup [.agg z33,vO 4]) z18] (.leaf () [5,6,7])) (.br (.seg [.call [2,3] (.tup [.agg z33,vO 4]) z18] (.leaf () [5,6,7])) (.intro (fun (x1:Lev)=>d.stack[Int.toNat (z14-1)]? =some x1) fun x1=>let z2:=fieldAt d.plan.shapes x1.msg z35;let z1:=z2.getD fld0;.seg [.tree (fr (.two 11 (fr (.one 15 (.one 16 (.first 17 (.done)))) 12 3) 15 (.one 11 (fr (.one 16 (.first 17 (.done))) 12 3))) 0 11) 18 [],.as 51 (.v z27),.el .lev x1,.call [] (.tup [.agg (Ej z1),vB z2.isSome]) [],.at 0,.keep [2,4,6,8,10,11,12],.sel [0,1,4,2,3,5],.call [] (.tup [.agg (Ej z1),vB z2.isSome]) [],.at 0,.keep [2,4,6,8,10,11,12],.sel [0,1,4,2,3,5],.call [] (.v (vB (C7 z19))) []] (.br (.seg [.call [3,4] (.tup [.agg (Ak 2 3 z23),vO 4]) z28] (.leaf () [6,7,8])) (.br (.seg [.call [] (.v (vB (Cq z1 z19))) []] (.br (.seg [.call [3,4] (.tup [.agg (Ak 2 3 z24),vO 4]) z29] (.leaf () [6,7,8])) (.br (.seg [.as 98 (.v z27),.el .lev x1] (.br (.seg [.call [3,4] (.tup [.agg (Ak 2 3 (A8 (⟨d.plan,3,d.stack,z16,d.start,d.at_,z1,Ag u,d.want,d.utf,d.end_⟩:Dcd) 9 d.at_)),vO 4]) [.dead,.dead,.tree (A8 (⟨d.plan,3,d.stack,z16,d.start,d.at_,z1,Ag u,d.want,d.utf,d.end_⟩:Dcd) 9 d.at_).plan.shapes,.lst .lev (A8 (⟨d.plan,3,d.stack,z16,d.start,d.at_,z1,Ag u,d.want,d.utf,d.end_⟩:Dcd) 9 d.at_).stack,.lst .ev [Aw 9 d.at_]]] (.leaf () [6,7,8])) (.seg [.ty .ev] (.leaf () [3,4,6])))) (.br (.seg [.as 98 (.v z27),.el .lev x1] (.br (.seg [.call [3,4] (.tup [.agg (Ak 2 3 (A8 (⟨d.plan,4,d.stack,z16,d.start,d.at_,z1,Ag u,d.want,d.utf,d.end_⟩:Dcd) 9 d.at_)),vO 4]) [.dead,.dead,.tree (A8 (⟨d.plan,4,d.stack,z16,d.start,d.at_,z1,Ag u,d.want,d.utf,d.end_⟩:Dcd) 9 d.at_).plan.shapes,.lst .lev (A8 (⟨d.plan,4,d.stack,z16,d.start,d.at_,z1,Ag u,d.want,d.utf,d.end_⟩:Dcd) 9 d.at_).stack,.lst .ev [Aw 9 d.at_]]] (.leaf () [6,7,8])) (.seg [.ty .ev] (.leaf () [3,4,6])))) (.seg [.call [] (.v z32) [],.as 98 (.v z27),.el .lev x1] (.br (.seg [.call [3,4] (.tup [.agg (Ak 2 3 (A8 (⟨d.plan,5,d.stack,z16,d.start,d.at_,z1,Ag u,d.want,d.utf,d.end_⟩:Dcd) 9 d.at_)),vO 4]) [.dead,.dead,.tree (A8 (⟨d.plan,5,d.stack,z16,d.start,d.at_,z1,Ag u,d.want,d.utf,d.end_⟩:Dcd) 9 d.at_).plan.shapes,.lst .lev (A8 (⟨d.plan,5,d.stack,z16,d.start,d.at_,z1,Ag u,d.want,d.utf,d.end_⟩:Dcd) 9 d.at_).stack,.lst .ev [Aw 9 d.at_]]] (.leaf () [6,7,8])) (.seg [.ty .ev] (.leaf () [3,4,6])))))))) (.br (.seg [.as 98 (.v z27),.el .lev x1] (.br (.seg [.call [3,4] (.tup [.agg (Ak 2 3 (A8 (⟨d.plan,3,d.stack,z16,d.start,d.at_,z1,Ag u,d.want,d.utf,d.end_⟩:Dcd) 9 d.at_)),vO 4]) [.dead,.dead,.tree (A8 (⟨d.plan,3,d.stack,z16,d.start,d.at_,z1,Ag u,d.want,d.utf,d.end_⟩:Dcd) 9 d.at_).plan.shapes,.lst .lev (A8 (⟨d.plan,3,d.stack,z16,d.start,d.at_,z1,Ag u,d.want,d.utf,d.end_⟩:Dcd) 9 d.at_).stack,.lst .ev [Aw 9 d.at_]]] (.leaf () [6,7,8])) (.seg [.ty .ev] (.leaf () [3,4,6])))) (.br (.seg [.as 98 (.v z27),.el .lev x1] (.br (.seg [.call [3,4] (.tup [.agg (Ak 2 3 (A8 (⟨d.plan,4,d.stack,z16,d.start,d.at_,z1,Ag u,d.want,d.utf,d.end_⟩:Dcd) 9 d.at_)),vO 4]) [.dead,.dead,.tree (A8 (⟨d.plan,4,d.stack,z16,d.start,d.at_,z1,Ag u,d.want,d.utf,d.end_⟩:Dcd) 9 d.at_).plan.shapes,.lst .lev (A8 (⟨d.plan,4,d.stack,z16,d.start,d.at_,z1,Ag u,d.want,d.utf,d.end_⟩:Dcd) 9 d.at_).stack,.lst .ev [Aw 9 d.at_]]] (.leaf () [6,7,8])) (.seg [.ty .ev] (.leaf () [3,4,6])))) (.seg [.call [] (.v z32) [],.as 98 (.v z27),.el .lev x1] (.br (.seg [.call [3,4] (.tup [.agg (Ak 2 3 (A8 (⟨d.plan,5,d.stack,z16,d.start,d.at_,z1,Ag u,d.want,d.utf,d.end_⟩:Dcd) 9 d.at_)),vO 4]) [.dead,.dead,.tree (A8 (⟨d.plan,5,d.stack,z16,d.start,d.at_,z1,Ag u,d.want,d.utf,d.end_⟩:Dcd) 9 d.at_).plan.shapes,.lst .lev (A8 (⟨d.plan,5,d.stack,z16,d.start,d.at_,z1,Ag u,d.want,d.utf,d.end_⟩:Dcd) 9 d.at_).stack,.lst .ev [Aw 9 d.at_]]] (.leaf () [6,7,8])) (.seg [.ty .ev] (.leaf () [3,4,6]))))))))))),(Fun Tryz.prog 58 [.agg (Cd d)] [] (.v (.agg (Ak 0 1 d))) [.tree d.plan.shapes,.lst .lev d.stack])∧(Fun Tryz.prog 181 [.agg (Cd d)] [] (.v (vB (Bn d))) [])∧((!(Bn d))=false)∧(Fun Tryz.prog 182 [.c (.int .u64 u)] [] (.tup [vI z35,vI z19,vB (Gv u)]) [])∧((!(Gv u))=true→(Fun Tryz.prog 63 [.agg (.own 0::zi d.plan.root::zi d.plan.deep::zi d.plan.most::zi d.mode:: .own 1:: .int .u64 0::zi 0::zi d.start::zi d.at_::zi d.field.number::zi d.field.kind:: .bool d.field.rep:: .bool d.field.packed::zi d.field.msg::zi d.wire::z11),vI 2,vI d.start] [.tree d.plan.shapes,.lst .lev d.stack] (.tup [.agg z33,vO 4]) z18)∧z34= .tup [.agg z21,vO 2]∧z26=[.tree z15.d.plan.shapes,.lst .lev z15.d.stack,.lst .ev z15.out])∧((!(Gv u))=false→((decide (z14=0))=true→(Fun Tryz.prog 63 [.agg (.own 0::zi d.plan.root::zi d.plan.deep::zi d.plan.most::zi d.mode:: .own 1:: .int .u64 0::zi 0::zi d.start::zi d.at_::zi d.field.number::zi d.field.kind:: .bool d.field.rep:: .bool d.field.packed::zi d.field.msg::zi d.wire::z11),vI 2,vI d.start] [.tree d.plan.shapes,.lst .lev d.stack] (.tup [.agg z33,vO 4]) z18)∧z34= .tup [.agg z21,vO 2]∧z26=[.tree z15.d.plan.shapes,.lst .lev z15.d.stack,.lst .ev z15.out])∧((decide (z14=0))=false→(∃(x1:Lev),d.stack[Int.toNat (z14-1)]? =some x1)∧∀(x1:Lev),(d.stack[Int.toNat (z14-1)]? =some x1)→(let z7:=d.stack[Int.toNat (z14-1)]? =some x1;let z8:=fieldAt d.plan.shapes x1.msg z35;let z3:=z8.getD fld0;let z9:=decide (x1.left<1);let z5:=z9=false→(.tup [.agg (.own 0::zi d.plan.root::zi d.plan.deep::zi d.plan.most::zi 3:: .own 1:: .int .u64 0::zi 0::zi d.start::zi d.at_::zi z3.number::zi z3.kind:: .bool z3.rep:: .bool z3.packed::zi z3.msg::zi z19::z11),vO 2]:S)= .tup [.agg z21,vO 2]∧z22=[.tree z15.d.plan.shapes,.lst .lev z15.d.stack,.lst .ev z15.out];let z6:=z9=false→(.tup [.agg (.own 0::zi d.plan.root::zi d.plan.deep::zi d.plan.most::zi 4:: .own 1:: .int .u64 0::zi 0::zi d.start::zi d.at_::zi z3.number::zi z3.kind:: .bool z3.rep:: .bool z3.packed::zi z3.msg::zi z19::z11),vO 2]:S)= .tup [.agg z21,vO 2]∧z22=[.tree z15.d.plan.shapes,.lst .lev z15.d.stack,.lst .ev z15.out];let z10:=decide (x1.left<Az z19);let z4:=z10=false→(.tup [.agg (.own 0::zi d.plan.root::zi d.plan.deep::zi d.plan.most::zi 5:: .own 1:: .int .u64 0::zi 0::zi d.start::zi d.at_::zi z3.number::zi z3.kind:: .bool z3.rep:: .bool z3.packed::zi z3.msg::zi z19::z11),vO 2]:S)= .tup [.agg z21,vO 2]∧z22=[.tree z15.d.plan.shapes,.lst .lev z15.d.stack,.lst .ev z15.out];z17∧z17∧z7∧z25∧z7∧z25∧(Fun Tryz.prog 133 [.agg [.seq .shp d.plan.shapes],vI x1.msg,vI z35] [] (.tup [.agg (Ej z3),vB z8.isSome]) [])∧(Fun Tryz.prog 133 [.agg [.seq .shp d.plan.shapes],vI x1.msg,vI z35] [] (.tup [.agg (Ej z3),vB z8.isSome]) [])∧(([.cells (Cd d),.cells z12,.cells (.own 3::zi d.plan.root::zi d.plan.deep::zi d.plan.most::zi d.mode:: .own 4:: .int .u64 0::zi 0::zi d.start::zi d.at_::zi d.field.number::zi d.field.kind:: .bool d.field.rep:: .bool d.field.packed::zi d.field.msg::zi d.wire::z11),.tree d.plan.shapes,.lst .lev d.stack,.cells (Ej z3)]:List Blk)=[.cells (Cd d),.cells z12,.cells (.own 3::zi d.plan.root::zi d.plan.deep::zi d.plan.most::zi d.mode:: .own 4:: .int .u64 0::zi 0::zi d.start::zi d.at_::zi d.field.number::zi d.field.kind:: .bool d.field.rep:: .bool d.field.packed::zi d.field.msg::zi d.wire::z11),.tree d.plan.shapes,.lst .lev d.stack,.cells (Ej z3)])∧(([(2,.v (vP 0)),(4,.v (vP 1)),(6,.v (vP 2)),(8,.v (vI z19)),(10,.v (vI z14)),(11,.v (vP 5)),(12,.v (vB z8.isSome))]:List (Nat×S))=[(2,.v (vP 0)),(4,.v (vP 1)),(6,.v (vP 2)),(8,.v (vI z19)),(10,.v (vI z14)),(11,.v (vP 5)),(12,.v (vB z8.isSome))])∧(Fun Tryz.prog 69 [vI z19] [] (.v (vB (C7 z19))) [])∧((!(C7 z19))=true→(Fun Tryz.prog 63 [.agg (.own 0::zi d.plan.root::zi d.plan.deep::zi d.plan.most::zi d.mode:: .own 1:: .int .u64 0::zi 0::zi d.start::zi d.at_::zi d.field.number::zi d.field.kind:: .bool d.field.rep:: .bool d.field.packed::zi d.field.msg::zi d.wire::z11),vI 3,vI d.start] [.tree d.plan.shapes,.lst .lev d.stack] (.tup [.agg (Ak 2 3 z23),vO 4]) z28)∧(.tup [.agg (Ak 0 1 z23),vO 2]:S)= .tup [.agg z21,vO 2]∧([.tree z23.plan.shapes,.lst .lev z23.stack,.lst .ev [Aw 3 d.start]]:List Blk)=[.tree z15.d.plan.shapes,.lst .lev z15.d.stack,.lst .ev z15.out])∧((!(C7 z19))=false→(z8.isSome=true→(Fun Tryz.prog 75 [.agg (Ej z3),vI z19] [] (.v (vB (Cq z3 z19))) [])∧((!(Cq z3 z19))=true→(Fun Tryz.prog 63 [.agg (.own 0::zi d.plan.root::zi d.plan.deep::zi d.plan.most::zi d.mode:: .own 1:: .int .u64 0::zi 0::zi d.start::zi d.at_::zi d.field.number::zi d.field.kind:: .bool d.field.rep:: .bool d.field.packed::zi d.field.msg::zi d.wire::z11),vI 4,vI d.start] [.tree d.plan.shapes,.lst .lev d.stack] (.tup [.agg (Ak 2 3 z24),vO 4]) z29)∧(.tup [.agg (Ak 0 1 z24),vO 2]:S)= .tup [.agg z21,vO 2]∧([.tree z24.plan.shapes,.lst .lev z24.stack,.lst .ev [Aw 4 d.start]]:List Blk)=[.tree z15.d.plan.shapes,.lst .lev z15.d.stack,.lst .ev z15.out])∧((!(Cq z3 z19))=false→(z30=true→z17∧z7∧z25∧(z9=true→(Fun Tryz.prog 63 [.agg (.own 0::zi d.plan.root::zi d.plan.deep::zi d.plan.most::zi 3:: .own 1:: .int .u64 0::zi 0::zi d.start::zi d.at_::zi z3.number::zi z3.kind:: .bool z3.rep:: .bool z3.packed::zi z3.msg::zi z19::z11),vI 9,vI d.at_] [.tree d.plan.shapes,.lst .lev d.stack] (.tup [.agg (Ak 2 3 (A8 (⟨d.plan,3,d.stack,z16,d.start,d.at_,z3,Ag u,d.want,d.utf,d.end_⟩:Dcd) 9 d.at_)),vO 4]) [.dead,.dead,.tree (A8 (⟨d.plan,3,d.stack,z16,d.start,d.at_,z3,Ag u,d.want,d.utf,d.end_⟩:Dcd) 9 d.at_).plan.shapes,.lst .lev (A8 (⟨d.plan,3,d.stack,z16,d.start,d.at_,z3,Ag u,d.want,d.utf,d.end_⟩:Dcd) 9 d.at_).stack,.lst .ev [Aw 9 d.at_]])∧(.tup [.agg (Ak 0 1 (A8 (⟨d.plan,3,d.stack,z16,d.start,d.at_,z3,Ag u,d.want,d.utf,d.end_⟩:Dcd) 9 d.at_)),vO 2]:S)= .tup [.agg z21,vO 2]∧([.tree (A8 (⟨d.plan,3,d.stack,z16,d.start,d.at_,z3,Ag u,d.want,d.utf,d.end_⟩:Dcd) 9 d.at_).plan.shapes,.lst .lev (A8 (⟨d.plan,3,d.stack,z16,d.start,d.at_,z3,Ag u,d.want,d.utf,d.end_⟩:Dcd) 9 d.at_).stack,.lst .ev [Aw 9 d.at_]]:List Blk)=[.tree z15.d.plan.shapes,.lst .lev z15.d.stack,.lst .ev z15.out])∧z5)∧(z30=false→(z31=true→z17∧z7∧z25∧(z9=true→(Fun Tryz.prog 63 [.agg (.own 0::zi d.plan.root::zi d.plan.deep::zi d.plan.most::zi 4:: .own 1:: .int .u64 0::zi 0::zi d.start::zi d.at_::zi z3.number::zi z3.kind:: .bool z3.rep:: .bool z3.packed::zi z3.msg::zi z19::z11),vI 9,vI d.at_] [.tree d.plan.shapes,.lst .lev d.stack] (.tup [.agg (Ak 2 3 (A8 (⟨d.plan,4,d.stack,z16,d.start,d.at_,z3,Ag u,d.want,d.utf,d.end_⟩:Dcd) 9 d.at_)),vO 4]) [.dead,.dead,.tree (A8 (⟨d.plan,4,d.stack,z16,d.start,d.at_,z3,Ag u,d.want,d.utf,d.end_⟩:Dcd) 9 d.at_).plan.shapes,.lst .lev (A8 (⟨d.plan,4,d.stack,z16,d.start,d.at_,z3,Ag u,d.want,d.utf,d.end_⟩:Dcd) 9 d.at_).stack,.lst .ev [Aw 9 d.at_]])∧(.tup [.agg (Ak 0 1 (A8 (⟨d.plan,4,d.stack,z16,d.start,d.at_,z3,Ag u,d.want,d.utf,d.end_⟩:Dcd) 9 d.at_)),vO 2]:S)= .tup [.agg z21,vO 2]∧([.tree (A8 (⟨d.plan,4,d.stack,z16,d.start,d.at_,z3,Ag u,d.want,d.utf,d.end_⟩:Dcd) 9 d.at_).plan.shapes,.lst .lev (A8 (⟨d.plan,4,d.stack,z16,d.start,d.at_,z3,Ag u,d.want,d.utf,d.end_⟩:Dcd) 9 d.at_).stack,.lst .ev [Aw 9 d.at_]]:List Blk)=[.tree z15.d.plan.shapes,.lst .lev z15.d.stack,.lst .ev z15.out])∧z6)∧(z31=false→(Fun Tryz.prog 74 [vI z19] [] (.v z32) [])∧z17∧z7∧z25∧(z10=true→(Fun Tryz.prog 63 [.agg (.own 0::zi d.plan.root::zi d.plan.deep::zi d.plan.most::zi 5:: .own 1:: .int .u64 0::zi 0::zi d.start::zi d.at_::zi z3.number::zi z3.kind:: .bool z3.rep:: .bool z3.packed::zi z3.msg::zi z19::z11),vI 9,vI d.at_] [.tree d.plan.shapes,.lst .lev d.stack] (.tup [.agg (Ak 2 3 (A8 (⟨d.plan,5,d.stack,z16,d.start,d.at_,z3,Ag u,d.want,d.utf,d.end_⟩:Dcd) 9 d.at_)),vO 4]) [.dead,.dead,.tree (A8 (⟨d.plan,5,d.stack,z16,d.start,d.at_,z3,Ag u,d.want,d.utf,d.end_⟩:Dcd) 9 d.at_).plan.shapes,.lst .lev (A8 (⟨d.plan,5,d.stack,z16,d.start,d.at_,z3,Ag u,d.want,d.utf,d.end_⟩:Dcd) 9 d.at_).stack,.lst .ev [Aw 9 d.at_]])∧(.tup [.agg (Ak 0 1 (A8 (⟨d.plan,5,d.stack,z16,d.start,d.at_,z3,Ag u,d.want,d.utf,d.end_⟩:Dcd) 9 d.at_)),vO 2]:S)= .tup [.agg z21,vO 2]∧([.tree (A8 (⟨d.plan,5,d.stack,z16,d.start,d.at_,z3,Ag u,d.want,d.utf,d.end_⟩:Dcd) 9 d.at_).plan.shapes,.lst .lev (A8 (⟨d.plan,5,d.stack,z16,d.start,d.at_,z3,Ag u,d.want,d.utf,d.end_⟩:Dcd) 9 d.at_).stack,.lst .ev [Aw 9 d.at_]]:List Blk)=[.tree z15.d.plan.shapes,.lst .lev z15.d.stack,.lst .ev z15.out])∧z4))))∧(z8.isSome=false→(z30=true→z17∧z7∧z25∧(z9=true→(Fun Tryz.prog 63 [.agg (.own 0::zi d.plan.root::zi d.plan.deep::zi d.plan.most::zi 3:: .own 1:: .int .u64 0::zi 0::zi d.start::zi d.at_::zi z3.number::zi z3.kind:: .bool z3.rep:: .bool z3.packed::zi z3.msg::zi z19::z11),vI 9,vI d.at_] [.tree d.plan.shapes,.lst .lev d.stack] (.tup [.agg (Ak 2 3 (A8 (⟨d.plan,3,d.stack,z16,d.start,d.at_,z3,Ag u,d.want,d.utf,d.end_⟩:Dcd) 9 d.at_)),vO 4]) [.dead,.dead,.tree (A8 (⟨d.plan,3,d.stack,z16,d.start,d.at_,z3,Ag u,d.want,d.utf,d.end_⟩:Dcd) 9 d.at_).plan.shapes,.lst .lev (A8 (⟨d.plan,3,d.stack,z16,d.start,d.at_,z3,Ag u,d.want,d.utf,d.end_⟩:Dcd) 9 d.at_).stack,.lst .ev [Aw 9 d.at_]])∧(.tup [.agg (Ak 0 1 (A8 (⟨d.plan,3,d.stack,z16,d.start,d.at_,z3,Ag u,d.want,d.utf,d.end_⟩:Dcd) 9 d.at_)),vO 2]:S)= .tup [.agg z21,vO 2]∧([.tree (A8 (⟨d.plan,3,d.stack,z16,d.start,d.at_,z3,Ag u,d.want,d.utf,d.end_⟩:Dcd) 9 d.at_).plan.shapes,.lst .lev (A8 (⟨d.plan,3,d.stack,z16,d.start,d.at_,z3,Ag u,d.want,d.utf,d.end_⟩:Dcd) 9 d.at_).stack,.lst .ev [Aw 9 d.at_]]:List Blk)=[.tree z15.d.plan.shapes,.lst .lev z15.d.stack,.lst .ev z15.out])∧z5)∧(z30=false→(z31=true→z17∧z7∧z25∧(z9=true→(Fun Tryz.prog 63 [.agg (.own 0::zi d.plan.root::zi d.plan.deep::zi d.plan.most::zi 4:: .own 1:: .int .u64 0::zi 0::zi d.start::zi d.at_::zi z3.number::zi z3.kind:: .bool z3.rep:: .bool z3.packed::zi z3.msg::zi z19::z11),vI 9,vI d.at_] [.tree d.plan.shapes,.lst .lev d.stack] (.tup [.agg (Ak 2 3 (A8 (⟨d.plan,4,d.stack,z16,d.start,d.at_,z3,Ag u,d.want,d.utf,d.end_⟩:Dcd) 9 d.at_)),vO 4]) [.dead,.dead,.tree (A8 (⟨d.plan,4,d.stack,z16,d.start,d.at_,z3,Ag u,d.want,d.utf,d.end_⟩:Dcd) 9 d.at_).plan.shapes,.lst .lev (A8 (⟨d.plan,4,d.stack,z16,d.start,d.at_,z3,Ag u,d.want,d.utf,d.end_⟩:Dcd) 9 d.at_).stack,.lst .ev [Aw 9 d.at_]])∧(.tup [.agg (Ak 0 1 (A8 (⟨d.plan,4,d.stack,z16,d.start,d.at_,z3,Ag u,d.want,d.utf,d.end_⟩:Dcd) 9 d.at_)),vO 2]:S)= .tup [.agg z21,vO 2]∧([.tree (A8 (⟨d.plan,4,d.stack,z16,d.start,d.at_,z3,Ag u,d.want,d.utf,d.end_⟩:Dcd) 9 d.at_).plan.shapes,.lst .lev (A8 (⟨d.plan,4,d.stack,z16,d.start,d.at_,z3,Ag u,d.want,d.utf,d.end_⟩:Dcd) 9 d.at_).stack,.lst .ev [Aw 9 d.at_]]:List Blk)=[.tree z15.d.plan.shapes,.lst .lev z15.d.stack,.lst .ev z15.out])∧z6)∧(z31=false→(Fun Tryz.prog 74 [vI z19] [] (.v z32) [])∧z17∧z7∧z25∧(z10=true→(Fun Tryz.prog 63 [.agg (.own 0::zi d.plan.root::zi d.plan.deep::zi d.plan.most::zi 5:: .own 1:: .int .u64 0::zi 0::zi d.start::zi d.at_::zi z3.number::zi z3.kind:: .bool z3.rep:: .bool z3.packed::zi z3.msg::zi z19::z11),vI 9,vI d.at_] [.tree d.plan.shapes,.lst .lev d.stack] (.tup [.agg (Ak 2 3 (A8 (⟨d.plan,5,d.stack,z16,d.start,d.at_,z3,Ag u,d.want,d.utf,d.end_⟩:Dcd) 9 d.at_)),vO 4]) [.dead,.dead,.tree (A8 (⟨d.plan,5,d.stack,z16,d.start,d.at_,z3,Ag u,d.want,d.utf,d.end_⟩:Dcd) 9 d.at_).plan.shapes,.lst .lev (A8 (⟨d.plan,5,d.stack,z16,d.start,d.at_,z3,Ag u,d.want,d.utf,d.end_⟩:Dcd) 9 d.at_).stack,.lst .ev [Aw 9 d.at_]])∧(.tup [.agg (Ak 0 1 (A8 (⟨d.plan,5,d.stack,z16,d.start,d.at_,z3,Ag u,d.want,d.utf,d.end_⟩:Dcd) 9 d.at_)),vO 2]:S)= .tup [.agg z21,vO 2]∧([.tree (A8 (⟨d.plan,5,d.stack,z16,d.start,d.at_,z3,Ag u,d.want,d.utf,d.end_⟩:Dcd) 9 d.at_).plan.shapes,.lst .lev (A8 (⟨d.plan,5,d.stack,z16,d.start,d.at_,z3,Ag u,d.want,d.utf,d.end_⟩:Dcd) 9 d.at_).stack,.lst .ev [Aw 9 d.at_]]:List Blk)=[.tree z15.d.plan.shapes,.lst .lev z15.d.stack,.lst .ev z15.out])∧z4))))))))) Q4 ?_
 refine⟨(T3 d Q2 (Em hpt.2.1) Q2),(U5 d Q2 Q2),(by simp[hp1]),(Ah3 _ Q2),fun h1=>have q1:=Ap h1;?_,fun h1=>have q1:=Ao h1;?_⟩
 refine⟨(Do (⟨d.plan,d.mode,d.stack,(⟨0,0⟩:Scn),d.start,d.at_,d.field,d.wire,d.want,d.utf,d.end_⟩:Dcd) _ _),?_⟩
 refine have hm1:(Fc ⟨d,[]⟩ u).d=(A8 (⟨d.plan,d.mode,d.stack,(⟨0,0⟩:Scn),d.start,d.at_,d.field,d.wire,d.want,d.utf,d.end_⟩:Dcd) 2 d.start):=?_;?_
 rotate_left
 refine have hm2:(Fc ⟨d,[]⟩ u).out=[Aw 2 d.start]:=?_;?_
 rotate_left
 exact⟨Q5,Q11⟩
 refine dsp (fun h2 p2=>?_) fun h2 p2=>?_
 refine⟨(Do (⟨d.plan,d.mode,d.stack,(⟨0,0⟩:Scn),d.start,d.at_,d.field,d.wire,d.want,d.utf,d.end_⟩:Dcd) _ _),?_⟩
 refine have hm1:(Fc ⟨d,[]⟩ u).d=(A8 (⟨d.plan,d.mode,d.stack,(⟨0,0⟩:Scn),d.start,d.at_,d.field,d.wire,d.want,d.utf,d.end_⟩:Dcd) 2 d.start):=?_;?_
 rotate_left
 refine have hm2:(Fc ⟨d,[]⟩ u).out=[Aw 2 d.start]:=?_;?_
 rotate_left
 exact⟨Q5,Q11⟩
 refine⟨(Bq (l:=d.stack) (i:=Int.toNat (((List.length d.stack:Nat):Int)-1)) Q2),fun x1 hx1=>?_⟩
 have hll:=Kv (d:=d) (by rw[←hx1];congr 1;omega)
 have hix:Int.toNat ((d.stack.length:Int)-1)=d.stack.length-1:=by omega
 refine⟨(Ac Q2 Q2),(Ac Q2 Q2),hx1,Q2,hx1,Q2,(To d.plan.shapes _ _ Q2 (Di hpt.2.1)),(To d.plan.shapes _ _ Q2 (Di hpt.2.1)),rfl,rfl,(Aak _),fun h3=>have q3:=Ap h3;?_,fun h3=>have q3:=Ao h3;?_⟩
 refine⟨(Do (⟨d.plan,d.mode,d.stack,(⟨0,0⟩:Scn),d.start,d.at_,d.field,d.wire,d.want,d.utf,d.end_⟩:Dcd) _ _),?_⟩
 refine have hm1:(Fc ⟨d,[]⟩ u).d=(A8 (⟨d.plan,d.mode,d.stack,(⟨0,0⟩:Scn),d.start,d.at_,d.field,d.wire,d.want,d.utf,d.end_⟩:Dcd) 3 d.start):=?_;?_
 rotate_left
 refine have hm2:(Fc ⟨d,[]⟩ u).out=[Aw 3 d.start]:=?_;?_
 rotate_left
 exact⟨Q5,Q11⟩
 refine⟨fun h4=>?_,fun h4=>?_⟩
 refine⟨(Xj ((fieldAt d.plan.shapes x1.msg (Ba u)).getD fld0) _ Q2),fun h5=>have q5:=Ap h5;?_,fun h5=>have q5:=Ao h5;?_⟩
 refine⟨(Do (⟨d.plan,d.mode,d.stack,(⟨0,0⟩:Scn),d.start,d.at_,d.field,d.wire,d.want,d.utf,d.end_⟩:Dcd) _ _),?_⟩
 refine have hm1:(Fc ⟨d,[]⟩ u).d=(A8 (⟨d.plan,d.mode,d.stack,(⟨0,0⟩:Scn),d.start,d.at_,d.field,d.wire,d.want,d.utf,d.end_⟩:Dcd) 4 d.start):=?_;?_
 rotate_left
 refine have hm2:(Fc ⟨d,[]⟩ u).out=[Aw 4 d.start]:=?_;?_
 rotate_left
 exact⟨Q5,Q11⟩
 refine dsp (fun h6 p6=>?_) fun h6 p6=>?_
 refine⟨(Ac Q2 Q2),hx1,Q2,dsp (fun h7 p7=>?_) fun h7 p7=>?_⟩
 refine⟨(Do (⟨d.plan,3,d.stack,(⟨0,0⟩:Scn),d.start,d.at_,((fieldAt d.plan.shapes x1.msg (Ba u)).getD fld0),Ag u,d.want,d.utf,d.end_⟩:Dcd) _ _),?_⟩
 refine have hm1:(Fc ⟨d,[]⟩ u).d=(A8 (⟨d.plan,3,d.stack,(⟨0,0⟩:Scn),d.start,d.at_,((fieldAt d.plan.shapes x1.msg (Ba u)).getD fld0),Ag u,d.want,d.utf,d.end_⟩:Dcd) 9 d.at_):=?_;?_
 rotate_left
 refine have hm2:(Fc ⟨d,[]⟩ u).out=[Aw 9 d.at_]:=?_;?_
 rotate_left
 exact⟨Q5,Q11⟩
 refine have hm1:(Fc ⟨d,[]⟩ u).d=(⟨d.plan,3,d.stack,(⟨0,0⟩:Scn),d.start,d.at_,((fieldAt d.plan.shapes x1.msg (Ba u)).getD fld0),Ag u,d.want,d.utf,d.end_⟩:Dcd):=?_;?_
 rotate_left
 refine have hm2:(Fc ⟨d,[]⟩ u).out=([]:List Ev):=?_;?_
 rotate_left
 exact⟨Q5,Q11⟩
 refine dsp (fun h7 p7=>?_) fun h7 p7=>?_
 refine⟨(Ac Q2 Q2),hx1,Q2,dsp (fun h8 p8=>?_) fun h8 p8=>?_⟩
 refine⟨(Do (⟨d.plan,4,d.stack,(⟨0,0⟩:Scn),d.start,d.at_,((fieldAt d.plan.shapes x1.msg (Ba u)).getD fld0),Ag u,d.want,d.utf,d.end_⟩:Dcd) _ _),?_⟩
 refine have hm1:(Fc ⟨d,[]⟩ u).d=(A8 (⟨d.plan,4,d.stack,(⟨0,0⟩:Scn),d.start,d.at_,((fieldAt d.plan.shapes x1.msg (Ba u)).getD fld0),Ag u,d.want,d.utf,d.end_⟩:Dcd) 9 d.at_):=?_;?_
 rotate_left
 refine have hm2:(Fc ⟨d,[]⟩ u).out=[Aw 9 d.at_]:=?_;?_
 rotate_left
 exact⟨Q5,Q11⟩
 refine have hm1:(Fc ⟨d,[]⟩ u).d=(⟨d.plan,4,d.stack,(⟨0,0⟩:Scn),d.start,d.at_,((fieldAt d.plan.shapes x1.msg (Ba u)).getD fld0),Ag u,d.want,d.utf,d.end_⟩:Dcd):=?_;?_
 rotate_left
 refine have hm2:(Fc ⟨d,[]⟩ u).out=([]:List Ev):=?_;?_
 rotate_left
 exact⟨Q5,Q11⟩
 refine⟨(D7 _),(Ac Q2 Q2),hx1,Q2,dsp (fun h8 p8=>?_) fun h8 p8=>?_⟩
 refine⟨(Do (⟨d.plan,5,d.stack,(⟨0,0⟩:Scn),d.start,d.at_,((fieldAt d.plan.shapes x1.msg (Ba u)).getD fld0),Ag u,d.want,d.utf,d.end_⟩:Dcd) _ _),?_⟩
 refine have hm1:(Fc ⟨d,[]⟩ u).d=(A8 (⟨d.plan,5,d.stack,(⟨0,0⟩:Scn),d.start,d.at_,((fieldAt d.plan.shapes x1.msg (Ba u)).getD fld0),Ag u,d.want,d.utf,d.end_⟩:Dcd) 9 d.at_):=?_;?_
 rotate_left
 refine have hm2:(Fc ⟨d,[]⟩ u).out=[Aw 9 d.at_]:=?_;?_
 rotate_left
 exact⟨Q5,Q11⟩
 refine have hm1:(Fc ⟨d,[]⟩ u).d=(⟨d.plan,5,d.stack,(⟨0,0⟩:Scn),d.start,d.at_,((fieldAt d.plan.shapes x1.msg (Ba u)).getD fld0),Ag u,d.want,d.utf,d.end_⟩:Dcd):=?_;?_
 rotate_left
 refine have hm2:(Fc ⟨d,[]⟩ u).out=([]:List Ev):=?_;?_
 rotate_left
 exact⟨Q5,Q11⟩
 refine dsp (fun h5 p5=>?_) fun h5 p5=>?_
 refine⟨(Ac Q2 Q2),hx1,Q2,dsp (fun h6 p6=>?_) fun h6 p6=>?_⟩
 refine⟨(Do (⟨d.plan,3,d.stack,(⟨0,0⟩:Scn),d.start,d.at_,((fieldAt d.plan.shapes x1.msg (Ba u)).getD fld0),Ag u,d.want,d.utf,d.end_⟩:Dcd) _ _),?_⟩
 refine have hm1:(Fc ⟨d,[]⟩ u).d=(A8 (⟨d.plan,3,d.stack,(⟨0,0⟩:Scn),d.start,d.at_,((fieldAt d.plan.shapes x1.msg (Ba u)).getD fld0),Ag u,d.want,d.utf,d.end_⟩:Dcd) 9 d.at_):=?_;?_
 rotate_left
 refine have hm2:(Fc ⟨d,[]⟩ u).out=[Aw 9 d.at_]:=?_;?_
 rotate_left
 exact⟨Q5,Q11⟩
 refine have hm1:(Fc ⟨d,[]⟩ u).d=(⟨d.plan,3,d.stack,(⟨0,0⟩:Scn),d.start,d.at_,((fieldAt d.plan.shapes x1.msg (Ba u)).getD fld0),Ag u,d.want,d.utf,d.end_⟩:Dcd):=?_;?_
 rotate_left
 refine have hm2:(Fc ⟨d,[]⟩ u).out=([]:List Ev):=?_;?_
 rotate_left
 exact⟨Q5,Q11⟩
 refine dsp (fun h6 p6=>?_) fun h6 p6=>?_
 refine⟨(Ac Q2 Q2),hx1,Q2,dsp (fun h7 p7=>?_) fun h7 p7=>?_⟩
 refine⟨(Do (⟨d.plan,4,d.stack,(⟨0,0⟩:Scn),d.start,d.at_,((fieldAt d.plan.shapes x1.msg (Ba u)).getD fld0),Ag u,d.want,d.utf,d.end_⟩:Dcd) _ _),?_⟩
 refine have hm1:(Fc ⟨d,[]⟩ u).d=(A8 (⟨d.plan,4,d.stack,(⟨0,0⟩:Scn),d.start,d.at_,((fieldAt d.plan.shapes x1.msg (Ba u)).getD fld0),Ag u,d.want,d.utf,d.end_⟩:Dcd) 9 d.at_):=?_;?_
 rotate_left
 refine have hm2:(Fc ⟨d,[]⟩ u).out=[Aw 9 d.at_]:=?_;?_
 rotate_left
 exact⟨Q5,Q11⟩
 refine have hm1:(Fc ⟨d,[]⟩ u).d=(⟨d.plan,4,d.stack,(⟨0,0⟩:Scn),d.start,d.at_,((fieldAt d.plan.shapes x1.msg (Ba u)).getD fld0),Ag u,d.want,d.utf,d.end_⟩:Dcd):=?_;?_
 rotate_left
 refine have hm2:(Fc ⟨d,[]⟩ u).out=([]:List Ev):=?_;?_
 rotate_left
 exact⟨Q5,Q11⟩
 refine⟨(D7 _),(Ac Q2 Q2),hx1,Q2,dsp (fun h7 p7=>?_) fun h7 p7=>?_⟩
 refine⟨(Do (⟨d.plan,5,d.stack,(⟨0,0⟩:Scn),d.start,d.at_,((fieldAt d.plan.shapes x1.msg (Ba u)).getD fld0),Ag u,d.want,d.utf,d.end_⟩:Dcd) _ _),?_⟩
 refine have hm1:(Fc ⟨d,[]⟩ u).d=(A8 (⟨d.plan,5,d.stack,(⟨0,0⟩:Scn),d.start,d.at_,((fieldAt d.plan.shapes x1.msg (Ba u)).getD fld0),Ag u,d.want,d.utf,d.end_⟩:Dcd) 9 d.at_):=?_;?_
 rotate_left
 refine have hm2:(Fc ⟨d,[]⟩ u).out=[Aw 9 d.at_]:=?_;?_
 rotate_left
 exact⟨Q5,Q11⟩
 refine have hm1:(Fc ⟨d,[]⟩ u).d=(⟨d.plan,5,d.stack,(⟨0,0⟩:Scn),d.start,d.at_,((fieldAt d.plan.shapes x1.msg (Ba u)).getD fld0),Ag u,d.want,d.utf,d.end_⟩:Dcd):=?_;?_
 rotate_left
 refine have hm2:(Fc ⟨d,[]⟩ u).out=([]:List Ev):=?_;?_
 rotate_left
 exact⟨Q5,Q11⟩
 all_goals first|((unfold Fc;simp only[hll.1,hll.2];(repeat' split)<;>first|(simp_all[Az,A7,A8,scn0];done)|(exfalso;simp_all[Az];omega)|grind[Az,A7,A8,scn0]))|(first|(simp_all[Fc,Az,A7,A8,scn0,utf0,Cs];done)|(grind[Fc,Az,A7,A8,scn0,utf0,Cs]))
set_option maxHeartbeats 1600000 in
theorem Anj (d:Dcd) (u:Int) (hp1:Bn d=true) (hp2:(0:Int)≤u∧u≤18446744073709551615) (hp3:((d).field=fld0∨known (d).plan.shapes (d).field=true)):Fun Tryz.prog 132 [.agg (Cd d),.c (.int .u64 u)] [] (.tup [.agg (Ak 0 1 (Cv ⟨d,[]⟩ u).d),vO 2]) [.tree (Cv ⟨d,[]⟩ u).d.plan.shapes,.lst .lev (Cv ⟨d,[]⟩ u).d.stack,.lst .ev (Cv ⟨d,[]⟩ u).out]:=by
 have hN:Be=274877906944:=rfl
 have hlv:=Cb hp1
 have hpt:=By hlv.1
 have htb:=H9 hp1
 have hwb:=D5 (Br d.field.kind)
 refine Ar Tryz.func132 Q4 Q4 (w:=let zi:Int→C:= .int .i64;let z7:List C:=[zi d.end_.kind,zi d.end_.field,.int .u64 d.end_.bits,zi d.end_.len,.str d.end_.text,zi d.end_.code,zi d.end_.at_];let z6:List C:= .own 1:: .int .u64 0::zi 0::zi d.start::zi d.at_::zi d.field.number::zi d.field.kind:: .bool d.field.rep:: .bool d.field.packed::zi d.field.msg::zi d.wire::zi u::zi d.utf.want::zi d.utf.low::zi d.utf.high::z7;let z8:List C:=[zi d.field.number,.int .u64 0,zi u,.str [],zi 0,zi 0];let z14:=((List.length d.stack:Nat):Int);let z15:=Cv ⟨d,[]⟩ u;let z20:=decide (d.field.number=0)&&(decide (d.field.kind=0)&&(decide (d.field.rep=false)&&(decide (d.field.packed=false)&&decide (d.field.msg=0))));let z21:=Ak 0 1 z15.d;let z24:=Br d.field.kind;let z26:=(⟨6,d.field.number,0,u,[],0,0⟩:Ev);let z30:=(0:Int)≤z14-1;let z32:=(⟨0,0⟩:Scn);let z9:=(⟨d.plan,8,d.stack,z32,d.start,d.at_,d.field,d.wire,u,d.utf,d.end_⟩:Dcd);let z10:=Af ⟨(⟨d.plan,6,d.stack,z32,d.start,d.at_,d.field,d.wire,u,(⟨0,0,0⟩:Utf),d.end_⟩:Dcd),[]⟩;let z11:=A8 (⟨d.plan,d.mode,d.stack,z32,d.start,d.at_,d.field,d.wire,d.want,d.utf,d.end_⟩:Dcd) 8 d.start;let z12:=Af ⟨(⟨d.plan,7,d.stack,z32,d.start,d.at_,d.field,d.wire,u,d.utf,d.end_⟩:Dcd),[]⟩;let z13:=A8 (⟨d.plan,d.mode,d.stack,z32,d.start,d.at_,d.field,d.wire,u,d.utf,d.end_⟩:Dcd) 6 d.start;let z18:List Blk:=[.dead,.dead,.tree z11.plan.shapes,.lst .lev z11.stack,.lst .ev [Aw 8 d.start]];let z19:=Af ⟨z9,[]⟩;let z17:List Blk:=[.dead,.dead,.tree z19.d.plan.shapes,.lst .lev z19.d.stack,.lst .ev z19.out];let z23:=A8 z9 9 d.at_;let z25:=([.tree z11.plan.shapes,.lst .lev z11.stack,.lst .ev [Aw 8 d.start]]:List Blk);let z27:List Blk:=[.dead,.dead,.tree z13.plan.shapes,.lst .lev z13.stack,.lst .ev [Aw 6 d.start]];let z28:=([.tree z19.d.plan.shapes,.lst .lev z19.d.stack,.lst .ev z19.out]:List Blk);let z29:List Blk:=[.dead,.dead,.tree z23.plan.shapes,.lst .lev z23.stack,.lst .ev [Aw 9 d.at_]];let z31:List Blk:=[.dead,.dead,.tree z12.d.plan.shapes,.lst .lev z12.d.stack,.lst .ev z12.out];let z33:=(⟨d.field.msg,u⟩:Lev);let z34:=(⟨3,d.field.number,0,u,[],0,0⟩:Ev)::z10.out;let z16:List Blk:=[.dead,.dead,.tree z10.d.plan.shapes,.lst .lev z10.d.stack,.lst .ev z34];let z22:=([.tree z10.d.plan.shapes,.lst .lev z10.d.stack,.lst .ev z34]:List Blk);let z35:=Ak 2 3 z10.d;let z36:=Ak 2 3 z19.d;let z37:=Ak 2 3 z11;let z38:=(.tup [.agg (Ak 0 1 z10.d),vO 2]:S);let z39:=(.tup [.agg (Ak 0 1 z19.d),vO 2]:S);let z40:=(.tup [.agg (Ak 0 1 z11),vO 2]:S);(.seg [.call [] (.v (.agg (Ak 0 1 d))) [.tree d.plan.shapes,.lst .lev d.stack],.call [] (.v (vB (Bn d))) [],.br false,.as 22 (.v (vI (z14-1)))] (.br (.seg [.call [2,3] (.tup [.agg z37,vO 4]) z18] (.leaf () [5,6,7])) (.intro (fun (x1:Lev)=>d.stack[Int.toNat (z14-1)]? =some x1) fun x1=>let z1:=Af ⟨(⟨d.plan,2,(List.set d.stack (Int.toNat (z14-1)) (⟨x1.msg,x1.left-u⟩:Lev))++[z33],z32,d.start,d.at_,d.field,d.wire,0,d.utf,d.end_⟩:Dcd),[]⟩;.seg [.el .lev x1,.as 33 (.v (.c (.int .u64 x1.left)))] (.br (.seg [.call [2,3] (.tup [.agg z37,vO 4]) z18] (.leaf () [5,6,7])) (.seg [.as 45 (.v (vI u))] (.br (.seg [.call [2,3] (.tup [.agg (Ak 2 3 z12.d),vO 4]) z31] (.leaf () [6,7,8])) (.br (.br (.seg [.call [2,3] (.tup [.agg (Ak 2 3 z13),vO 4]) z27] (.leaf () [6,7,8])) (.seg [.ord (os 14 [13]) [],.el .lev x1,.as 84 (.v (vI (x1.left-u))),.el .lev x1,.ty .lev,.ty .lev,.call [2,7] (.tup [.agg (Ak 2 3 z1.d),vO 4]) [.dead,.dead,.tree z1.d.plan.shapes,.lst .lev z1.d.stack,.lst .ev (z26::z1.out)]] (.leaf () [8,9,10]))) (.br (.seg [.call [2,3] (.tup [.agg z35,vO 4]) z16] (.leaf () [6,7,8])) (.br (.seg [.call [2,3] (.tup [.agg z35,vO 4]) z16] (.leaf () [6,7,8])) (.br (.seg [.call [] (.v (vI z24)) [],.call [] (.v (vI (Az z24))) []] (.br (.seg [.call [2,3] (.tup [.agg (Ak 2 3 z23),vO 4]) z29] (.leaf () [6,7,8])) (.seg [.call [2,3] (.tup [.agg z36,vO 4]) z17] (.leaf () [6,7,8])))) (.seg [.call [2,3] (.tup [.agg z36,vO 4]) z17] (.leaf () [6,7,8]))))))))))),(Fun Tryz.prog 58 [.agg (Cd d)] [] (.v (.agg (Ak 0 1 d))) [.tree d.plan.shapes,.lst .lev d.stack])∧(Fun Tryz.prog 181 [.agg (Cd d)] [] (.v (vB (Bn d))) [])∧((!(Bn d))=false)∧((.v (vI (IntKind.i64.wrap (z14-1))):S)= .v (vI (z14-1)))∧((decide (z14-1<0))=true→(Fun Tryz.prog 63 [.agg (.own 0::zi d.plan.root::zi d.plan.deep::zi d.plan.most::zi d.mode:: .own 1:: .int .u64 0::zi 0::zi d.start::zi d.at_::zi d.field.number::zi d.field.kind:: .bool d.field.rep:: .bool d.field.packed::zi d.field.msg::zi d.wire::zi d.want::zi d.utf.want::zi d.utf.low::zi d.utf.high::z7),vI 8,vI d.start] [.tree d.plan.shapes,.lst .lev d.stack] (.tup [.agg z37,vO 4]) z18)∧z40= .tup [.agg z21,vO 2]∧z25=[.tree z15.d.plan.shapes,.lst .lev z15.d.stack,.lst .ev z15.out])∧((decide (z14-1<0))=false→(∃(x1:Lev),d.stack[Int.toNat (z14-1)]? =some x1)∧∀(x1:Lev),(d.stack[Int.toNat (z14-1)]? =some x1)→(let z3:=d.stack[Int.toNat (z14-1)]? =some x1;let z4:=List.set d.stack (Int.toNat (z14-1)) (⟨x1.msg,x1.left-u⟩:Lev);let z2:=Af ⟨(⟨d.plan,2,z4++[z33],z32,d.start,d.at_,d.field,d.wire,0,d.utf,d.end_⟩:Dcd),[]⟩;let z5:=(.v (vI (IntKind.i64.wrap (x1.left-u))):S)= .v (vI (x1.left-u));z3∧z30∧((.v (.c (.int .u64 (IntKind.u64.wrap (x1.left)))):S)= .v (.c (.int .u64 x1.left)))∧((decide (x1.left<u))=true→(Fun Tryz.prog 63 [.agg (.own 0::zi d.plan.root::zi d.plan.deep::zi d.plan.most::zi d.mode:: .own 1:: .int .u64 0::zi 0::zi d.start::zi d.at_::zi d.field.number::zi d.field.kind:: .bool d.field.rep:: .bool d.field.packed::zi d.field.msg::zi d.wire::zi d.want::zi d.utf.want::zi d.utf.low::zi d.utf.high::z7),vI 8,vI d.start] [.tree d.plan.shapes,.lst .lev d.stack] (.tup [.agg z37,vO 4]) z18)∧z40= .tup [.agg z21,vO 2]∧z25=[.tree z15.d.plan.shapes,.lst .lev z15.d.stack,.lst .ev z15.out])∧((decide (x1.left<u))=false→((.v (vI (IntKind.i64.wrap (u))):S)= .v (vI u))∧(z20=true→(Fun Tryz.prog 61 [.agg (.own 0::zi d.plan.root::zi d.plan.deep::zi d.plan.most::zi 7::z6)] [.tree d.plan.shapes,.lst .lev d.stack] (.tup [.agg (Ak 2 3 z12.d),vO 4]) z31)∧(.tup [.agg (Ak 0 1 z12.d),vO 2]:S)= .tup [.agg z21,vO 2]∧([.tree z12.d.plan.shapes,.lst .lev z12.d.stack,.lst .ev z12.out]:List Blk)=[.tree z15.d.plan.shapes,.lst .lev z15.d.stack,.lst .ev z15.out])∧(z20=false→((decide (d.field.kind=8))=true→((decide (d.plan.deep≤z14))=true→(Fun Tryz.prog 63 [.agg (.own 0::zi d.plan.root::zi d.plan.deep::zi d.plan.most::zi d.mode::z6),vI 6,vI d.start] [.tree d.plan.shapes,.lst .lev d.stack] (.tup [.agg (Ak 2 3 z13),vO 4]) z27)∧(.tup [.agg (Ak 0 1 z13),vO 2]:S)= .tup [.agg z21,vO 2]∧([.tree z13.plan.shapes,.lst .lev z13.stack,.lst .ev [Aw 6 d.start]]:List Blk)=[.tree z15.d.plan.shapes,.lst .lev z15.d.stack,.lst .ev z15.out])∧((decide (d.plan.deep≤z14))=false→z3∧z30∧z3∧z30∧z5∧z5∧(z14-1<z14)∧z30∧(z14-1<z14)∧z30∧z3∧(List.length z4+List.length [z33]≤Be)∧(Fun Tryz.prog 64 [.agg (.own 0::zi d.plan.root::zi d.plan.deep::zi d.plan.most::zi 2:: .own 1:: .int .u64 0::zi 0::zi d.start::zi d.at_::zi d.field.number::zi d.field.kind:: .bool d.field.rep:: .bool d.field.packed::zi d.field.msg::zi d.wire::zi 0::zi d.utf.want::zi d.utf.low::zi d.utf.high::z7),.agg (zi 6::z8)] [.tree d.plan.shapes,.lst .lev (z4++[z33])] (.tup [.agg (Ak 2 3 z2.d),vO 4]) [.dead,.dead,.tree z2.d.plan.shapes,.lst .lev z2.d.stack,.lst .ev (z26::z2.out)])∧(.tup [.agg (Ak 0 1 z2.d),vO 2]:S)= .tup [.agg z21,vO 2]∧([.tree z2.d.plan.shapes,.lst .lev z2.d.stack,.lst .ev (z26::z2.out)]:List Blk)=[.tree z15.d.plan.shapes,.lst .lev z15.d.stack,.lst .ev z15.out]))∧((decide (d.field.kind=8))=false→((decide (d.field.kind=6))=true→(Fun Tryz.prog 64 [.agg (.own 0::zi d.plan.root::zi d.plan.deep::zi d.plan.most::zi 6:: .own 1:: .int .u64 0::zi 0::zi d.start::zi d.at_::zi d.field.number::zi d.field.kind:: .bool d.field.rep:: .bool d.field.packed::zi d.field.msg::zi d.wire::zi u::zi 0::zi 0::zi 0::z7),.agg (zi 3::z8)] [.tree d.plan.shapes,.lst .lev d.stack] (.tup [.agg z35,vO 4]) z16)∧z38= .tup [.agg z21,vO 2]∧z22=[.tree z15.d.plan.shapes,.lst .lev z15.d.stack,.lst .ev z15.out])∧((decide (d.field.kind=6))=false→((decide (d.field.kind=7))=true→(Fun Tryz.prog 64 [.agg (.own 0::zi d.plan.root::zi d.plan.deep::zi d.plan.most::zi 6:: .own 1:: .int .u64 0::zi 0::zi d.start::zi d.at_::zi d.field.number::zi d.field.kind:: .bool d.field.rep:: .bool d.field.packed::zi d.field.msg::zi d.wire::zi u::zi 0::zi 0::zi 0::z7),.agg (zi 3::z8)] [.tree d.plan.shapes,.lst .lev d.stack] (.tup [.agg z35,vO 4]) z16)∧z38= .tup [.agg z21,vO 2]∧z22=[.tree z15.d.plan.shapes,.lst .lev z15.d.stack,.lst .ev z15.out])∧((decide (d.field.kind=7))=false→((decide (0<u))=true→(Fun Tryz.prog 124 [vI d.field.kind] [] (.v (vI z24)) [])∧(Fun Tryz.prog 74 [vI z24] [] (.v (vI (Az z24))) [])∧((decide (u<Az z24))=true→(Fun Tryz.prog 63 [.agg (.own 0::zi d.plan.root::zi d.plan.deep::zi d.plan.most::zi 8::z6),vI 9,vI d.at_] [.tree d.plan.shapes,.lst .lev d.stack] (.tup [.agg (Ak 2 3 z23),vO 4]) z29)∧(.tup [.agg (Ak 0 1 z23),vO 2]:S)= .tup [.agg z21,vO 2]∧([.tree z23.plan.shapes,.lst .lev z23.stack,.lst .ev [Aw 9 d.at_]]:List Blk)=[.tree z15.d.plan.shapes,.lst .lev z15.d.stack,.lst .ev z15.out])∧((decide (u<Az z24))=false→(Fun Tryz.prog 61 [.agg (.own 0::zi d.plan.root::zi d.plan.deep::zi d.plan.most::zi 8::z6)] [.tree d.plan.shapes,.lst .lev d.stack] (.tup [.agg z36,vO 4]) z17)∧z39= .tup [.agg z21,vO 2]∧z28=[.tree z15.d.plan.shapes,.lst .lev z15.d.stack,.lst .ev z15.out]))∧((decide (0<u))=false→(Fun Tryz.prog 61 [.agg (.own 0::zi d.plan.root::zi d.plan.deep::zi d.plan.most::zi 8::z6)] [.tree d.plan.shapes,.lst .lev d.stack] (.tup [.agg z36,vO 4]) z17)∧z39= .tup [.agg z21,vO 2]∧z28=[.tree z15.d.plan.shapes,.lst .lev z15.d.stack,.lst .ev z15.out])))))))))) Q4 ?_
 refine⟨(T3 d Q2 (Em hpt.2.1) Q2),(U5 d Q2 Q2),(by simp[hp1]),(Ac Q2 Q2),dsp (fun h1 p1=>?_) fun h1 p1=>?_⟩
 refine⟨(Do (⟨d.plan,d.mode,d.stack,(⟨0,0⟩:Scn),d.start,d.at_,d.field,d.wire,d.want,d.utf,d.end_⟩:Dcd) _ _),?_⟩
 refine have hm1:(Cv ⟨d,[]⟩ u).d=(A8 (⟨d.plan,d.mode,d.stack,(⟨0,0⟩:Scn),d.start,d.at_,d.field,d.wire,d.want,d.utf,d.end_⟩:Dcd) 8 d.start):=?_;?_
 rotate_left
 refine have hm2:(Cv ⟨d,[]⟩ u).out=[Aw 8 d.start]:=?_;?_
 rotate_left
 exact⟨Q5,Q11⟩
 refine⟨(Bq (l:=d.stack) (i:=Int.toNat (((List.length d.stack:Nat):Int)-1)) Q2),fun x1 hx1=>?_⟩
 have hll:=Kv (d:=d) (by rw[←hx1];congr 1;omega)
 have hix:Int.toNat ((d.stack.length:Int)-1)=d.stack.length-1:=by omega
 refine⟨hx1,Q2,(Bp Q2 Q2),dsp (fun h2 p2=>?_) fun h2 p2=>?_⟩
 refine⟨(Do (⟨d.plan,d.mode,d.stack,(⟨0,0⟩:Scn),d.start,d.at_,d.field,d.wire,d.want,d.utf,d.end_⟩:Dcd) _ _),?_⟩
 refine have hm1:(Cv ⟨d,[]⟩ u).d=(A8 (⟨d.plan,d.mode,d.stack,(⟨0,0⟩:Scn),d.start,d.at_,d.field,d.wire,d.want,d.utf,d.end_⟩:Dcd) 8 d.start):=?_;?_
 rotate_left
 refine have hm2:(Cv ⟨d,[]⟩ u).out=[Aw 8 d.start]:=?_;?_
 rotate_left
 exact⟨Q5,Q11⟩
 refine⟨(Ac Q2 Q2),fun h3=>have p3:=(Cw dT (Cw dT (Cw dT (Cw dT dT)))).1 h3;?_,fun h3=>have p3:=(Cx dT (Cx dT (Cx dT (Cx dT dF)))).1 h3;?_⟩
 refine⟨(Js (⟨d.plan,7,d.stack,(⟨0,0⟩:Scn),d.start,d.at_,d.field,d.wire,u,d.utf,d.end_⟩:Dcd) Q7),?_⟩
 refine have hm1:(Cv ⟨d,[]⟩ u).d=(Af ⟨(⟨d.plan,7,d.stack,(⟨0,0⟩:Scn),d.start,d.at_,d.field,d.wire,u,d.utf,d.end_⟩:Dcd),[]⟩).d:=?_;?_
 rotate_left
 refine have hm2:(Cv ⟨d,[]⟩ u).out=(Af ⟨(⟨d.plan,7,d.stack,(⟨0,0⟩:Scn),d.start,d.at_,d.field,d.wire,u,d.utf,d.end_⟩:Dcd),[]⟩).out:=?_;?_
 rotate_left
 exact⟨Q5,Q11⟩
 refine dsp (fun h4 p4=>?_) fun h4 p4=>?_
 refine dsp (fun h5 p5=>?_) fun h5 p5=>?_
 refine⟨(Do (⟨d.plan,d.mode,d.stack,(⟨0,0⟩:Scn),d.start,d.at_,d.field,d.wire,u,d.utf,d.end_⟩:Dcd) _ _),?_⟩
 refine have hm1:(Cv ⟨d,[]⟩ u).d=(A8 (⟨d.plan,d.mode,d.stack,(⟨0,0⟩:Scn),d.start,d.at_,d.field,d.wire,u,d.utf,d.end_⟩:Dcd) 6 d.start):=?_;?_
 rotate_left
 refine have hm2:(Cv ⟨d,[]⟩ u).out=[Aw 6 d.start]:=?_;?_
 rotate_left
 exact⟨Q5,Q11⟩
 refine⟨hx1,Q2,hx1,Q2,(Ac Q2 Q2),(Ac Q2 Q2),Q2,Q2,Q2,Q2,hx1,Q80,(Jt (⟨d.plan,2,(List.set d.stack (Int.toNat (((List.length d.stack:Nat):Int)-1)) (⟨x1.msg,x1.left-u⟩:Lev))++[(⟨d.field.msg,u⟩:Lev)],(⟨0,0⟩:Scn),d.start,d.at_,d.field,d.wire,0,d.utf,d.end_⟩:Dcd) (⟨6,d.field.number,0,u,[],0,0⟩:Ev) Q17),?_⟩
 refine have hm1:(Cv ⟨d,[]⟩ u).d=(Af ⟨(⟨d.plan,2,(List.set d.stack (Int.toNat (((List.length d.stack:Nat):Int)-1)) (⟨x1.msg,x1.left-u⟩:Lev))++[(⟨d.field.msg,u⟩:Lev)],(⟨0,0⟩:Scn),d.start,d.at_,d.field,d.wire,0,d.utf,d.end_⟩:Dcd),[]⟩).d:=?_;?_
 rotate_left
 refine have hm2:(Cv ⟨d,[]⟩ u).out=(⟨6,d.field.number,0,u,[],0,0⟩:Ev)::(Af ⟨(⟨d.plan,2,(List.set d.stack (Int.toNat (((List.length d.stack:Nat):Int)-1)) (⟨x1.msg,x1.left-u⟩:Lev))++[(⟨d.field.msg,u⟩:Lev)],(⟨0,0⟩:Scn),d.start,d.at_,d.field,d.wire,0,d.utf,d.end_⟩:Dcd),[]⟩).out:=?_;?_
 rotate_left
 exact⟨Q5,Q11⟩
 refine dsp (fun h5 p5=>?_) fun h5 p5=>?_
 refine⟨(Jt (⟨d.plan,6,d.stack,(⟨0,0⟩:Scn),d.start,d.at_,d.field,d.wire,u,(⟨0,0,0⟩:Utf),d.end_⟩:Dcd) (⟨3,d.field.number,0,u,[],0,0⟩:Ev) Q7),?_⟩
 refine have hm1:(Cv ⟨d,[]⟩ u).d=(Af ⟨(⟨d.plan,6,d.stack,(⟨0,0⟩:Scn),d.start,d.at_,d.field,d.wire,u,(⟨0,0,0⟩:Utf),d.end_⟩:Dcd),[]⟩).d:=?_;?_
 rotate_left
 refine have hm2:(Cv ⟨d,[]⟩ u).out=(⟨3,d.field.number,0,u,[],0,0⟩:Ev)::(Af ⟨(⟨d.plan,6,d.stack,(⟨0,0⟩:Scn),d.start,d.at_,d.field,d.wire,u,(⟨0,0,0⟩:Utf),d.end_⟩:Dcd),[]⟩).out:=?_;?_
 rotate_left
 exact⟨Q5,Q11⟩
 refine dsp (fun h6 p6=>?_) fun h6 p6=>?_
 refine⟨(Jt (⟨d.plan,6,d.stack,(⟨0,0⟩:Scn),d.start,d.at_,d.field,d.wire,u,(⟨0,0,0⟩:Utf),d.end_⟩:Dcd) (⟨3,d.field.number,0,u,[],0,0⟩:Ev) Q7),?_⟩
 refine have hm1:(Cv ⟨d,[]⟩ u).d=(Af ⟨(⟨d.plan,6,d.stack,(⟨0,0⟩:Scn),d.start,d.at_,d.field,d.wire,u,(⟨0,0,0⟩:Utf),d.end_⟩:Dcd),[]⟩).d:=?_;?_
 rotate_left
 refine have hm2:(Cv ⟨d,[]⟩ u).out=(⟨3,d.field.number,0,u,[],0,0⟩:Ev)::(Af ⟨(⟨d.plan,6,d.stack,(⟨0,0⟩:Scn),d.start,d.at_,d.field,d.wire,u,(⟨0,0,0⟩:Utf),d.end_⟩:Dcd),[]⟩).out:=?_;?_
 rotate_left
 exact⟨Q5,Q11⟩
 refine dsp (fun h7 p7=>?_) fun h7 p7=>?_
 refine⟨(Nz _),(D7 _),dsp (fun h8 p8=>?_) fun h8 p8=>?_⟩
 refine⟨(Do (⟨d.plan,8,d.stack,(⟨0,0⟩:Scn),d.start,d.at_,d.field,d.wire,u,d.utf,d.end_⟩:Dcd) _ _),?_⟩
 refine have hm1:(Cv ⟨d,[]⟩ u).d=(A8 (⟨d.plan,8,d.stack,(⟨0,0⟩:Scn),d.start,d.at_,d.field,d.wire,u,d.utf,d.end_⟩:Dcd) 9 d.at_):=?_;?_
 rotate_left
 refine have hm2:(Cv ⟨d,[]⟩ u).out=[Aw 9 d.at_]:=?_;?_
 rotate_left
 exact⟨Q5,Q11⟩
 refine⟨(Js (⟨d.plan,8,d.stack,(⟨0,0⟩:Scn),d.start,d.at_,d.field,d.wire,u,d.utf,d.end_⟩:Dcd) Q7),?_⟩
 refine have hm1:(Cv ⟨d,[]⟩ u).d=(Af ⟨(⟨d.plan,8,d.stack,(⟨0,0⟩:Scn),d.start,d.at_,d.field,d.wire,u,d.utf,d.end_⟩:Dcd),[]⟩).d:=?_;?_
 rotate_left
 refine have hm2:(Cv ⟨d,[]⟩ u).out=(Af ⟨(⟨d.plan,8,d.stack,(⟨0,0⟩:Scn),d.start,d.at_,d.field,d.wire,u,d.utf,d.end_⟩:Dcd),[]⟩).out:=?_;?_
 rotate_left
 exact⟨Q5,Q11⟩
 refine⟨(Js (⟨d.plan,8,d.stack,(⟨0,0⟩:Scn),d.start,d.at_,d.field,d.wire,u,d.utf,d.end_⟩:Dcd) Q7),?_⟩
 refine have hm1:(Cv ⟨d,[]⟩ u).d=(Af ⟨(⟨d.plan,8,d.stack,(⟨0,0⟩:Scn),d.start,d.at_,d.field,d.wire,u,d.utf,d.end_⟩:Dcd),[]⟩).d:=?_;?_
 rotate_left
 refine have hm2:(Cv ⟨d,[]⟩ u).out=(Af ⟨(⟨d.plan,8,d.stack,(⟨0,0⟩:Scn),d.start,d.at_,d.field,d.wire,u,d.utf,d.end_⟩:Dcd),[]⟩).out:=?_;?_
 rotate_left
 exact⟨Q5,Q11⟩
 all_goals first|(simp_all[Cv,Adm,Adn,Dc,Hb,A7,A8,scn0,utf0,Cs];done)|((have e0:d.field≠fld0:=(fun h=>by have:=congrArg Fld.kind h;simp only[fld0] at this;omega);have e1: ¬(d.stack.length=0∨Ef d<u):=(by omega);have e2: ¬d.plan.deep≤(d.stack.length:Int):=(by omega);unfold Cv;simp only;rw[if_neg e1,if_neg e0,if_pos (by assumption),if_neg e2,hll.1,hll.2];simp only[List.nil_append,Cs,hix];rfl))|((unfold Cv;simp only[hll.1,hll.2,hix,List.nil_append,Cs,Dc,Hb];(repeat' split)<;>first|rfl|(exfalso;omega)|(simp_all[Adm,Adn,A7,A8,scn0,utf0,Cs];done)|(exfalso;simp_all;omega)|(exfalso;grind)|grind[Adm,Adn,A7,A8,scn0,utf0,Cs]))|(grind[Cv,Adm,Adn,Dc,Hb,A7,A8,scn0,utf0,Cs])
theorem X4 (d:Dcd) (u:Int) (hp1:List.length (d).stack≤1000) (hp2:(0:Int)≤u∧u≤18446744073709551615):Fun Tryz.prog 128 [.agg (Ak 0 1 d),.c (.int .u64 u)] [.tree d.plan.shapes,.lst .lev d.stack] (.tup [.agg (Ak 2 3 (Af (Bz ⟨d,[]⟩ u)).d),vO 4]) [.dead,.dead,.tree (Af (Bz ⟨d,[]⟩ u)).d.plan.shapes,.lst .lev (Af (Bz ⟨d,[]⟩ u)).d.stack,.lst .ev (Af (Bz ⟨d,[]⟩ u)).out]:=by
 have hN:Be=274877906944:=rfl
 refine Ar Tryz.func128 Q4 Q4 (w:=let zi:Int→C:= .int .i64;let z1:List C:=[.own 0,zi d.plan.root,zi d.plan.deep,zi d.plan.most,zi 2,.own 1,.int .u64 d.scan.bits,zi d.scan.have_,zi d.start,zi d.at_,zi d.field.number,zi d.field.kind,.bool d.field.rep,.bool d.field.packed,zi d.field.msg,zi d.wire,zi d.want,zi d.utf.want,zi d.utf.low,zi d.utf.high,zi d.end_.kind,zi d.end_.field,.int .u64 d.end_.bits,zi d.end_.len,.str d.end_.text,zi d.end_.code,zi d.end_.at_];let z2:=Af ⟨(⟨d.plan,2,d.stack,d.scan,d.start,d.at_,d.field,d.wire,d.want,d.utf,d.end_⟩:Dcd),[]⟩;let z3:=decide (d.field.number=0)&&(decide (d.field.kind=0)&&(decide (d.field.rep=false)&&(decide (d.field.packed=false)&&decide (d.field.msg=0))));let z5:=Af ⟨d,[]⟩;let z6:List Blk:=[.dead,.dead,.tree z2.d.plan.shapes,.lst .lev z2.d.stack,.lst .ev ((D1 d.field u)::z2.out)];let z7:List Blk:=[.dead,.dead,.tree z5.d.plan.shapes,.lst .lev z5.d.stack,.lst .ev ((D1 d.field u)::z5.out)];let z8:=Af (Bz ⟨d,[]⟩ u);let z4:List Blk:=[.dead,.dead,.tree z8.d.plan.shapes,.lst .lev z8.d.stack,.lst .ev z8.out];let z9:List Blk:=[.dead,.dead,.tree z2.d.plan.shapes,.lst .lev z2.d.stack,.lst .ev z2.out];let z10:List Blk:=[.dead,.dead,.tree z5.d.plan.shapes,.lst .lev z5.d.stack,.lst .ev z5.out];let z11:=cEv (D1 d.field u);let z12:=Ak 2 3 z2.d;let z13:=Ak 2 3 z5.d;let z14:=fr (.one 4 (.one 5 (.first 6 (.first 7 (.one 8 (.first 9 (.done))))))) 0 4;let z15:=Ak 2 3 z8.d;(.br (.br (.seg [.call [0,1] (.tup [.agg z12,vO 4]) z9] (.leaf () [0,1,4,5,6])) (.seg [.tree z14 8 [0,1],.call [] (.v (.agg z11)) [],.call [0,1] (.tup [.agg z12,vO 4]) z6] (.leaf () [0,1,4,5,6]))) (.br (.seg [.call [0,1] (.tup [.agg z13,vO 4]) z10] (.leaf () [0,1,4,5,6])) (.seg [.tree z14 8 [0,1],.call [] (.v (.agg z11)) [],.call [0,1] (.tup [.agg z13,vO 4]) z7] (.leaf () [0,1,4,5,6]))),((!decide (d.mode=8))=true→(z3=true→(Fun Tryz.prog 61 [.agg z1] [.tree d.plan.shapes,.lst .lev d.stack] (.tup [.agg z12,vO 4]) z9)∧(.tup [.agg z12,vO 4]:S)= .tup [.agg z15,vO 4]∧(z9:List Blk)=z4)∧(z3=false→(Fun Tryz.prog 127 [.agg (Ej d.field),.c (.int .u64 u)] [] (.v (.agg z11)) [])∧(Fun Tryz.prog 64 [.agg z1,.agg z11] [.tree d.plan.shapes,.lst .lev d.stack] (.tup [.agg z12,vO 4]) z6)∧(.tup [.agg z12,vO 4]:S)= .tup [.agg z15,vO 4]∧(z6:List Blk)=z4))∧((!decide (d.mode=8))=false→(z3=true→(Fun Tryz.prog 61 [.agg (Ak 0 1 d)] [.tree d.plan.shapes,.lst .lev d.stack] (.tup [.agg z13,vO 4]) z10)∧(.tup [.agg z13,vO 4]:S)= .tup [.agg z15,vO 4]∧(z10:List Blk)=z4)∧(z3=false→(Fun Tryz.prog 127 [.agg (Ej d.field),.c (.int .u64 u)] [] (.v (.agg z11)) [])∧(Fun Tryz.prog 64 [.agg (Ak 0 1 d),.agg z11] [.tree d.plan.shapes,.lst .lev d.stack] (.tup [.agg z13,vO 4]) z7)∧(.tup [.agg z13,vO 4]:S)= .tup [.agg z15,vO 4]∧(z7:List Blk)=z4)))) Q4 ?_
 refine⟨fun h1=>have q1:=Ap h1;have p1:=of_decide_eq_false q1;?_,fun h1=>have q1:=Ao h1;have p1:=of_decide_eq_true q1;?_⟩
 refine⟨fun h2=>have p2:=(Cw dT (Cw dT (Cw dT (Cw dT dT)))).1 h2;?_,fun h2=>have p2:=(Cx dT (Cx dT (Cx dT (Cx dT dF)))).1 h2;?_⟩
 refine⟨(Js (⟨d.plan,2,d.stack,d.scan,d.start,d.at_,d.field,d.wire,d.want,d.utf,d.end_⟩:Dcd) Q7),?_⟩
 refine have hm1:(Af (Bz ⟨d,[]⟩ u)).d=(Af ⟨(⟨d.plan,2,d.stack,d.scan,d.start,d.at_,d.field,d.wire,d.want,d.utf,d.end_⟩:Dcd),[]⟩).d:=?_;?_
 rotate_left
 refine have hm2:(Af (Bz ⟨d,[]⟩ u)).out=(Af ⟨(⟨d.plan,2,d.stack,d.scan,d.start,d.at_,d.field,d.wire,d.want,d.utf,d.end_⟩:Dcd),[]⟩).out:=?_;?_
 rotate_left
 exact⟨Q5,Q11⟩
 refine⟨(M1 d.field _ Q2),(Jt (⟨d.plan,2,d.stack,d.scan,d.start,d.at_,d.field,d.wire,d.want,d.utf,d.end_⟩:Dcd) (D1 d.field u) Q7),?_⟩
 refine have hm1:(Af (Bz ⟨d,[]⟩ u)).d=(Af ⟨(⟨d.plan,2,d.stack,d.scan,d.start,d.at_,d.field,d.wire,d.want,d.utf,d.end_⟩:Dcd),[]⟩).d:=?_;?_
 rotate_left
 refine have hm2:(Af (Bz ⟨d,[]⟩ u)).out=(D1 d.field u)::(Af ⟨(⟨d.plan,2,d.stack,d.scan,d.start,d.at_,d.field,d.wire,d.want,d.utf,d.end_⟩:Dcd),[]⟩).out:=?_;?_
 rotate_left
 exact⟨Q5,Q11⟩
 refine⟨fun h2=>have p2:=(Cw dT (Cw dT (Cw dT (Cw dT dT)))).1 h2;?_,fun h2=>have p2:=(Cx dT (Cx dT (Cx dT (Cx dT dF)))).1 h2;?_⟩
 refine⟨(Js d Q2),?_⟩
 refine have hm1:(Af (Bz ⟨d,[]⟩ u)).d=(Af ⟨d,[]⟩).d:=?_;?_
 rotate_left
 refine have hm2:(Af (Bz ⟨d,[]⟩ u)).out=(Af ⟨d,[]⟩).out:=?_;?_
 rotate_left
 exact⟨Q5,Q11⟩
 refine⟨(M1 d.field _ Q2),(Jt d (D1 d.field u) Q2),?_⟩
 refine have hm1:(Af (Bz ⟨d,[]⟩ u)).d=(Af ⟨d,[]⟩).d:=?_;?_
 rotate_left
 refine have hm2:(Af (Bz ⟨d,[]⟩ u)).out=(D1 d.field u)::(Af ⟨d,[]⟩).out:=?_;?_
 rotate_left
 exact⟨Q5,Q11⟩
 all_goals first|((rw[Aio (by assumption) (Aik (f:=fld0) (by assumption))];simp[Cs];done))|((rw[Aip (by assumption) (Aap (by assumption))];done))|(simp_all[Bz,Dc,Cs];done)|((cases d;simp_all[Bz,Dc,Cs];done))|(grind[Bz,Dc,Cs])
end Go.Proofs.YtcmnedgnppnhoaaGreat.Ax
