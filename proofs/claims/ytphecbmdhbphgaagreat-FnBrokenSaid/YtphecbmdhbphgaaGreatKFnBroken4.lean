/- A byte keeps a decoder right. A byte keeps a decoder right. Whole inputs. Whole inputs: the program. The reference: settling. The reference: frames, tags, lengths. The reference: lengths, numbers. The reference: bytes of numbers. A byte: the reference. Whole inputs: the reference. Models: Fe events. Merged events. Chunks. Chunks. Decoders that are the same. Models: readers, streams. Chunks of an input. Models: streams. Ends of decoders. Models: the grammar. The grammar: numbers, Vb, texts. The grammar: texts. -/
import Derived.Test.YtphecbmdhbphgaaGreatKFnBroken1
import Derived.Test.YtphecbmdhbphgaaGreatKFnBroken3
import Derived.Test.YtphecbmdhbphgaaGreatKFnBroken2
set_option linter.unusedSimpArgs false
set_option linter.unusedVariables false
namespace Go.Proofs.YtphecbmdhbphgaaGreat.Ax
open Go.RowKit
structure Com (d:Dcd):Prop where
 lv:Bt d=true
 at_:0≤d.at_∧d.at_≤1000000000
 st:0≤d.start∧d.start≤d.at_
 ut:Ek d.utf=true
 wi:De d.wire=true
 fl:d.field=fld0∨known d.plan.shapes d.field=true
 en:d.end_=ev0
theorem Hx {d:Dcd} (lv:Bt d=true) (hm:1≤d.mode∧d.mode≤9) (at_:0≤d.at_∧d.at_≤1000000000) (st:0≤d.start∧d.start≤d.at_) (ut:Ek d.utf=true) (wi:De d.wire=true) (fl:d.field=fld0∨known d.plan.shapes d.field=true)
  (h8:Aez d=true) (h9:Kw d=true) (h10:Nu d=true) (h11:Jh d=true) (h12:J6 d=true):Ce d=true:=by
 simp only[Ce,Bool.and_eq_true,Bool.or_eq_true,decide_eq_true_eq]
 refine⟨⟨⟨⟨⟨⟨⟨⟨⟨⟨⟨lv,?_⟩,?_⟩,?_⟩,ut⟩,wi⟩,fl⟩,h8⟩,h9⟩,h10⟩,h11⟩,h12⟩<;>simp only[Ai,Bool.and_eq_true,decide_eq_true_eq]<;>assumption
theorem Ak3 {d:Dcd} {c a:Int} (lv:Bt d=true) (at_:0≤d.at_∧d.at_≤1000000000) (st:0≤d.start∧d.start≤d.at_) (ut:Ek d.utf=true) (wi:De d.wire=true) (fl:d.field=fld0∨known d.plan.shapes d.field=true) (hc:1≤c) (ha:0≤a):Ce (G1 d c a)=true:=by
 have hs:(⟨0,0⟩:Scn)=scn0:=rfl
 refine Hx (B2 lv rfl rfl) (show (1:Int)≤9∧(9:Int)≤9 by decide) at_ st ut wi fl ?_ ?_ ?_ ?_ ?_
 ·simp[Aez,G1,Mq,Qt,Ai,W6,Fc,Bh,Fx,Hw,hc,ha]
 ·simp[Kw,G1]
 ·simp[Nu,G1]
 ·simp[Jh,G1]
 ·simp[J6,G1,Bv,hs]
theorem Com.fail {d:Dcd} (h:Com d) {c a:Int} (hc:1≤c) (ha:0≤a):Ce (G1 d c a)=true:=Ak3 h.lv h.at_ h.st h.ut h.wi h.fl hc ha
theorem Yp {m:Mac} (h:m.d.mode=9∨m.d.mode=1):A2 m=none:=by
 unfold A2
 rw[if_neg (by omega),if_neg (by omega),if_neg (by omega)]
structure Pre (d:Dcd):Prop extends Com d where
 sc:d.scan=scn0
 ne:0<d.stack.length
 md:(d.mode=2∧d.want=0)∨(d.mode=6∧Gj d.field.kind=true∧0≤d.want∧d.want≤Ec d)∨(d.mode=7∧0≤d.want∧d.want≤Ec d)∨(d.mode=8∧Vb d.field=true∧0≤d.want∧d.want≤Ec d∧(d.want=0∨Ak (Ba d.field.kind)≤d.want))
theorem Qv:E1 scn0=true:=by simp[E1,scn0,Ai]
theorem R5 {d e:Dcd} {k:Nat} (h:Bt d=true) (hp:e.plan=d.plan) (hs:e.stack=d.stack.take k):Bt e=true:=by
 have hb:=Cn h
 refine Ho (by rw[hp];exact hb.1) ?_ fun l hl=>?_
 ·rw[hs,hp];have:=hb.2.1;simp only[List.length_take];omega
 ·rw[hp];rw[hs] at hl;exact hb.2.2.2 l (List.mem_of_mem_take hl)
theorem Vn:Ek ⟨0,0,0⟩=true:=by decide
set_option maxHeartbeats 3200000 in
theorem Pre.close {d:Dcd} (h:Pre d) (o:List Ev):(A2 ⟨d,o⟩=none∧Ce d=true)∨∃q,A2 ⟨d,o⟩=some q∧(Pre q.d∨(Ce q.d=true∧A2 q=none)):=by
 have hb:=Np h.lv
 have hsc:=h.sc
 have hne:=h.ne
 have h0:d.scan.have_=0:=by rw[hsc];rfl
 have hb0:d.scan.bits=0:=by rw[hsc];rfl
 have hend:d.mode≠9→Aez d=true:=fun h9=>by unfold Aez;rw[if_neg h9];exact decide_eq_true h.en
 have hst:d.mode≠1→1≤Ec d→Kw d=true:=fun h1 ht=>by unfold Kw;rw[if_neg h1];split;rfl;exact decide_eq_true ht
 rcases h.md with ⟨hm,hw⟩|⟨hm,hk,hw0,hw1⟩|⟨hm,hw0,hw1⟩|⟨hm,hk,hw0,hw1,hw2⟩
 ·by_cases ht:Ec d=0
  ·right
   by_cases h1:d.stack.length=1
   ·refine⟨_,Vi hm h0 hne ht h1,.inr ⟨?_,Yp (.inr rfl)⟩⟩
    have hn:d.stack.take (d.stack.length-1)=[]:=by rw[h1];rfl
    refine Hx (R5 h.lv rfl rfl) (show (1:Int)≤1∧(1:Int)≤9 by decide) h.at_ h.st h.ut h.wi h.fl ?_ ?_ ?_ ?_ ?_
    ·simp[Aez,h.en]
    ·simp[Kw,hn]
    ·simp[Nu,hw]
    ·simp[Jh]
    ·simp[J6,Bv,hsc,Qv]
   ·refine⟨_,Vj hm h0 hne ht h1,.inl ⟨⟨R5 h.lv rfl rfl,h.at_,h.st,h.ut,h.wi,h.fl,h.en⟩,hsc,?_,.inl ⟨hm,hw⟩⟩⟩
    simp only[List.length_take];omega
  ·left
   refine⟨?_,?_⟩
   ·unfold A2;simp only;rw[if_neg (by omega),if_neg (by omega),if_neg (by omega)]
   ·refine Hx h.lv (by omega) h.at_ h.st h.ut h.wi h.fl (hend (by omega)) (hst (by omega) (by omega)) ?_ ?_ ?_
    ·simp[Nu,hm,hw]
    ·simp[Jh,hm]
    ·simp[J6,Bv,hm,hsc,Qv]
 ·by_cases hw:d.want<1
  ·right
   by_cases hu:0<d.utf.want
   ·refine⟨A3 ⟨d,o⟩ 5 d.at_,by unfold A2;simp only;rw[if_pos ⟨hm,hw⟩,if_pos hu],.inr ⟨h.toCom.fail (by decide) h.at_.1,Yp (.inl rfl)⟩⟩
   ·refine⟨_,by unfold A2;simp only;rw[if_pos ⟨hm,hw⟩,if_neg hu],.inl ⟨⟨B2 h.lv rfl rfl,h.at_,h.st,Vn,h.wi,h.fl,h.en⟩,hsc,hne,.inl ⟨rfl,rfl⟩⟩⟩
  ·left
   refine⟨?_,?_⟩
   ·unfold A2;simp only;rw[if_neg (by omega),if_neg (by omega),if_neg (by omega)]
   ·refine Hx h.lv (by omega) h.at_ h.st h.ut h.wi h.fl (hend (by omega)) (hst (by omega) (by omega)) ?_ ?_ ?_
    ·simp[Nu,hm,Ai];omega
    ·simp[Jh,hm,hk]
    ·simp[J6,Bv,hm,hsc]
 ·by_cases hw:d.want<1
  ·right
   refine⟨_,by unfold A2;simp only;rw[if_neg (by omega),if_pos ⟨.inl hm,hw⟩],.inl ⟨⟨B2 h.lv rfl rfl,h.at_,h.st,h.ut,h.wi,h.fl,h.en⟩,hsc,hne,.inl ⟨rfl,rfl⟩⟩⟩
  ·left
   refine⟨?_,?_⟩
   ·unfold A2;simp only;rw[if_neg (by omega),if_neg (by omega),if_neg (by omega)]
   ·refine Hx h.lv (by omega) h.at_ h.st h.ut h.wi h.fl (hend (by omega)) (hst (by omega) (by omega)) ?_ ?_ ?_
    ·simp[Nu,hm,Ai];omega
    ·simp[Jh,hm]
    ·simp[J6,Bv,hm,hsc]
 ·by_cases hw:d.want<1
  ·right
   refine⟨_,by unfold A2;simp only;rw[if_neg (by omega),if_pos ⟨.inr ⟨hm,h0⟩,hw⟩],.inl ⟨⟨B2 h.lv rfl rfl,h.at_,h.st,h.ut,h.wi,h.fl,h.en⟩,hsc,hne,.inl ⟨rfl,rfl⟩⟩⟩
  ·left
   refine⟨?_,?_⟩
   ·unfold A2;simp only;rw[if_neg (by omega),if_neg (by omega),if_neg (by omega)]
   ·refine Hx h.lv (by omega) h.at_ h.st h.ut h.wi h.fl (hend (by omega)) (hst (by omega) (by omega)) ?_ ?_ ?_
    ·simp[Nu,hm,Ai];omega
    ·simp[Jh,hm,hk]
    ·have hwd:Bv d=Ak (Ba d.field.kind):=by unfold Bv;rw[if_neg (by omega),if_pos hm]
     have hr:St d=d.want:=by unfold St;rw[if_pos hm]
     unfold J6
     split
     ·rw[h0,hb0,hr]
      simp[Ai]
      omega
     ·rw[if_neg (by omega),hsc];exact Qv
theorem Pre.settle: ∀(k:Nat) (m:Mac),wM m≤k→Pre m.d→Ce (Ap m).d=true:=by
 intro k
 induction k with
 |zero=>
  intro m hk h
  have:=h.ne
  have:m.d.stack.length≤wM m:=by unfold wM;omega
  omega
 |succ k ih=>
  intro m hk h
  rcases h.close m.out with ⟨h1,h2⟩|⟨q,h1,h2⟩
  ·rw[B6 h1];exact h2
  ·rw[Cu h1]
   rcases h2 with h2|⟨h2,h3⟩
   ·exact ih q (by have h3:wM q<wM m:=(D3 h1).1;omega) h2
   ·rw[B6 h3];exact h2
theorem F9 {m:Mac} (h:Pre m.d):Ce (Ap m).d=true:=Pre.settle _ m (Nat.le_refl _) h
theorem Ai9 {d:Dcd} {o:List Ev} {u:Int} (h:Com d) (hw:d.want=0) (hu:0≤u):Ce (Ee ⟨d,o⟩ u).d=true:=by
 unfold Ee
 simp only
 split
 ·exact h.fail (by decide) h.st.1
 ·exact F9 ⟨⟨Qf (u:=u) h.lv rfl rfl hu (by omega),h.at_,h.st,h.ut,h.wi,h.fl,h.en⟩,rfl,Nat.zero_lt_one,.inl ⟨rfl,hw⟩⟩
theorem Aja {d:Dcd} {n:Int} (h:Com d) (hn:d.stack.length≠0):(fieldAt d.plan.shapes (Gk d).msg n).getD fld0=fld0∨known d.plan.shapes ((fieldAt d.plan.shapes (Gk d).msg n).getD fld0)=true:=by
 cases hf:fieldAt d.plan.shapes (Gk d).msg n with
 |none=>exact .inl rfl
 |some f=>
  right
  have hb:=Cn h.lv
  have hl:=hb.2.2.2 _ (Rs hn)
  simp only[Hn,Bool.and_eq_true] at hl
  have hl:=Aw hl.1
  have hk:=(Sp (Cd hb.1).2.1 hf).2
  show known d.plan.shapes f=true
  refine Acf (k:=(Gk d).msg.toNat) Q2 ?_
  rw[hk,show (((Gk d).msg.toNat:Nat):Int)=(Gk d).msg by omega];exact hf
theorem Aoq {d:Dcd} {o:List Ev} {u:Int} (h:Com d) (hw:d.want=0):Ce (Lj ⟨d,o⟩ u).d=true:=by
 unfold Lj
 simp only
 split
 ·exact h.fail (by decide) h.st.1
 ·rename_i h1
  simp only[not_or] at h1
  have hk:=Aja (n:=Bi u) h h1.2
  split
  ·exact h.fail (by decide) h.st.1
  ·rename_i h2
   have h2:De (Ah u)=true:=by simpa using h2
   split
   ·exact h.fail (by decide) h.st.1
   ·rename_i h3
    split
    ·exact Ak3 (d:=⟨d.plan,d.mode,d.stack,⟨0,0⟩,d.start,d.at_,(fieldAt d.plan.shapes (Gk d).msg (Bi u)).getD fld0,Ah u,d.want,d.utf,d.end_⟩) (B2 h.lv rfl rfl) h.at_ h.st h.ut h2 hk (by decide) h.at_.1
    ·rename_i h4
     have hfit:(fieldAt d.plan.shapes (Gk d).msg (Bi u)).getD fld0=fld0∨Dt ((fieldAt d.plan.shapes (Gk d).msg (Bi u)).getD fld0) (Ah u)=true:=by
      cases hf:fieldAt d.plan.shapes (Gk d).msg (Bi u) with
      |none=>exact .inl rfl
      |some f=>right;rw[hf] at h3;simpa using h3
     have hwi:Ah u=0∨Ah u=1∨Ah u=2∨Ah u=5:=by
      simp only[De,Bool.or_eq_true,decide_eq_true_eq] at h2;omega
     have hwb:=Dh (Ah u)
     have htop: ∀e:Dcd,e.stack=d.stack→Ec e=Ec d:=fun e he=>by unfold Ec;rw[he]
     generalize (fieldAt d.plan.shapes (Gk d).msg (Bi u)).getD fld0=f at *
     generalize Ah u=w at *
     refine Hx (B2 h.lv rfl rfl) ?_ h.at_ h.st h.ut h2 hk ?_ ?_ ?_ ?_ ?_
     ·show 1≤(if w=0 then (3:Int) else if w=2 then 4 else 5)∧(if w=0 then (3:Int) else if w=2 then 4 else 5)≤9
      split<;>(try split)<;>omega
     ·rcases hwi with rfl|rfl|rfl|rfl<;>simp[Aez,h.en]
     ·have:=htop ⟨d.plan,if w=0 then 3 else if w=2 then 4 else 5,d.stack,⟨0,0⟩,d.start,d.at_,f,w,d.want,d.utf,d.end_⟩ rfl
      rcases hwi with rfl|rfl|rfl|rfl<;>simp[Kw] at this ⊢ <;>rw[this]<;>omega
     ·rcases hwi with rfl|rfl|rfl|rfl<;>simp[Nu,hw]
     ·rcases hwi with rfl|rfl|rfl|rfl<;>simp[Jh,Amp,Ak]<;>exact hfit
     ·have:=htop ⟨d.plan,if w=0 then 3 else if w=2 then 4 else 5,d.stack,⟨0,0⟩,d.start,d.at_,f,w,d.want,d.utf,d.end_⟩ rfl
      rcases hwi with rfl|rfl|rfl|rfl<;>simp[J6,Bv,Ak,St,Ai,E1] at this h4 ⊢ <;>rw[this]<;>omega
theorem Am2 {f:Fld} (h:f=fld0∨Dt f 2=true) (h0:f≠fld0) (h8:f.kind≠8) (hb:Gj f.kind=false):Vb f=true:=by
 rcases h with h|h
 ·exact absurd h h0
 ·simp only[Dt,Bool.or_eq_true,Bool.and_eq_true,decide_eq_true_eq] at h
  rcases h with h|h
  ·exfalso
   simp only[Gj,Bool.or_eq_false_iff,decide_eq_false_iff_not] at hb
   unfold Ba Dy at h
   split at h
   ·rename_i hk
    have hk:=Aw hk
    repeat' split at h
    all_goals omega
   ·omega
  ·exact h.2
theorem Am3 {d:Dcd} {o:List Ev} {u:Int} (h:Com d) (hw:d.want=0) (hu:0≤u) (hf:d.field=fld0∨Dt d.field 2=true):Ce (E2 ⟨d,o⟩ u).d=true:=by
 unfold E2
 simp only
 split
 ·exact h.fail (by decide) h.st.1
 ·rename_i h1
  simp only[not_or] at h1
  have hn:0<d.stack.length:=by omega
  split
  ·exact F9 ⟨⟨B2 h.lv rfl rfl,h.at_,h.st,h.ut,h.wi,h.fl,h.en⟩,rfl,hn,.inr (.inr (.inl ⟨rfl,hu,by show u≤Ec d;omega⟩))⟩
  ·rename_i h0
   split
   ·rename_i h8
    split
    ·exact h.fail (by decide) h.st.1
    ·rename_i hd
     have hk:=h.fl.resolve_left h0
     exact F9 ⟨⟨Rt (u:=u) h.lv hk h8 h1.1 Q2 hu Q2 rfl rfl,h.at_,h.st,h.ut,h.wi,h.fl,h.en⟩,rfl,by simp,.inl ⟨rfl,rfl⟩⟩
   ·rename_i h8
    split
    ·rename_i hb
     exact F9 ⟨⟨B2 h.lv rfl rfl,h.at_,h.st,Vn,h.wi,h.fl,h.en⟩,rfl,hn,.inr (.inl ⟨rfl,hb,hu,by show u≤Ec d;omega⟩)⟩
    ·rename_i hb
     split
     ·exact h.fail (by decide) h.at_.1
     ·rename_i hx
      exact F9 ⟨⟨B2 h.lv rfl rfl,h.at_,h.st,h.ut,h.wi,h.fl,h.en⟩,rfl,hn,.inr (.inr (.inr ⟨rfl,Am2 hf h0 h8 (by simpa using hb),hu,by show u≤Ec d;omega,by show u=0∨Ak (Ba d.field.kind)≤u;omega⟩))⟩
theorem Com.start {d:Dcd} (h:Com d) {a:Int} (ha:0≤a∧a≤d.at_):Com (No d a):=by
 refine⟨B2 h.lv rfl rfl,h.at_,?_,h.ut,h.wi,h.fl,h.en⟩
 show 0≤(if d.scan.have_=0∧(d.mode=1∨d.mode=2∨d.mode=4) then a else d.start)∧(if d.scan.have_=0∧(d.mode=1∨d.mode=2∨d.mode=4) then a else d.start)≤d.at_
 split
 ·exact ha
 ·exact h.st
theorem Com.scan {d:Dcd} (h:Com d) (s:Scn):Com (Mt d s):=⟨B2 h.lv rfl rfl,h.at_,h.st,h.ut,h.wi,h.fl,h.en⟩
theorem Agv {s:Scn} {b:Int} (h0:0≤s.bits) (h:(An s b).2=0):E1 (An s b).1=true:=by
 unfold An at h ⊢
 split at h
 ·simp at h
 ·rename_i hc
  rw[if_neg hc]
  simp only[not_or] at hc
  have hs:E1 s=true:=by simpa using hc.1
  have hb:=Aw (show Ai b 0 255=true by simpa using hc.2.1)
  have hk:=Yj hs h0
  have hb2: ¬b<128:=fun hx=>by rw[if_pos hx] at h;simp at h
  have h9:s.have_≠9:=fun e=>hc.2.2 ⟨e,by omega⟩
  obtain ⟨u,hv⟩:=s
  simp only at h0 hk h9 ⊢
  obtain ⟨k,rfl⟩:=Int.eq_ofNat_of_zero_le hk.1
  have hk9:k<9:=by omega
  have hu:=hk.2.2
  rw[Int.toNat_natCast] at hu ⊢
  have hp:(0:Int)<2 ^ (7*(k+1)):=Int.pow_pos (by decide)
  have hp2:(2:Int) ^ (7*(k+1))=2 ^ (7*k)*128:=by rw[show 7*(k+1)=7*k+7 by omega,Int.pow_add];rfl
  have hp0:(0:Int)<2 ^ (7*k):=Int.pow_pos (by decide)
  have hm:b % 128*2 ^ (7*k)≤127*2 ^ (7*k):=Int.mul_le_mul_of_nonneg_right (by omega) (by omega)
  have hm0:0≤b % 128*2 ^ (7*k):=Int.mul_nonneg (by omega) (by omega)
  simp only[E1,Ai,Bool.and_eq_true,decide_eq_true_eq]
  refine⟨⟨by omega,by omega⟩,?_⟩
  rw[show min (Int.toNat (7*((k:Int)+1))) 64=7*(k+1) by omega,Int.fdiv_eq_ediv_of_nonneg _ (Int.le_of_lt hp)]
  exact Int.ediv_eq_zero_of_lt Q2 Q2
theorem Aor {d:Dcd} {o:List Ev} {b a:Int} (h:Com d) (hb:0≤d.scan.bits∧d.scan.bits≤18446744073709551615) (ha:0≤a∧a≤d.at_) (h1:d.mode=1→d.stack=[]) (hn:d.mode≠1→0<d.stack.length) (hk:Jh d=true)
  (hm:((d.mode=1∨d.mode=2∨d.mode=3∨d.mode=4)∧d.want=0)∨(d.mode=8∧Ak (Ba d.field.kind)=0∧0≤d.want∧d.want≤Ec d)):Ce (Dr ⟨d,o⟩ b a).d=true:=by
 have hcs:=h.start ha
 have hbt:=Np h.lv
 have hbb:=Xa (b:=b) hb.1 hb.2
 unfold Dr
 simp only
 split
 ·exact hcs.fail (by decide) ha.1
 ·split
  ·rename_i hc
   have hsn:=Agv hb.1 hc
   unfold Zt
   simp only
   split
   ·exact(hcs.scan _).fail (by decide) h.at_.1
   ·rename_i hx
    simp only[not_or,not_and] at hx
    have hcc:=hcs.scan (An d.scan b).1
    refine Hx hcc.lv (show 1≤d.mode∧d.mode≤9 by omega) hcc.at_ hcc.st hcc.ut hcc.wi hcc.fl ?_ ?_ ?_ hk ?_
    ·show (if d.mode=9 then _ else _)=true
     rw[if_neg (by omega)];exact decide_eq_true h.en
    ·show (if d.mode=1 then decide (d.stack=[]) else if d.mode=9 then true else decide (1≤Ec d))=true
     split
     ·rename_i hm1;exact decide_eq_true (h1 hm1)
     ·rename_i hm1
      rw[if_neg (by omega)];exact decide_eq_true (by have:=hx.1 hm1;omega)
    ·show (if d.mode=6∨d.mode=7∨d.mode=8 then Ai d.want 1 (Ec d) else decide (d.want=0))=true
     split
     ·have:=hx.2 (by omega)
      simp only[Ai,Bool.and_eq_true,decide_eq_true_eq];omega
     ·exact decide_eq_true (by omega)
    ·have hw:Bv (Mt (No d a) (An d.scan b).1)=0:=by
      show (if d.mode=5 then Ak d.wire else if d.mode=8 then Ak (Ba d.field.kind) else 0)=0
      rw[if_neg (by omega)]
      split<;>omega
     unfold J6
     rw[hw,if_neg (by decide)]
     show (if d.mode=6∨d.mode=7∨d.mode=9 then decide ((An d.scan b).1=scn0) else E1 (An d.scan b).1)=true
     rw[if_neg (by omega)]
     exact hsn
  ·split
   ·rename_i hm1
    exact Ai9 (hcs.scan _) (show d.want=0 by omega) hbb.1
   ·split
    ·rename_i hm1
     exact Aoq (hcs.scan _) (show d.want=0 by omega)
    ·split
     ·rename_i hm1
      refine Am3 (hcs.scan _) (show d.want=0 by omega) hbb.1 ?_
      unfold Jh at hk
      rw[if_neg (by omega),if_neg (by omega),if_neg (by omega),if_pos hm1] at hk
      simp only[Bool.and_eq_true,decide_eq_true_eq,Amp,Bool.or_eq_true] at hk
      rw[hk.1] at hk
      exact hk.2
     ·rename_i hc1 hc2 hc3 hc4 hc5
      have hcc:=hcs.scan scn0
      refine F9 ⟨⟨B2 hcc.lv rfl rfl,hcc.at_,hcc.st,hcc.ut,hcc.wi,hcc.fl,hcc.en⟩,rfl,hn hc3,?_⟩
      rcases hm with hm|hm
      ·exact .inl ⟨by show (if d.mode=8 then (8:Int) else 2)=2;rw[if_neg (by omega)],hm.2⟩
      ·refine .inr (.inr (.inr ⟨by show (if d.mode=8 then (8:Int) else 2)=8;rw[if_pos hm.1],?_,hm.2.2.1,hm.2.2.2,?_⟩))
       ·unfold Jh at hk
        rw[if_neg (by omega),if_pos hm.1] at hk
        exact hk
       ·right;show Ak (Ba d.field.kind)≤d.want;omega
theorem Ajb {s:Scn} {b w:Int} (h:0≤s.have_∧s.have_+1<w) (hw:w≤8) (hf:Int.fdiv s.bits (2 ^ min (Int.toNat (8*s.have_)) 64)=0) (hb:0≤b∧b≤255):(B7 s b).have_=s.have_+1∧Int.fdiv (B7 s b).bits (2 ^ min (Int.toNat (8*(s.have_+1))) 64)=0:=by
 obtain ⟨u,hv⟩:=s
 simp only at h hf
 unfold B7
 rw[if_pos ⟨by simp only[Ai,Bool.and_eq_true,decide_eq_true_eq];omega,by simp only[Ai,Bool.and_eq_true,decide_eq_true_eq];omega⟩]
 refine⟨rfl,?_⟩
 simp only
 obtain ⟨k,rfl⟩:=Int.eq_ofNat_of_zero_le h.1
 have hk:k<7:=by omega
 rw[show min (Int.toNat (8*(k:Int))) 64=8*k by omega] at hf ⊢
 rw[show min (Int.toNat (8*((k:Int)+1))) 64=8*(k+1) by omega]
 have hp0:(0:Int)<2 ^ (8*k):=Int.pow_pos (by decide)
 have hp:(0:Int)<2 ^ (8*(k+1)):=Int.pow_pos (by decide)
 have hp2:(2:Int) ^ (8*(k+1))=2 ^ (8*k)*256:=by rw[show 8*(k+1)=8*k+8 by omega,Int.pow_add];rfl
 have hp3:(2:Int) ^ (8*(k+1))≤2 ^ 56:=by
  rcases (show k=0∨k=1∨k=2∨k=3∨k=4∨k=5∨k=6 by omega) with rfl|rfl|rfl|rfl|rfl|rfl|rfl<;>decide
 have hp56:(2:Int) ^ 56=72057594037927936:=rfl
 rw[Int.fdiv_eq_ediv_of_nonneg _ (Int.le_of_lt hp0)] at hf
 have hd:=Int.mul_ediv_add_emod u (2 ^ (8*k))
 rw[hf,Int.mul_zero,Int.zero_add] at hd
 have hu0:=Int.emod_nonneg u (show (2:Int) ^ (8*k)≠0 by omega)
 have hu1:=Int.emod_lt_of_pos u hp0
 have hm:b*2 ^ (8*k)≤255*2 ^ (8*k):=Int.mul_le_mul_of_nonneg_right (by omega) (by omega)
 have hm0:0≤b*2 ^ (8*k):=Int.mul_nonneg (by omega) (by omega)
 rw[Int.fdiv_eq_ediv_of_nonneg _ (Int.le_of_lt hp),IntKind.wrap_u64,IntKind.wrap_u64]
 have e1:b*2 ^ (8*k) % 18446744073709551616=b*2 ^ (8*k):=Int.emod_eq_of_lt hm0 (by omega)
 rw[e1,Int.emod_eq_of_lt (by omega) (by omega)]
 exact Int.ediv_eq_zero_of_lt Q2 Q2
theorem Aos {d:Dcd} {o:List Ev} {b:Int} (h:Com d) (hn:0<d.stack.length) (hk:Jh d=true) (hb:0≤b∧b≤255) (h0:0≤d.scan.have_∧d.scan.have_≤Bv d-1) (hf:Int.fdiv d.scan.bits (2 ^ min (Int.toNat (8*d.scan.have_)) 64)=0) (hr:Bv d-d.scan.have_-1≤St d)
  (hm:(d.mode=5∧d.want=0)∨(d.mode=8∧0≤d.want∧d.want≤Ec d)):Ce (Hf ⟨d,o⟩ b).d=true:=by
 have hbt:=Np h.lv
 have hwb:0≤Bv d∧Bv d≤8:=by
  have h1:=Dh d.wire
  have h2:=Dh (Ba d.field.kind)
  unfold Bv
  split
  ·omega
  ·split<;>omega
 have hro:St d=if d.mode=8 then d.want else Ec d:=rfl
 unfold Hf
 simp only
 split
 ·rename_i hx
  have h1:d.scan.have_+1<Bv d:=by
   unfold B7 at hx
   rw[if_pos ⟨by simp only[Ai,Bool.and_eq_true,decide_eq_true_eq];omega,by simp only[Ai,Bool.and_eq_true,decide_eq_true_eq];omega⟩] at hx
   exact hx
  have hfn:=Ajb ⟨h0.1,h1⟩ hwb.2 hf hb
  have hcc:=h.scan (B7 d.scan b)
  refine Hx hcc.lv (show 1≤d.mode∧d.mode≤9 by omega) hcc.at_ hcc.st hcc.ut hcc.wi hcc.fl ?_ ?_ ?_ hk ?_
  ·show (if d.mode=9 then _ else _)=true
   rw[if_neg (by omega)];exact decide_eq_true h.en
  ·show (if d.mode=1 then decide (d.stack=[]) else if d.mode=9 then true else decide (1≤Ec d))=true
   rw[if_neg (by omega),if_neg (by omega)]
   refine decide_eq_true ?_
   split at hro<;>omega
  ·show (if d.mode=6∨d.mode=7∨d.mode=8 then Ai d.want 1 (Ec d) else decide (d.want=0))=true
   split
   ·rw[if_pos (by omega)] at hro
    simp only[Ai,Bool.and_eq_true,decide_eq_true_eq];omega
   ·exact decide_eq_true (by omega)
  ·have hw:Bv (Mt d (B7 d.scan b))=Bv d:=rfl
   have hrr:St (Mt d (B7 d.scan b))=St d:=rfl
   have hss:(Mt d (B7 d.scan b)).scan=B7 d.scan b:=rfl
   unfold J6
   rw[hw,if_pos (by omega),hrr,hss,hfn.1]
   simp only[Ai,Bool.and_eq_true,decide_eq_true_eq]
   exact⟨⟨⟨by omega,by omega⟩,hfn.2⟩,by omega⟩
 ·have hcc:=h.scan scn0
  have hcv:Com (Cb ⟨Mt d scn0,o⟩ (B7 d.scan b).bits).d:=⟨B2 hcc.lv rfl rfl,hcc.at_,hcc.st,hcc.ut,hcc.wi,hcc.fl,hcc.en⟩
  split
  ·exact hcv.fail (by decide) h.at_.1
  ·rename_i hx
   refine F9 ⟨hcv,rfl,hn,?_⟩
   rcases hm with hm|hm
   ·exact .inl ⟨by show (if d.mode=8 then (8:Int) else 2)=2;rw[if_neg (by omega)],hm.2⟩
   ·have hw:Bv d=Ak (Ba d.field.kind):=by unfold Bv;rw[if_neg (by omega),if_pos hm.1]
    refine .inr (.inr (.inr ⟨by show (if d.mode=8 then (8:Int) else 2)=8;rw[if_pos hm.1],?_,hm.2.1,hm.2.2,?_⟩))
    ·unfold Jh at hk
     rw[if_neg (by omega),if_pos hm.1] at hk
     exact hk
    ·show d.want=0∨Ak (Ba d.field.kind)≤d.want
     omega
theorem Am4 {d:Dcd} {o:List Ev} {b:Int} (h:Com d) (h1:1≤d.at_) (hm:d.mode=6) (hk:Gj d.field.kind=true) (hw:0≤d.want∧d.want≤Ec d) (hn:0<d.stack.length) (hs:d.scan=scn0):Ce (Em ⟨d,o⟩ b).d=true:=by
 unfold Em
 simp only
 split
 ·split
  ·exact h.fail (by decide) (by omega)
  ·rename_i u hu
   exact F9 ⟨⟨B2 h.lv rfl rfl,h.at_,h.st,W5 hu,h.wi,h.fl,h.en⟩,hs,hn,.inr (.inl ⟨hm,hk,hw.1,hw.2⟩)⟩
 ·exact F9 ⟨h,hs,hn,.inr (.inl ⟨hm,hk,hw.1,hw.2⟩)⟩
theorem Ak4 {u:Int} {k:Nat} (hk:k≤64) (h:Int.fdiv u (2 ^ k)=0):0≤u∧u≤18446744073709551615:=by
 have hp0:(0:Int)<2 ^ k:=Int.pow_pos (by decide)
 rw[Int.fdiv_eq_ediv_of_nonneg _ (Int.le_of_lt hp0)] at h
 have hd:=Int.mul_ediv_add_emod u (2 ^ k)
 rw[h,Int.mul_zero,Int.zero_add] at hd
 have hu0:=Int.emod_nonneg u (show (2:Int) ^ k≠0 by omega)
 have hu1:=Int.emod_lt_of_pos u hp0
 have hp:(2:Nat) ^ k≤2 ^ 64:=Nat.pow_le_pow_right (by decide) hk
 have hc:((2 ^ k:Nat):Int)=(2:Int) ^ k:=by simp
 have h64:(2:Nat) ^ 64=18446744073709551616:=rfl
 omega
theorem Sv {d:Dcd} (h:Ce d=true):0≤d.scan.bits∧d.scan.bits≤18446744073709551615:=by
 have hs:=(Qu h).2.2.2.2.2.2.2.2.2.2.2
 unfold J6 at hs
 split at hs
 ·simp only[Bool.and_eq_true,decide_eq_true_eq] at hs
  exact Ak4 (Nat.min_le_right _ _) hs.1.2
 ·split at hs
  ·have e:d.scan=scn0:=of_decide_eq_true hs
   rw[e];decide
  ·simp only[E1,Bool.and_eq_true,decide_eq_true_eq] at hs
   exact Ak4 (Nat.min_le_right _ _) hs.2
theorem Agw {d:Dcd} (h:d.stack.length≠0):Ec (Dc d)=Ec d-1:=by
 show (List.getD (Dc d).stack ((Dc d).stack.length-1) Aps).left=_
 rw[J7]
 unfold Dc
 simp only
 rw[if_neg h,List.getD_eq_getElem?_getD,List.getElem?_set_self (by omega)]
 rfl
theorem Am5 {d:Dcd} {o:List Ev} {b:Int} (hok:Ce d=true) (h9:d.mode≠9) (hat:d.at_<1000000000) (hb:0≤b∧b≤255):Ce (Df ⟨d,o⟩ b).d=true:=by
 obtain ⟨lv,hm,hat0,hst,hut,hwi,hfl,hen,hsk,hwd,hkd,hsc⟩:=Qu hok
 have hbits:=Sv hok
 have hs:=Acj hok h9
 have hms:=(Aci hok hbits).step hs.1 hs.2.1 hs.2.2.1
 have hw:=Abc hwd
 have hc:Com (Dc d):=⟨hms.lv,(show 0≤d.at_+1∧d.at_+1≤1000000000 by omega),(show 0≤d.start∧d.start≤d.at_+1 by omega),hut,hwi,hfl,hs.2.2.2.2⟩
 have hk:Jh (Dc d)=true:=hkd
 have htp:d.mode≠1→1≤Ec d:=fun h1=>by unfold Kw at hsk;rw[if_neg h1,if_neg h9] at hsk;exact of_decide_eq_true hsk
 have hn:d.mode≠1→0<d.stack.length:=fun h1=>by
  have:=htp h1
  by_cases h0:d.stack.length=0
  ·rw[Acg (List.eq_nil_of_length_eq_zero h0)] at this;omega
  ·omega
 have hns:d.mode≠1→0<(Dc d).stack.length:=fun h1=>by rw[J7];exact hn h1
 have ht:d.mode≠1→Ec (Dc d)=Ec d-1:=fun h1=>Agw (by have:=hn h1;omega)
 have hwa:(Dc d).want=if d.mode=6∨d.mode=7∨d.mode=8 then d.want-1 else d.want:=rfl
 have hwb:=Dh (Ba d.field.kind)
 unfold Df
 simp only
 split
 ·rename_i h6
  have hw1:=hw.1 (by omega)
  rw[if_pos (by omega)] at hwa
  have ht:=ht (by omega)
  refine Am4 hc (show 1≤d.at_+1 by omega) h6 ?_ Q2 (hns Q2) ?_
  ·unfold Jh at hkd;rw[if_pos h6] at hkd;exact hkd
  ·unfold J6 Bv at hsc
   rw[if_neg (show¬d.mode=5 by omega),if_neg (show¬d.mode=8 by omega),if_neg (by decide),if_pos (by omega)] at hsc
   exact of_decide_eq_true hsc
 ·split
  ·rename_i h6 h7
   have hw1:=hw.1 (by omega)
   rw[if_pos (by omega)] at hwa
   have ht:=ht (by omega)
   refine F9 ⟨hc,?_,hns Q2,.inr (.inr (.inl ⟨h7,by show 0≤(Dc d).want;omega,by show (Dc d).want≤Ec (Dc d);omega⟩))⟩
   unfold J6 Bv at hsc
   rw[if_neg (show¬d.mode=5 by omega),if_neg (show¬d.mode=8 by omega),if_neg (by decide),if_pos (by omega)] at hsc
   exact of_decide_eq_true hsc
  ·rename_i h6 h7
   split
   ·rename_i h0
    unfold J6 at hsc
    rw[if_pos h0] at hsc
    simp only[Bool.and_eq_true,decide_eq_true_eq] at hsc
    have hh:=Aw hsc.1.1
    have hwe:Bv (Dc d)=Bv d:=rfl
    have hmm:d.mode=5∨d.mode=8:=by unfold Bv at h0;split at h0<;>(try split at h0)<;>omega
    have ht:=ht (by omega)
    have hr1:St d=if d.mode=8 then d.want else Ec d:=rfl
    have hr2:St (Dc d)=if d.mode=8 then (Dc d).want else Ec (Dc d):=rfl
    refine Aos hc (hns Q2) hk hb (by rw[hwe];exact hh) hsc.1.2 ?_ ?_
    ·rw[hwe]
     show Bv d-d.scan.have_-1≤St (Dc d)
     rcases hmm with h5|h8
     ·rw[if_neg (by omega)] at hr1 hr2;omega
     ·rw[if_pos h8] at hr1 hr2;rw[if_pos (by omega)] at hwa;omega
    ·rcases hmm with h5|h8
     ·rw[if_neg (by omega)] at hwa
      exact .inl ⟨h5,by rw[hwa];exact hw.2 Q2⟩
     ·rw[if_pos (by omega)] at hwa
      have hw1:=hw.1 (by omega)
      exact .inr ⟨h8,by omega,by omega⟩
   ·rename_i h0
    have h5:d.mode≠5:=fun h5=>by
     unfold Jh at hkd
     rw[if_neg (by omega),if_neg (by omega),if_neg (by omega),if_neg (by omega),if_pos h5] at hkd
     simp only[Bool.and_eq_true,decide_eq_true_eq] at hkd
     unfold Bv at h0
     rw[if_pos h5] at h0
     omega
    refine Aor hc hbits (show 0≤d.at_∧d.at_≤d.at_+1 by omega) (fun h1=>?_) hns hk ?_
    ·unfold Kw at hsk
     rw[if_pos (show d.mode=1 from h1)] at hsk
     have e:d.stack=[]:=of_decide_eq_true hsk
     exact List.eq_nil_of_length_eq_zero (by rw[J7,e];rfl)
    ·by_cases h8:d.mode=8
     ·rw[if_pos (by omega)] at hwa
      have hw1:=hw.1 (by omega)
      have ht:=ht (by omega)
      refine .inr ⟨h8,?_,by omega,by omega⟩
      unfold Bv at h0
      rw[if_neg (by omega),if_pos h8] at h0
      show Ak (Ba d.field.kind)=0
      omega
     ·rw[if_neg (by omega)] at hwa
      exact .inl ⟨(show d.mode=1∨d.mode=2∨d.mode=3∨d.mode=4 by omega),by rw[hwa];exact hw.2 Q2⟩
def Ka (o:List Ev) (m:Mac):Mac:=⟨m.d,o++m.out⟩
theorem Fk (o:List Ev) (m:Mac) (c a:Int):A3 (Ka o m) c a=Ka o (A3 m c a):=by simp[A3,Ka,List.append_assoc]
theorem Xh (o:List Ev) (m:Mac):A2 (Ka o m)=(A2 m).map (Ka o):=by
 have hd:(Ka o m).d=m.d:=rfl
 unfold A2
 rw[hd]
 split
 ·split<;>simp[A3,Ka,List.append_assoc]
 ·split
  ·simp[Ka]
  ·split
   ·split<;>simp[Ka,List.append_assoc]
   ·rfl
theorem K4 (o:List Ev): ∀(m:Mac),Ap (Ka o m)=Ka o (Ap m):=by
 suffices ∀(k:Nat) (m:Mac),wM m≤k→Ap (Ka o m)=Ka o (Ap m) from fun m=>this _ m (Nat.le_refl _)
 intro k
 induction k with
 |zero=>
  intro m hk
  have hp:=Xh o m
  cases h:A2 m with
  |none=>rw[B6 h];rw[h] at hp;exact B6 hp
  |some q=>have:=(D3 h).1;omega
 |succ k ih=>
  intro m hk
  have hp:=Xh o m
  cases h:A2 m with
  |none=>rw[B6 h];rw[h] at hp;exact B6 hp
  |some q=>
   rw[h] at hp
   rw[Cu h,Cu hp]
   exact ih q (by have:=(D3 h).1;omega)
theorem Es {o:List Ev} {d:Dcd} {p r:List Ev} (h:r=o++p):Ap ⟨d,r⟩=Ka o (Ap ⟨d,p⟩):=by subst h;exact K4 o ⟨d,p⟩
theorem Ad2 (o:List Ev) (m:Mac) (u:Int):Ee (Ka o m) u=Ka o (Ee m u):=by
 have hd:(Ka o m).d=m.d:=rfl
 unfold Ee
 rw[hd]
 split
 ·exact Fk _ _ _ _
 ·exact Es (List.append_assoc _ _ _)
theorem Ajc (o:List Ev) (m:Mac) (u:Int):Lj (Ka o m) u=Ka o (Lj m u):=by
 have hd:(Ka o m).d=m.d:=rfl
 unfold Lj
 rw[hd]
 split
 ·exact Fk _ _ _ _
 ·split
  ·exact Fk _ _ _ _
  ·split
   ·exact Fk _ _ _ _
   ·split
    ·simp[A3,Ka,List.append_assoc]
    ·rfl
theorem Agx (o:List Ev) (m:Mac) (u:Int):E2 (Ka o m) u=Ka o (E2 m u):=by
 have hd:(Ka o m).d=m.d:=rfl
 unfold E2
 rw[hd]
 split
 ·exact Fk _ _ _ _
 ·split
  ·exact Es rfl
  ·split
   ·split
    ·exact Fk _ _ _ _
    ·exact Es (List.append_assoc _ _ _)
   ·split
    ·exact Es (List.append_assoc _ _ _)
    ·split
     ·exact Fk _ _ _ _
     ·exact Es rfl
theorem Sw (o:List Ev) (m:Mac) (u:Int):Cb (Ka o m) u=Ka o (Cb m u):=by
 unfold Cb Ka
 simp only
 by_cases h:m.d.field=fld0<;>simp[h,List.append_assoc]
theorem Ajd (o:List Ev) (m:Mac) (b a:Int):Dr (Ka o m) b a=Ka o (Dr m b a):=by
 have hd:(Ka o m).d=m.d:=rfl
 have hq: ∀d:Dcd,(⟨d,(Ka o m).out⟩:Mac)=Ka o ⟨d,m.out⟩:=fun _=>rfl
 unfold Dr
 simp only[hd,hq]
 split
 ·exact Fk _ _ _ _
 ·split
  ·unfold Zt
   rw[hd]
   split
   ·exact Fk _ _ _ _
   ·rfl
  ·split
   ·exact Ad2 _ _ _
   ·split
    ·exact Ajc _ _ _
    ·split
     ·exact Agx _ _ _
     ·rw[Sw,K4]
theorem Aje (o:List Ev) (m:Mac) (b:Int):Hf (Ka o m) b=Ka o (Hf m b):=by
 have hd:(Ka o m).d=m.d:=rfl
 have hq: ∀d:Dcd,(⟨d,(Ka o m).out⟩:Mac)=Ka o ⟨d,m.out⟩:=fun _=>rfl
 unfold Hf
 simp only[hd,hq]
 split
 ·rfl
 ·split
  ·rw[Sw,Fk]
  ·rw[Sw,K4]
theorem Agy (o:List Ev) (m:Mac) (b:Int):Em (Ka o m) b=Ka o (Em m b):=by
 have hd:(Ka o m).d=m.d:=rfl
 unfold Em
 rw[hd]
 split
 ·split
  ·exact Fk _ _ _ _
  ·exact Es (List.append_assoc _ _ _)
 ·exact Es (List.append_assoc _ _ _)
theorem Agz (o:List Ev) (m:Mac) (b:Int):Df (Ka o m) b=Ka o (Df m b):=by
 have hd:(Ka o m).d=m.d:=rfl
 have hq: ∀d:Dcd,(⟨d,(Ka o m).out⟩:Mac)=Ka o ⟨d,m.out⟩:=fun _=>rfl
 unfold Df
 simp only[hd,hq]
 split
 ·exact Agy _ _ _
 ·split
  ·exact K4 _ _
  ·split
   ·exact Aje _ _ _
   ·exact Ajd _ _ _ _
def R6 (m:Mac) (b:Int):Mac:=⟨(Le m.d b).d,m.out++(Le m.d b).out⟩
def Cs (m:Mac) (s:List UInt8):Mac:=s.foldl (fun m b=>R6 m (b.toNat:Int)) m
theorem Ag0 (m:Mac):Cs m []=m:=rfl
theorem Hq (m:Mac) (b:UInt8) (r:List UInt8):Cs m (b::r)=Cs (R6 m (b.toNat:Int)) r:=List.foldl_cons ..
theorem Ad3 {d:Dcd} {b:Int} (hok:Ce d=true) (ht:Fd d=true) (hb:0≤b∧b≤255):Le d b=Df ⟨d,[]⟩ b:=by
 unfold Le
 rw[if_pos ⟨hok,ht,by simp only[Ai,Bool.and_eq_true,decide_eq_true_eq];exact hb⟩]
theorem Xi {m:Mac} {b:Int} (hok:Ce m.d=true) (ht:Fd m.d=true) (hb:0≤b∧b≤255):R6 m b=Df m b:=by
 have h:=Agz m.out ⟨m.d,[]⟩ b
 have e:Ka m.out ⟨m.d,[]⟩=m:=by cases m;simp[Ka]
 rw[e] at h
 unfold R6
 rw[Ad3 hok ht hb,h];rfl
theorem Acv {d:Dcd} {b:Int} (h:Ce d=false∨Fd d=false):Le d b=⟨d,[]⟩:=by
 unfold Le
 rw[if_neg]
 rintro ⟨h1,h2,-⟩
 rcases h with h|h
 ·rw[h] at h1;cases h1
 ·rw[h] at h2;cases h2
theorem Acw {m:Mac} {b:Int} (h:Ce m.d=false∨Fd m.d=false):R6 m b=m:=by
 unfold R6
 rw[Acv h]
 cases m;simp
theorem Acx {d:Dcd} (h:Fd d=true):d.mode≠9∧d.at_<1000000000:=by
 simpa only[Fd,Bool.and_eq_true,Bool.not_eq_true',decide_eq_false_iff_not,decide_eq_true_eq] using h
theorem Uh {d:Dcd} {b:Int} (hok:Ce d=true):Ce (Le d b).d=true:=by
 unfold Le
 split
 ·rename_i h
  have ht:=Acx h.2.1
  exact Am5 hok ht.1 ht.2 (Aw h.2.2)
 ·exact hok
theorem Z2 {m:Mac} (h:Ce m.d=false): ∀s:List UInt8,Cs m s=m
 |[]=>rfl
 |b::r=>by rw[Hq,Acw (.inl h)];exact Z2 h r
theorem R7 {m:Mac} (h:Fd m.d=false): ∀s:List UInt8,Cs m s=m
 |[]=>rfl
 |b::r=>by rw[Hq,Acw (.inr h)];exact R7 h r
theorem Ad4 {m:Mac} (h:Fd m.d=false) (s r:List UInt8):Cs m s=Cs m r:=by rw[R7 h,R7 h]
theorem Z3 {d:Dcd} {b:Int} :(Le d b).d.plan=d.plan∧((Le d b).d.stack.length:Int)≤max (d.stack.length:Int) 8∧(Le d b).out.length≤14∧((0≤d.scan.bits∧d.scan.bits≤18446744073709551615)→0≤(Le d b).d.scan.bits∧(Le d b).d.scan.bits≤18446744073709551615):=by
 cases hok:Ce d with
 |false=>rw[Acv (.inl hok)];exact⟨rfl,by simp only;omega,by simp,fun h=>h⟩
 |true=>
  have h1:=Uh (b:=b) hok
  have h2:=Cn (Qu hok).1
  have h3:=Cn (Qu h1).1
  exact⟨Adt.1,by omega,by have:=Age (d:=d) (b:=b);omega,fun _=>Sv h1⟩
theorem Ap7 (b:UInt8):(0:Int)≤(b.toNat:Int)∧(b.toNat:Int)≤255:=by have:=b.toNat_lt;omega
theorem Vo: ∀(s:List UInt8) (m:Mac),(Cs m s).d.plan=m.d.plan∧((Cs m s).d.stack.length:Int)≤max (m.d.stack.length:Int) 8∧(Cs m s).out.length≤m.out.length+14*s.length∧((0≤m.d.scan.bits∧m.d.scan.bits≤18446744073709551615)→0≤(Cs m s).d.scan.bits∧(Cs m s).d.scan.bits≤18446744073709551615)
 |[],m=>⟨rfl,by show (m.d.stack.length:Int)≤_;omega,Nat.le_refl _,fun h=>h⟩
 |b::r,m=>by
  have h1:=Z3 (d:=m.d) (b:=(b.toNat:Int))
  have h2:=Vo r (R6 m (b.toNat:Int))
  rw[Hq]
  have e1:(R6 m (b.toNat:Int)).d=(Le m.d (b.toNat:Int)).d:=rfl
  have e2:(R6 m (b.toNat:Int)).out.length=m.out.length+(Le m.d (b.toNat:Int)).out.length:=by simp[R6]
  rw[e1,e2] at h2
  refine⟨h2.1.trans h1.1,by omega,by simp only[List.length_cons];omega,fun h=>h2.2.2.2 (h1.2.2.2 h)⟩
theorem Xj  :Fun Tryz.prog 100 [] [] (.tup []) []:=by
 have hN:Bn=274877906944:=rfl
 refine Av Tryz.func100 Q4 Q4 (w:=(.leaf () [],Lf (.tup []) (.tup []) [] [])) Q4 ?_
 exact⟨rfl,rfl⟩
structure Lu where
 m:Mac
 v:Nat
def Lv (m:Mac) (s:List UInt8):Fam:=⟨Lu,fun q1=>[(0,.v (vP 0)),(1,.v (vT s)),(2,.v (.c (.fn 100 []))),(8,.v (vI ((List.length s:Nat):Int))),(9,.v (vI ((q1.v:Nat):Int)))],fun q1=>[.cells (Ab 4 5 6 q1.m),.dead,.dead,.dead,.tree q1.m.d.plan.shapes,.lst .lev q1.m.d.stack,.lst .ev q1.m.out],fun q1=>q1.v≤List.length s∧Cs q1.m (List.drop q1.v s)=Cs m s∧Ce (q1.m).d=true∧List.length (q1.m).out≤List.length m.out+14*q1.v,fun q1=>List.length s-q1.v⟩
theorem Am6 (m:Mac) (s:List UInt8) (hp1:Ce (m).d=true) (hp2:List.length (m).out≤1000000) (hp3:List.length s≤1048576):Fun Tryz.prog 99 [vP 0,vT s,.c (.fn 100 [])] [.cells (Ab 1 2 3 m),.tree m.d.plan.shapes,.lst .lev m.d.stack,.lst .ev m.out] (.tup []) [.cells (Ab 4 5 6 (Cs m s)),.dead,.dead,.dead,.tree (Cs m s).d.plan.shapes,.lst .lev (Cs m s).d.stack,.lst .ev (Cs m s).out]:=by
 have hN:Bn=274877906944:=rfl
 refine Av Tryz.func99 Q4 Q4 (w:=let z7:=((List.length s:Nat):Int);let z8:=Lv m s;(.seg [.at 0,.cut 0 0,.cut 0 5,.cut 0 27,.keep [0,1,2,8,9],.sel [0,1,2,3,4,5,6]] (.loop z8 fun q1=>let z4:S:= .v (vI (((q1.v:Nat):Int)+1));.br (.seg [.call [] (.v (vB (Fd q1.m.d))) []] (.br (.intro (Sx (s[q1.v]?)) fun x1=>let z1:=Df q1.m ((UInt8.toNat x1:Nat):Int);.seg [.ch x1,.as 21 (.v (vI ((UInt8.toNat x1:Nat):Int))),.call [0,4,5,6] (.tup []) [.cells (Ab 4 5 6 z1),.dead,.dead,.dead,.tree z1.d.plan.shapes,.lst .lev z1.d.stack,.lst .ev z1.out],.call [] (.tup []) [],.as 25 z4,.at 0,.keep [0,1,2,8,9],.sel [0,1,2,3,7,8,9]] (.next)) (.seg [.call [] (.tup []) [],.as 25 z4,.at 0,.keep [0,1,2,8,9],.sel [0,1,2,3,4,5,6]] (.next)))) (.leaf () [0,1,2,3,4,5,6])),z8.Has [(0,.v (vP 0)),(1,.v (vT s)),(2,.v (.c (.fn 100 []))),(8,.v (vI z7)),(9,.v (vI 0))] [.cells (Ab 4 5 6 m),.dead,.dead,.dead,.tree m.d.plan.shapes,.lst .lev m.d.stack,.lst .ev m.out]∧∀q1,z8.inv q1→(let z5:List Blk:=[.cells (Ab 4 5 6 q1.m),.dead,.dead,.dead,.tree q1.m.d.plan.shapes,.lst .lev q1.m.d.stack,.lst .ev q1.m.out];let z6:=((q1.v:Nat):Int);Bc (decide (z6<z7)) ((Fp 56 [.agg (C4 q1.m.d)] [] (.v (vB (Fd q1.m.d))) [])∧Bc (Fd q1.m.d) (El (s[q1.v]?) fun x1=>(let z3:=((UInt8.toNat x1:Nat):Int);let z2:=Df q1.m z3;(s[q1.v]? =some x1)∧((0:Int)≤z6)∧(wI (z3))∧(Fp 58 [vP 0,vI z3] [.cells (Ab 1 2 3 q1.m),.tree q1.m.d.plan.shapes,.lst .lev q1.m.d.stack,.lst .ev q1.m.out] (.tup []) [.cells (Ab 4 5 6 z2),.dead,.dead,.dead,.tree z2.d.plan.shapes,.lst .lev z2.d.stack,.lst .ev z2.out])∧(Fp 100 [] [] (.tup []) [])∧(wI (z6+1))∧z8.Nxt q1 [(0,.v (vP 0)),(1,.v (vT s)),(2,.v (.c (.fn 100 []))),(8,.v (vI z7)),(9,.v (vI (z6+1)))] [.cells (Ab 4 5 6 z2),.dead,.dead,.dead,.tree z2.d.plan.shapes,.lst .lev z2.d.stack,.lst .ev z2.out])) ((Fp 100 [] [] (.tup []) [])∧(wI (z6+1))∧z8.Nxt q1 [(0,.v (vP 0)),(1,.v (vT s)),(2,.v (.c (.fn 100 []))),(8,.v (vI z7)),(9,.v (vI (z6+1)))] z5)) (Lf (.tup []) (.tup []) z5 [.cells (Ab 4 5 6 (Cs m s)),.dead,.dead,.dead,.tree (Cs m s).d.plan.shapes,.lst .lev (Cs m s).d.stack,.lst .ev (Cs m s).out])))) Q4 ?_
 refine⟨Cm (j:=(⟨m,0⟩:Lu)) Q9 rfl (by dsimp only[Lv];exact⟨by omega,rfl,hp1,by omega⟩),fun (q1:Lu) hq_q1=>?_⟩
 have hi_q1:q1.v≤List.length s∧Cs q1.m (List.drop q1.v s)=Cs m s∧Ce (q1.m).d=true∧List.length (q1.m).out≤List.length m.out+14*q1.v:=hq_q1
 obtain ⟨v1,v2,v3,v4⟩:=hi_q1
 have hbt:=Sv v3
 have hmw:=Aci v3 hbt
 have hlv:=Cn hmw.lv
 have hpt:=Cd hlv.1
 refine dsp (fun h1 p1=>?_) fun h1 p1=>?_
 refine⟨(Am1 q1.m.d),fun h2=>?_,fun h2=>?_⟩
 have hta:Fd q1.m.d=true:=h2
 have htk:=Acx hta
 have hst:=Acj v3 htk.1
 refine⟨(Bo (l:=s) (i:=q1.v) Q2),fun x1 hx1=>?_⟩
 have hb_x1:=UInt8.toNat_lt x1
 rw[Ef hx1,Hq] at v2
 have hub:=Ap7 x1
 have hsm:=Xi (m:=q1.m) v3 hta hub
 exact⟨hx1,Q2,(Af Q2 Q2),(Aop q1.m _ (hmw) Q2 Q2 Q2 Q2 (hst.2.2.1)),(Xj),(Af Q2 Q2),Be (j:=(⟨(Df q1.m ((UInt8.toNat x1:Nat):Int)),q1.v+1⟩:Lu)) Q9 rfl Q38 (by dsimp only[Lv];omega)⟩
 have hnt:Fd q1.m.d=false:=h2
 exact⟨(Xj),(Af Q2 Q2),Be (j:=(⟨q1.m,q1.v+1⟩:Lu)) Q9 rfl Q38 (by dsimp only[Lv];omega)⟩
 rw[List.drop_eq_nil_of_le (by omega),Ag0] at v2
 refine zE (Cs m s) q1.m (fun hm1=>⟨rfl,Q7⟩) ?_
 rotate_left
 all_goals first|((rw[←v2];done))|(rfl)|(grind)
theorem Ag1 (d:Dcd) (s:List UInt8) (hp1:List.length (d).plan.shapes≤1048576) (hp2: ∀e∈(d).plan.shapes,List.length e.fields≤1048576) (hp3:List.length (d).stack≤1048576) (hp4:(0:Int)≤(d).scan.bits∧(d).scan.bits≤18446744073709551615) (hp5:List.length s≤1048576):Fun Tryz.prog 48 [.agg (C4 d),vT s] [] (.tup [.agg (C6 0 1 (Cs ⟨d,[]⟩ s).d),vO 2]) [.tree (Cs ⟨d,[]⟩ s).d.plan.shapes,.lst .lev (Cs ⟨d,[]⟩ s).d.stack,.lst .ev (Cs ⟨d,[]⟩ s).out]:=by
 have hN:Bn=274877906944:=rfl
 refine Av Tryz.func48 Q4 Q4 (w:=let zi:Int→C:= .int .i64;let z1:=Cs (⟨d,([]:List Ev)⟩:Mac) s;let z2:List Blk:=[.cells (Ab 4 5 6 z1),.dead,.dead,.dead,.tree z1.d.plan.shapes,.lst .lev z1.d.stack,.lst .ev z1.out];let z3:=Cs ⟨d,[]⟩ s;let z4:S:= .tup [.agg (C6 0 1 z3.d),vO 2];(.seg [.call [] (.v (.agg (C6 0 1 d))) (L2 d),.call [] (.v (vB (Ce d))) []] (.br (.seg [.at 4,.mk 4 27 .ev,.call [4,2,3,5] (.tup []) z2,.ord (os 10 [8]) [1]] (.leaf () [6,7,8])) (.seg [.ord (os 10 [8]) [1],.at 0,.mkS 5 .ev] (.leaf () [2,3,5]))),(Fp 50 [.agg (C4 d)] [] (.v (.agg (C6 0 1 d))) (L2 d))∧(Fp 51 [.agg (C4 d)] [] (.v (vB (Ce d))) [])∧Bc (Ce d) ((Fp 99 [vP 0,vT s,.c (.fn 100 [])] [.cells [.own 1,zi d.plan.root,zi d.plan.deep,zi d.plan.most,zi d.mode,.own 2,.int .u64 d.scan.bits,zi d.scan.have_,zi d.start,zi d.at_,zi d.field.number,zi d.field.kind,.bool d.field.rep,.bool d.field.packed,zi d.field.msg,zi d.wire,zi d.want,zi d.utf.want,zi d.utf.low,zi d.utf.high,zi d.end_.kind,zi d.end_.field,.int .u64 d.end_.bits,zi d.end_.len,.str d.end_.text,zi d.end_.code,zi d.end_.at_,.own 3],.tree d.plan.shapes,.lst .lev d.stack,.lst .ev ([]:List Ev)] (.tup []) z2)∧Lf (.tup [.agg (C6 0 1 z1.d),vO 2]) z4 (Ls z1.d z1.out) (Ls z3.d z3.out)) (Lf (.tup [.agg (C6 0 1 d),vO 2]) z4 (Ls d ([]:List Ev)) (Ls z3.d z3.out)))) Q4 ?_
 refine⟨(Z1 d Q2 (hp2) Q2),(Agr d Q2 Q2),fun h1=>?_,fun h1=>?_⟩
 refine zM Mac.d Mac.out (Cs ⟨d,[]⟩ s) (Cs (⟨d,([]:List Ev)⟩:Mac) s) (fun hm1 hm2=>⟨(Am6 (⟨d,([]:List Ev)⟩:Mac) _ Q6 Q21 Q2),Q7,Q52⟩) ?_ ?_
 rotate_left 2
 have hbad:Cs ⟨d,[]⟩ s=⟨d,[]⟩:=Z2 (m:=⟨d,[]⟩) (by simpa using h1) s
 refine zD ((Cs ⟨d,[]⟩ s).d) d ((Cs ⟨d,[]⟩ s).out) ([]:List Ev) (fun hm1 hm2=>⟨Q7,Q52⟩) ?_ ?_
 rotate_left 2
 all_goals first|(rfl)|((rw[hbad];done))|(grind)
structure Ajf where
 i:Nat
structure Am7 where
 d:Dcd
 out:List Ev
structure Ak5 where
 d:Dcd
 out:List Ev
 i:Nat
theorem Gf (s:List UInt8):List.map Bk (List.map (fun b=>(UInt8.toNat b:Int)) s)=s:=by
 rw[List.map_map]
 conv=>rhs;rw[←List.map_id s]
 apply List.map_congr_left
 intro b _
 simp[Bk]
def T6 (l:List Ev):Ev:=l.getD (l.length-1) ev0
def T7 (e:Ev) (t:List UInt8):Ev:=⟨e.kind,e.field,e.bits,e.len,t,e.code,e.at_⟩
def tx:List Ev→Nat
 |[]=>0
 |e::r=>e.text.length+tx r
def G7 (o:List Ev) (e:Ev):List Ev:=
 if e.kind=4∧e.text=[] then o
 else if e.kind=4∧0<o.length∧(T6 o).kind=4 then o.set (o.length-1) (T7 (T6 o) ((T6 o).text++e.text))
 else o++[e]
def G8 (o l:List Ev):List Ev:=l.foldl G7 o
def Fe (l:List Ev):List Ev:=G8 [] l
theorem Ad5 (o:List Ev):G8 o []=o:=rfl
theorem Kb (o:List Ev) (e:Ev) (r:List Ev):G8 o (e::r)=G8 (G7 o e) r:=List.foldl_cons ..
theorem Yq {l:List Ev} {x:Ev} (h:l[l.length-1]? =some x):T6 l=x:=by unfold T6;exact U9 h
theorem Xk (o:List Ev) (e:Ev):T6 (o++[e])=e:=Yq (by simp)
theorem Qw {o:List Ev} {e:Ev} (h:e.kind=4) (ht:e.text=[]):G7 o e=o:=by unfold G7;rw[if_pos ⟨h,ht⟩]
theorem Tv {o:List Ev} {e:Ev} (h:e.kind≠4):G7 o e=o++[e]:=by unfold G7;rw[if_neg (fun x=>h x.1),if_neg (fun x=>h x.1)]
theorem Sy {o:List Ev} {e:Ev} (ht:e.text≠[]) (hs: ¬(0<o.length∧(T6 o).kind=4)):G7 o e=o++[e]:=by unfold G7;rw[if_neg (fun x=>ht x.2),if_neg (fun x=>hs x.2)]
theorem Abe {o:List Ev} {e x:Ev} (hk:e.kind=4) (ht:e.text≠[]) (h0:0<o.length) (hx:o[o.length-1]? =some x) (hx4:x.kind=4):G7 o e=o.set (o.length-1) (T7 x (x.text++e.text)):=by
 unfold G7
 rw[if_neg (fun y=>ht y.2),if_pos ⟨hk,h0,by rw[Yq hx];exact hx4⟩,Yq hx]
theorem Abf {o:List Ev} {e f:Ev} {t:List UInt8} (hk:e.kind=4) (ht:e.text≠[]) (hf:f.kind=4):G7 (o++[T7 f t]) e=o++[T7 f (t++e.text)]:=by
 rw[Abe (x:=T7 f t) hk ht (by simp) (by simp) hf]
 have e1:(o++[T7 f t]).length-1=o.length:=by simp
 rw[e1,List.set_append_right _ _ (Nat.le_refl _)]
 simp[T7]
def sep (o r:List Ev):Prop:= ∀x q,r=x::q→x.kind=4→¬(0<o.length∧(T6 o).kind=4)
theorem Aot {o l:List Ev} {i:Nat} {x:Ev} (h:sep o (l.drop i)) (hx:l[i]? =some x) (hk:x.kind=4): ¬(0<o.length∧(T6 o).kind=4):=h x _ (Ef hx) hk
theorem Ag2 {o r:List Ev} {e:Ev} (h:e.kind≠4):sep (o++[e]) r:=fun _ _ _ _ x=>h (by rw[Xk] at x;exact x.2)
theorem Am8 {r:List Ev} :sep [] r:=fun _ _ _ _ x=>absurd x.1 (Nat.lt_irrefl 0)
theorem Acy {o l:List Ev} {i:Nat} (h:l.length≤i∨∃x,l[i]? =some x∧x.kind≠4):sep o (l.drop i):=by
 intro x q hx hk
 exfalso
 rcases h with h|⟨y,hy,hn⟩
 ·rw[List.drop_eq_nil_of_le h] at hx;cases hx
 ·rw[Ef hy] at hx
  cases hx
  exact hn hk
theorem Vp {o:List Ev} {f e:Ev} {t:List UInt8} (hf:f.kind=4) (hk:e.kind=4):G7 (o++[T7 f t]) e=o++[T7 f (t++e.text)]:=by
 by_cases ht:e.text=[]
 ·rw[Qw hk ht,ht,List.append_nil]
 ·exact Abf hk ht hf
def Yr (o:List Ev) (f:Ev) (t:List UInt8) (fd:Bool) (r m:List Ev):Prop:=(fd=true→f.kind=4∧G8 (o++[T7 f t]) r=m)∧(fd=false→t=[]∧G8 o r=m)
theorem Ajg {o r m:List Ev} {e:Ev} (hk:e.kind=4) (hs: ¬(0<o.length∧(T6 o).kind=4)) (h:G8 (G7 o e) r=m):Yr o e e.text (!decide (e.text=[])) r m:=by
 by_cases ht:e.text=[]
 ·rw[Qw hk ht] at h;exact⟨fun x=>by simp[ht] at x,fun _=>⟨ht,h⟩⟩
 ·rw[Sy ht hs] at h;exact⟨fun _=>⟨hk,h⟩,fun x=>by simp[ht] at x⟩
theorem Aqe {o r m:List Ev} {f x:Ev} {t:List UInt8} {fd:Bool} (h:Yr o f t fd (x::r) m) (hk:x.kind=4) (hf:fd=true):Yr o f (t++x.text) fd r m:=by
 have h1:=h.1 hf
 refine⟨fun _=>⟨h1.1,?_⟩,fun y=>by rw[hf] at y;cases y⟩
 rw[Kb,Vp h1.1 hk] at h1
 exact h1.2
theorem Aqf {o r m:List Ev} {f x:Ev} {t:List UInt8} {fd:Bool} (h:Yr o f t fd (x::r) m) (hk:x.kind=4) (ht:x.text≠[]) (hf:fd=false) (hs: ¬(0<o.length∧(T6 o).kind=4)):Yr o x (t++x.text) true r m:=by
 have h1:=h.2 hf
 refine⟨fun _=>⟨hk,?_⟩,fun y=>by cases y⟩
 rw[Kb,Sy ht hs] at h1
 rw[h1.1]
 exact h1.2
theorem Aqg {o r m:List Ev} {f x:Ev} {t:List UInt8} {fd:Bool} (h:Yr o f t fd (x::r) m) (hk:x.kind=4) (ht:x.text=[]) (hf:fd=false):Yr o f (t++x.text) fd r m:=by
 have h1:=h.2 hf
 refine⟨fun y=>(by rw[hf] at y;cases y),fun _=>⟨by rw[h1.1,ht];rfl,?_⟩⟩
 rw[Kb,Qw hk ht] at h1
 exact h1.2
theorem Ag3: ∀(l:List Ev) (i:Nat),tx (l.drop i)≤tx l
 |[],i=>by simp[tx]
 |e::r,0=>Nat.le_refl _
 |e::r,i+1=>by have:=Ag3 r i;rw[List.drop_succ_cons,tx];omega
theorem Ad6 (o:List Ev) (e:Ev):(G7 o e).length≤o.length+1:=by
 unfold G7
 split
 ·omega
 ·split<;>simp
theorem Xm: ∀(l o:List Ev),(G8 o l).length≤o.length+l.length
 |[],o=>Nat.le_refl _
 |e::r,o=>by
  have h1:=Ad6 o e
  have h2:=Xm r (G7 o e)
  rw[Kb,List.length_cons];omega
theorem Ad7 (l:List Ev):(Fe l).length≤l.length:=by have:=Xm l [];simpa [Fe] using this
structure Am9 where
 out:List Ev
 i:Nat
structure Et where
 out:List Ev
 i:Nat
def My (l:List Ev):Fam:=⟨Et,fun q1=>[(0,.v (.c (.seq .ev l))),(3,.v (vO 0)),(4,.v (vI ((q1.i:Nat):Int)))],fun q1=>[.lst .ev q1.out],fun q1=>q1.i≤List.length l∧G8 q1.out (List.drop q1.i l)=Fe l∧List.length q1.out≤q1.i∧sep q1.out (List.drop q1.i l),fun q1=>List.length l-q1.i⟩
structure Hr where
 i:Nat
 texts:List Int
 first:Ev
 found:Bool
def Gn (l:List Ev) (q1:Et):Fam:=⟨Hr,fun q2=>[(0,.v (.c (.seq .ev l))),(3,.v (vO 0)),(4,.v (vI ((q2.i:Nat):Int))),(6,.v (vO 1)),(7,.v (vP 2)),(8,.v (vB q2.found))],fun q2=>[.lst .ev q1.out,.lst .u8 q2.texts,.cells (cEv q2.first)],fun q2=>q2.i≤List.length l∧q1.i<q2.i∧Yr q1.out q2.first (List.map Bk q2.texts) q2.found (List.drop q2.i l) (Fe l)∧List.length q2.texts+tx (List.drop q2.i l)≤tx l,fun q2=>List.length l-q2.i⟩
theorem Ajh (l:List Ev) (hp1:List.length l≤100000000) (hp2:tx l≤100000000):Fun Tryz.prog 49 [.c (.seq .ev l)] [] (.v (vO 0)) [.lst .ev (Fe l)]:=by
 have hN:Bn=274877906944:=rfl
 refine Av Tryz.func49 Q4 Q4 (w:=let z10:=My l;(.seg [.ty .ev,.at 0,.keep [0,3,4],.sel [0]] (.loop z10 fun q1=> .br (.intro (Sx (l[q1.i]?)) fun x1=> .seg [.el .ev x1,.as 19 (.v (vI (((q1.i:Nat):Int)+1)))] (.br (.seg [.ty .ev,.ty .ev,.at 0,.keep [0,3,4],.sel [3]] (.next)) (.seg [.ord (os 7 [4,5]) [],.at 0,.keep [0,3,4,6,7,8],.sel [0,2,3]] (.loop (Gn l q1) fun q2=>let z4:S:= .v (vI (((q2.i:Nat):Int)+1));.br (.intro (Sx (l[q2.i]?)) fun x2=> .seg [.el .ev x2] (.br (.br (.seg [.el .ev x2] (.br (.seg [.el .ev x2,.el .ev x2,.ty .u8,.as 68 z4,.at 0,.keep [0,3,4,6,7,8],.sel [0,3,2]] (.next)) (.seg [.el .ev x2,.ty .u8,.as 68 z4,.at 0,.keep [0,3,4,6,7,8],.sel [0,3,2]] (.next)))) (.seg [.el .ev x2,.ty .u8,.as 68 z4,.at 0,.keep [0,3,4,6,7,8],.sel [0,3,2]] (.next))) (.br (.seg [.ty .ev,.ty .ev,.at 0,.keep [0,3,4],.sel [4]] (.next)) (.seg [.at 0,.keep [0,3,4],.sel [0]] (.next))))) (.br (.seg [.ty .ev,.ty .ev,.at 0,.keep [0,3,4],.sel [4]] (.next)) (.seg [.at 0,.keep [0,3,4],.sel [0]] (.next))))))) (.leaf () [0])),z10.Has [(0,.v (.c (.seq .ev l))),(3,.v (vO 0)),(4,.v (vI 0))] [.lst .ev ([]:List Ev)]∧∀q1,z10.inv q1→(let z8:=((q1.i:Nat):Int);let z9:=Gn l q1;Bc (decide (z8<((List.length l:Nat):Int))) (El (l[q1.i]?) fun x1=>((l[q1.i]? =some x1)∧((0:Int)≤z8)∧(wI (z8+1))∧Bc (!decide (x1.kind=4)) ((List.length q1.out+List.length [x1]≤Bn)∧z10.Nxt q1 [(0,.v (.c (.seq .ev l))),(3,.v (vO 0)),(4,.v (vI (z8+1)))] [.lst .ev (q1.out++[x1])]) ((List.length x1.text≤Bn)∧z9.Has [(0,.v (.c (.seq .ev l))),(3,.v (vO 0)),(4,.v (vI (z8+1))),(6,.v (vO 1)),(7,.v (vP 2)),(8,.v (vB (!decide (x1.text=[]))))] [.lst .ev q1.out,.lst .u8 (List.map (fun b=>(UInt8.toNat b:Int)) x1.text),.cells (cEv x1)]∧∀q2,z9.inv q2→(let z6:=((q2.i:Nat):Int);let z7:=(⟨q2.first.kind,q2.first.field,q2.first.bits,q2.first.len,List.map Bk q2.texts,q2.first.code,q2.first.at_⟩:Ev);let z5:=Bc q2.found ((List.length q1.out+List.length [z7]≤Bn)∧z10.Nxt q1 [(0,.v (.c (.seq .ev l))),(3,.v (vO 0)),(4,.v (vI z6))] [.lst .ev (q1.out++[z7])]) (z10.Nxt q1 [(0,.v (.c (.seq .ev l))),(3,.v (vO 0)),(4,.v (vI z6))] [.lst .ev q1.out]);Bc (decide (z6<((List.length l:Nat):Int))) (El (l[q2.i]?) fun x2=>(let z2:=List.map (fun b=>(UInt8.toNat b:Int)) x2.text;let z3:=l[q2.i]? =some x2;let z1:=z3∧((0:Int)≤z6)∧(List.length q2.texts+List.length z2≤Bn)∧(wI (z6+1))∧z9.Nxt q2 [(0,.v (.c (.seq .ev l))),(3,.v (vO 0)),(4,.v (vI (z6+1))),(6,.v (vO 1)),(7,.v (vP 2)),(8,.v (vB q2.found))] [.lst .ev q1.out,.lst .u8 (q2.texts++z2),.cells (cEv q2.first)];z3∧((0:Int)≤z6)∧Bc (decide (x2.kind=4)) (Bc (!q2.found) (z3∧((0:Int)≤z6)∧Bc (!decide (x2.text=[])) (z3∧((0:Int)≤z6)∧z3∧((0:Int)≤z6)∧(List.length q2.texts+List.length z2≤Bn)∧(wI (z6+1))∧z9.Nxt q2 [(0,.v (.c (.seq .ev l))),(3,.v (vO 0)),(4,.v (vI (z6+1))),(6,.v (vO 1)),(7,.v (vP 2)),(8,.v (vB true))] [.lst .ev q1.out,.lst .u8 (q2.texts++z2),.cells (cEv x2)]) z1) z1) z5)) z5)))) (Lf (.v (vO 0)) (.v (vO 0)) [.lst .ev q1.out] [.lst .ev (Fe l)])))) Q4 ?_
 refine⟨Cm (j:=(⟨([]:List Ev),0⟩:Et)) Q9 rfl (by dsimp only[My];exact⟨by omega,rfl,by simp,Am8⟩),fun (q1:Et) hq_q1=>?_⟩
 have hi_q1:q1.i≤List.length l∧G8 q1.out (List.drop q1.i l)=Fe l∧List.length q1.out≤q1.i∧sep q1.out (List.drop q1.i l):=hq_q1
 obtain ⟨v1,v2,v3,v4⟩:=hi_q1
 refine dsp (fun h1 p1=>?_) fun h1 p1=>?_
 refine⟨(Bo (l:=l) (i:=q1.i) Q2),fun x1 hx1=>?_⟩
 rw[Ef hx1,Kb] at v2
 have hdx:=Ef hx1
 have htl:tx (List.drop q1.i l)=x1.text.length+tx (List.drop (q1.i+1) l):=by rw[hdx,tx]
 have htl2:=Ag3 l q1.i
 have hse:=fun hk=>Aot v4 hx1 hk
 refine⟨hx1,Q2,(Af Q2 Q2),fun h2=>have q2:=Aq h2;have p2:=of_decide_eq_false q2;?_,fun h2=>have q2:=Ao h2;have p2:=of_decide_eq_true q2;?_⟩
 exact⟨Q5,Be (j:=(⟨q1.out++[x1],q1.i+1⟩:Et)) Q9 rfl Q13 Q55⟩
 have hse:=hse (by assumption)
 refine⟨Q2,Cm (j:=(⟨q1.i+1,List.map (fun b=>(UInt8.toNat b:Int)) x1.text,x1,!decide (x1.text=[])⟩:Hr)) Q9 rfl (by dsimp only[Gn];exact(by first|(exact⟨by omega,by omega,by rw[Gf];exact Ajg (by assumption) hse v2,by simp;omega⟩))),fun (q2:Hr) hq_q2=>?_⟩
 have hi_q2:q2.i≤List.length l∧q1.i<q2.i∧Yr q1.out q2.first (List.map Bk q2.texts) q2.found (List.drop q2.i l) (Fe l)∧List.length q2.texts+tx (List.drop q2.i l)≤tx l:=hq_q2
 obtain ⟨w1,w2,w3,w4⟩:=hi_q2
 refine dsp (fun h3 p3=>?_) fun h3 p3=>?_
 refine⟨(Bo (l:=l) (i:=q2.i) Q2),fun x2 hx2=>?_⟩
 have hdr:=Ef hx2
 have htx:tx (List.drop q2.i l)=x2.text.length+tx (List.drop (q2.i+1) l):=by rw[hdr,tx]
 refine⟨hx2,Q2,dsp (fun h4 p4=>?_) fun h4 p4=>?_⟩
 refine⟨fun h5=>have q5:=Aq h5;?_,fun h5=>have q5:=Ao h5;?_⟩
 refine⟨hx2,Q2,fun h6=>have q6:=Aq h6;have p6:=of_decide_eq_false q6;?_,fun h6=>have q6:=Ao h6;have p6:=of_decide_eq_true q6;?_⟩
 exact⟨hx2,Q2,hx2,Q2,Q12,(Af Q2 Q2),Be (j:=(⟨q2.i+1,q2.texts++(List.map (fun b=>(UInt8.toNat b:Int)) x2.text),x2,true⟩:Hr)) Q9 rfl Q14 (by dsimp only[Gn];omega)⟩
 exact⟨hx2,Q2,Q12,(Af Q2 Q2),Be (j:=(⟨q2.i+1,q2.texts++(List.map (fun b=>(UInt8.toNat b:Int)) x2.text),q2.first,q2.found⟩:Hr)) Q9 rfl Q14 (by dsimp only[Gn];omega)⟩
 exact⟨hx2,Q2,Q12,(Af Q2 Q2),Be (j:=(⟨q2.i+1,q2.texts++(List.map (fun b=>(UInt8.toNat b:Int)) x2.text),q2.first,q2.found⟩:Hr)) Q9 rfl Q14 (by dsimp only[Gn];omega)⟩
 have hsp: ∀o,sep o (List.drop q2.i l):=fun o=>Acy (.inr ⟨x2,by assumption,by assumption⟩)
 refine⟨fun h5=>?_,fun h5=>?_⟩
 exact⟨(by simp only[List.length_map,List.length_cons,List.length_nil];omega),Be (j:=(⟨q1.out++[(⟨q2.first.kind,q2.first.field,q2.first.bits,q2.first.len,List.map Bk q2.texts,q2.first.code,q2.first.at_⟩:Ev)],q2.i⟩:Et)) rfl rfl Q13 Q55⟩
 exact Be (j:=(⟨q1.out,q2.i⟩:Et)) rfl rfl Q13 Q55
 have hsp: ∀o,sep o (List.drop q2.i l):=fun o=>Acy (.inl (by omega))
 refine⟨fun h4=>?_,fun h4=>?_⟩
 exact⟨(by simp only[List.length_map,List.length_cons,List.length_nil];omega),Be (j:=(⟨q1.out++[(⟨q2.first.kind,q2.first.field,q2.first.bits,q2.first.len,List.map Bk q2.texts,q2.first.code,q2.first.at_⟩:Ev)],q2.i⟩:Et)) rfl rfl Q13 Q55⟩
 exact Be (j:=(⟨q1.out,q2.i⟩:Et)) rfl rfl Q13 Q55
 rw[List.drop_eq_nil_of_le (by omega),Ad5] at v2
 refine⟨rfl,(Ac (congrArg (Blk.lst .ev) ?_) rfl)⟩
 rotate_left
 all_goals first|(exact v2)|((rw[←v2];done))
def Ui (l:List Ev):Prop:= ∀e∈l,e.text.length≤1
theorem Ys:Ui []:=fun _ h=>by cases h
theorem Acz {a b:List Ev} (ha:Ui a) (hb:Ui b):Ui (a++b):=fun e h=>(List.mem_append.1 h).elim (ha e) (hb e)
theorem Aji {e:Ev} (h:e.text.length≤1):Ui [e]:=fun x hx=>by simp at hx;rw[hx];exact h
theorem G9 {a:List Ev} {e:Ev} (ha:Ui a) (h:e.text.length≤1):Ui (a++[e]):=Acz ha (Aji h)
theorem Ag4: ∀ {l:List Ev},Ui l→tx l≤l.length
 |[],_=>Nat.le_refl _
 |e::r,h=>by
  have h1:=h e (List.mem_cons_self ..)
  have h2:=Ag4 (l:=r) fun x hx=>h x (List.mem_cons_of_mem _ hx)
  rw[tx,List.length_cons];omega
theorem Ds {m:Mac} {c a:Int} (h:Ui m.out):Ui (A3 m c a).out:=G9 h (Nat.zero_le _)
theorem Abg {m q:Mac} (h:Ui m.out) (hc:A2 m=some q):Ui q.out:=by
 unfold A2 at hc
 split at hc
 ·split at hc
  ·cases hc;exact Ds h
  ·cases hc;exact G9 h (Nat.zero_le _)
 ·split at hc
  ·cases hc;exact h
  ·split at hc
   ·split at hc<;>(cases hc;exact G9 h (Nat.zero_le _))
   ·cases hc
theorem Dp {m:Mac} (h:Ui m.out):Ui (Ap m).out:=by
 suffices ∀(k:Nat) (m:Mac),wM m≤k→Ui m.out→Ui (Ap m).out from this _ m (Nat.le_refl _) h
 intro k
 induction k with
 |zero=>
  intro m hk h
  cases hc:A2 m with
  |none=>rw[B6 hc];exact h
  |some q=>have:=(D3 hc).1;omega
 |succ k ih=>
  intro m hk h
  cases hc:A2 m with
  |none=>rw[B6 hc];exact h
  |some q=>rw[Cu hc];exact ih q (by have:=(D3 hc).1;omega) (Abg h hc)
theorem Qx {m:Mac} {u:Int} (h:Ui m.out):Ui (Cb m u).out:=by
 unfold Cb
 simp only
 split
 ·exact h
 ·exact G9 h (Nat.zero_le _)
theorem Ad8 {m:Mac} {b:Int} (h:Ui m.out):Ui (Df m b).out:=by
 unfold Df
 split
 ·unfold Em
  split
  ·split
   ·exact Ds h
   ·exact Dp (G9 h (Nat.le_refl _))
  ·exact Dp (G9 h (Nat.le_refl _))
 ·split
  ·exact Dp h
  ·split
   ·unfold Hf
    split
    ·exact h
    ·split
     ·exact Ds (Qx h)
     ·exact Dp (Qx h)
   ·unfold Dr
    split
    ·exact Ds h
    ·split
     ·unfold Zt
      split
      ·exact Ds h
      ·exact h
     ·split
      ·unfold Ee
       split
       ·exact Ds h
       ·exact Dp (G9 h (Nat.zero_le _))
      ·split
       ·unfold Lj
        split
        ·exact Ds h
        ·split
         ·exact Ds h
         ·split
          ·exact Ds h
          ·split
           ·exact Ds h
           ·exact h
       ·split
        ·unfold E2
         split
         ·exact Ds h
         ·split
          ·exact Dp h
          ·split
           ·split
            ·exact Ds h
            ·exact Dp (G9 h (Nat.zero_le _))
           ·split
            ·exact Dp (G9 h (Nat.zero_le _))
            ·split
             ·exact Ds h
             ·exact Dp h
        ·exact Dp (Qx h)
theorem Ad9 {m:Mac} {b:Int} (h:Ui m.out):Ui (R6 m b).out:=by
 unfold R6
 refine Acz h ?_
 unfold Le
 split
 ·exact Ad8 Ys
 ·exact Ys
theorem Xn: ∀(s:List UInt8) (m:Mac),Ui m.out→Ui (Cs m s).out
 |[],m,h=>h
 |b::r,m,h=>by rw[Hq];exact Xn r _ (Ad9 h)
theorem Ak6 (d:Dcd) (s:List UInt8):(Cs ⟨d,[]⟩ s).out.length≤14*s.length∧tx (Cs ⟨d,[]⟩ s).out≤14*s.length:=by
 have h1:=(Vo s ⟨d,[]⟩).2.2.1
 have h2:=Ag4 (Xn s ⟨d,[]⟩ Ys)
 simp only[List.length_nil] at h1
 omega
def Dq (d:Dcd) (s:List UInt8):Mac:=⟨(Cs ⟨d,[]⟩ s).d,Fe (Cs ⟨d,[]⟩ s).out⟩
theorem Ag5 (d:Dcd) (s:List UInt8):(Dq d s).d.plan=d.plan∧((Dq d s).d.stack.length:Int)≤max (d.stack.length:Int) 8∧(Dq d s).out.length≤14*s.length∧((0≤d.scan.bits∧d.scan.bits≤18446744073709551615)→0≤(Dq d s).d.scan.bits∧(Dq d s).d.scan.bits≤18446744073709551615):=by
 have h:=Vo s ⟨d,[]⟩
 have h2:=Ak6 d s
 have h3:=Ad7 (Cs ⟨d,[]⟩ s).out
 exact⟨h.1,h.2.1,Nat.le_trans h3 h2.1,h.2.2.2⟩
theorem Aou (d:Dcd) (s:List UInt8) (hp1:List.length (d).plan.shapes≤1048576) (hp2: ∀e∈(d).plan.shapes,List.length e.fields≤1048576) (hp3:List.length (d).stack≤1048576) (hp4:(0:Int)≤(d).scan.bits∧(d).scan.bits≤18446744073709551615) (hp5:List.length s≤1048576):Fun Tryz.prog 20 [.agg (C4 d),vT s] [] (.tup [.agg (C6 0 1 (Dq d s).d),vO 2]) [.tree (Dq d s).d.plan.shapes,.lst .lev (Dq d s).d.stack,.lst .ev (Dq d s).out]:=by
 have hN:Bn=274877906944:=rfl
 have hfb:=Ak6 d s
 refine Av Tryz.func20 Q4 Q4 (w:=let z1:=Cs ⟨d,[]⟩ s;let z2:S:= .tup [.agg (C6 0 1 z1.d),vO 2];(.seg [.call [] z2 (Ls z1.d z1.out),.tree (.first 0 (.first 1 (.one 2 (.one 3 (.first 4 (.done)))))) 3 [],.call [] (.v (vO 0)) [.lst .ev (Fe z1.out)]] (.leaf () [2,3,6]),(Fp 48 [.agg (C4 d),vT s] [] z2 (Ls z1.d z1.out))∧(Fp 49 [.c (.seq .ev z1.out)] [] (.v (vO 0)) [.lst .ev (Fe z1.out)])∧Lf z2 (.tup [.agg (C6 0 1 (Dq d s).d),vO 2]) (Ls z1.d (Fe z1.out)) (Ls (Dq d s).d (Dq d s).out))) Q4 ?_
 refine⟨(Ag1 d _ Q2 (hp2) Q2 Q2 Q2),(Ajh _ Q2 Q2),?_⟩
 have hm1:(Dq d s).d=(Cs ⟨d,[]⟩ s).d:=by rfl
 have hm2:(Dq d s).out=Fe (Cs ⟨d,[]⟩ s).out:=by rfl
 exact⟨Q7,Q52⟩
structure Ajj where
 i:Nat
structure Ajk where
 k:Nat
structure Ajm where
 i:Nat
theorem Aov {x y:Ev} (h:x.kind=y.kind∧x.field=y.field∧x.bits=y.bits∧x.len=y.len∧x.text=y.text∧x.code=y.code∧x.at_=y.at_):x=y:=by
 cases x;cases y;simp at h ⊢;exact h
theorem Ag6 {a b:List Ev} {i:Nat} {x y:Ev} (h:a.take i=b.take i) (hx:a[i]? =some x) (hy:b[i]? =some y) (e:x=y):a.take (i+1)=b.take (i+1):=by
 rw[List.take_add_one,List.take_add_one,h,hx,hy,e]
theorem Ajn {a b:List Ev} {i:Nat} (h:a.take i=b.take i) (hl:a.length=b.length) (hi:a.length≤i):a=b:=by
 rwa [List.take_of_length_le hi,List.take_of_length_le (by omega)] at h
structure K5 where
 i:Nat
def K6 (a:List Ev) (b:List Ev):Fam:=⟨K5,fun q1=>[(0,.v (.c (.seq .ev a))),(1,.v (.c (.seq .ev b))),(5,.v (vI ((q1.i:Nat):Int)))],fun _=>[],fun q1=>q1.i≤List.length a∧List.length a=List.length b∧List.take q1.i a=List.take q1.i b,fun q1=>List.length a-q1.i⟩
theorem Z4 (a:List Ev) (b:List Ev) (hp1:List.length a≤Bn) (hp2:List.length b≤Bn):Fun Tryz.prog 14 [.c (.seq .ev a),.c (.seq .ev b)] [] (.v (vB (decide (a=b)))) []:=by
 have hN:Bn=274877906944:=rfl
 refine Av Tryz.func14 Q4 Q4 (w:=let z2:=Lf (.v (vB false)) (.v (vB (decide (a=b)))) [] [];let z3:=K6 a b;(.br (.leaf () []) (.seg [.at 0,.keep [0,1,5],.sel []] (.loop z3 fun q1=> .br (.intro (Sx (a[q1.i]?)) fun x1=> .intro (Sx (b[q1.i]?)) fun x2=> .seg [.ord (os 9 []) [],.el .ev x1,.el .ev x2] (.br (.leaf () []) (.seg [.as 16 (.v (vI (((q1.i:Nat):Int)+1))),.at 0,.keep [0,1,5],.sel []] (.next)))) (.leaf () []))),Bc (!decide (((List.length a:Nat):Int)=((List.length b:Nat):Int))) z2 (z3.Has [(0,.v (.c (.seq .ev a))),(1,.v (.c (.seq .ev b))),(5,.v (vI 0))] []∧∀q1,z3.inv q1→(let z1:=((q1.i:Nat):Int);Bc (decide (z1<((List.length a:Nat):Int))) (El (a[q1.i]?) fun x1=>(El (b[q1.i]?) fun x2=>((a[q1.i]? =some x1)∧((0:Int)≤z1)∧(a[q1.i]? =some x1)∧((0:Int)≤z1)∧(b[q1.i]? =some x2)∧((0:Int)≤z1)∧(b[q1.i]? =some x2)∧((0:Int)≤z1)∧Bc (!(decide (x1.kind=x2.kind)&&(decide (x1.field=x2.field)&&(decide (x1.bits=x2.bits)&&(decide (x1.len=x2.len)&&(decide (x1.text=x2.text)&&(decide (x1.code=x2.code)&&decide (x1.at_=x2.at_)))))))) z2 ((wI (z1+1))∧z3.Nxt q1 [(0,.v (.c (.seq .ev a))),(1,.v (.c (.seq .ev b))),(5,.v (vI (z1+1)))] [])))) (Lf (.v (vB true)) (.v (vB (decide (a=b)))) [] []))))) Q4 ?_
 refine⟨fun h1=>have q1:=Aq h1;have p1:=of_decide_eq_false q1;?_,fun h1=>have q1:=Ao h1;have p1:=of_decide_eq_true q1;?_⟩
 refine⟨(sB ?_),rfl⟩
 rotate_left
 refine⟨Cm (j:=(⟨0⟩:K5)) Q9 rfl (by dsimp only[K6];exact⟨by omega,by omega,by simp⟩),fun (q1:K5) hq_q1=>?_⟩
 have hi_q1:q1.i≤List.length a∧List.length a=List.length b∧List.take q1.i a=List.take q1.i b:=hq_q1
 obtain ⟨v1,v2,v3⟩:=hi_q1
 refine dsp (fun h2 p2=>?_) fun h2 p2=>?_
 refine⟨(Bo (l:=a) (i:=q1.i) Q2),fun x1 hx1=>?_⟩
 refine⟨(Bo (l:=b) (i:=q1.i) Q2),fun x2 hx2=>?_⟩
 refine⟨hx1,Q2,hx1,Q2,hx2,Q2,hx2,Q2,fun h3=>have q3:=Aq h3;have p3:=(Db dT (Db dT (Db dT (Db dT (Db dT (Db dT dF)))))).1 q3;?_,fun h3=>have q3:=Ao h3;have p3:=(Da dT (Da dT (Da dT (Da dT (Da dT (Da dT dT)))))).1 q3;?_⟩
 refine⟨(sB ?_),rfl⟩
 rotate_left
 exact⟨(Af Q2 Q2),Be (j:=(⟨q1.i+1⟩:K5)) Q9 rfl (by dsimp only[K6];exact⟨by omega,v2,Ag6 v3 hx1 hx2 (Aov p3)⟩) (by dsimp only[K6];omega)⟩
 refine⟨(sB ?_),rfl⟩
 rotate_left
 all_goals first|(exact(decide_eq_true (Ajn v3 v2 (by omega))).symm)|(exact(decide_eq_false (fun h=>by subst h;omega)).symm)|(exact(decide_eq_false (fun h=>by subst h;rw[hx1] at hx2;cases hx2;simp at p3)).symm)
structure Rdr where
 data:List UInt8
 at_:Int
 script:List Rd
 next:Int
 code:Int
structure Aqm where
 reader:Rdr
 dec:Dcd
 queue:List Ev
 reads:Int
def Aow (a:Int):Ev:=⟨9,0,0,0,[],0,a⟩
def Aox (d:Dcd):Mac:=if Ce d=false∨d.mode=9 then ⟨d,[]⟩ else if d.mode=1∧d.scan.have_=0 then ⟨⟨d.plan,9,d.stack,d.scan,d.start,d.at_,d.field,d.wire,d.want,d.utf,Aow d.at_⟩,[Aow d.at_]⟩ else ⟨G1 d 10 d.at_,[Bh 10 d.at_]⟩
def Pb (d:Dcd) (c:Int):Mac:=if Ce d=true∧d.mode≠9∧1≤c then ⟨G1 d c d.at_,[Bh c d.at_]⟩ else ⟨d,[]⟩
theorem Apv {d:Dcd} (h:d.mode=9):(∀s:List UInt8,Cs ⟨d,[]⟩ s=⟨d,[]⟩)∧Aox d=⟨d,[]⟩∧∀c,Pb d c=⟨d,[]⟩:=by
 refine⟨fun s=>?_,?_,fun c=>?_⟩
 ·exact R7 (m:=⟨d,[]⟩) (by simp[Fd,h]) s
 ·unfold Aox;rw[if_pos (.inr h)]
 ·unfold Pb;rw[if_neg (fun hc=>hc.2.1 h)]
theorem Ana (d:Dcd) (c:Int) (hp1:List.length (d).plan.shapes≤1048576) (hp2: ∀e∈(d).plan.shapes,List.length e.fields≤1048576) (hp3:List.length (d).stack≤1048576) (hp4:(0:Int)≤(d).scan.bits∧(d).scan.bits≤18446744073709551615):Fun Tryz.prog 21 [.agg (C4 d),vI c] [] (.tup [.agg (C6 0 1 (Pb d c).d),vO 2]) [.tree (Pb d c).d.plan.shapes,.lst .lev (Pb d c).d.stack,.lst .ev (Pb d c).out]:=by
 have hN:Bn=274877906944:=rfl
 refine Av Tryz.func21 Q4 Q4 (w:=let zi:Int→C:= .int .i64;let z1:=A3 (⟨d,([]:List Ev)⟩:Mac) c d.at_;let z3:List Blk:=[.cells (Ab 1 2 4 z1),.tree z1.d.plan.shapes,.lst .lev z1.d.stack,.dead,.lst .ev z1.out];let z4:S:= .tup [.agg (C6 0 1 (Pb d c).d),vO 2];let z5:=Ls (Pb d c).d (Pb d c).out;let z2:=Lf (.tup [.agg (C6 0 1 d),vO 2]) z4 (Ls d ([]:List Ev)) z5;(.seg [.call [] (.v (.agg (C6 0 1 d))) (L2 d),.call [] (.v (vB (Ce d))) []] (.br (.br (.br (.seg [.at 4,.mk 4 27 .ev,.call [4,2,3,5] (.tup []) z3,.ord (os 10 [8]) [1]] (.leaf () [2,3,6])) (.seg [.at 5,.mk 4 27 .ev,.ord (os 10 [8]) [1]] (.leaf () [2,3,5]))) (.seg [.at 5,.mk 4 27 .ev,.ord (os 10 [8]) [1]] (.leaf () [2,3,5]))) (.seg [.at 5,.mk 4 27 .ev,.ord (os 10 [8]) [1]] (.leaf () [2,3,5]))),(Fp 50 [.agg (C4 d)] [] (.v (.agg (C6 0 1 d))) (L2 d))∧(Fp 51 [.agg (C4 d)] [] (.v (vB (Ce d))) [])∧Bc (Ce d) (Bc (!decide (d.mode=9)) (Bc (decide (1≤c)) ((Fp 52 [vP 0,vI c,vI d.at_] [.cells [.own 1,zi d.plan.root,zi d.plan.deep,zi d.plan.most,zi d.mode,.own 2,.int .u64 d.scan.bits,zi d.scan.have_,zi d.start,zi d.at_,zi d.field.number,zi d.field.kind,.bool d.field.rep,.bool d.field.packed,zi d.field.msg,zi d.wire,zi d.want,zi d.utf.want,zi d.utf.low,zi d.utf.high,zi d.end_.kind,zi d.end_.field,.int .u64 d.end_.bits,zi d.end_.len,.str d.end_.text,zi d.end_.code,zi d.end_.at_,.own 3],.tree d.plan.shapes,.lst .lev d.stack,.lst .ev ([]:List Ev)] (.tup []) z3)∧Lf (.tup [.agg (C6 0 1 z1.d),vO 2]) z4 (Ls z1.d z1.out) z5) z2) z2) z2)) Q4 ?_
 refine⟨(Z1 d Q2 (hp2) Q2),(Agr d Q2 Q2),fun h1=>?_,fun h1=>?_⟩
 refine⟨fun h2=>have q2:=Aq h2;have p2:=of_decide_eq_false q2;?_,fun h2=>have q2:=Ao h2;have p2:=of_decide_eq_true q2;?_⟩
 refine dsp (fun h3 p3=>?_) fun h3 p3=>?_
 refine zM Mac.d Mac.out (Pb d c) (A3 (⟨d,([]:List Ev)⟩:Mac) c d.at_) (fun hm1 hm2=>⟨(B8 (⟨d,([]:List Ev)⟩:Mac) _ _ Q21),Q7,Q52⟩) ?_ ?_
 rotate_left 2
 refine zD ((Pb d c).d) d ((Pb d c).out) ([]:List Ev) (fun hm1 hm2=>⟨Q7,Q52⟩) ?_ ?_
 rotate_left 2
 refine zD ((Pb d c).d) d ((Pb d c).out) ([]:List Ev) (fun hm1 hm2=>⟨Q7,Q52⟩) ?_ ?_
 rotate_left 2
 refine zD ((Pb d c).d) d ((Pb d c).out) ([]:List Ev) (fun hm1 hm2=>⟨Q7,Q52⟩) ?_ ?_
 rotate_left 2
 all_goals first|(simp_all[Pb,A3,G1];done)|(grind[Pb,A3,G1])
structure Mr where
 plan:Pln
 s:List UInt8
 at_:Int
 out:List Ev
 fail:Ev
 deriving Inhabited
def Cw (r:Mr) (c a:Int):Mr:=⟨r.plan,r.s,r.at_,r.out,Bh c a⟩
def F0 (r:Mr) (a:Int):Mr:=⟨r.plan,r.s,a,r.out,r.fail⟩
def Ag (r:Mr) (e:Ev):Mr:=⟨r.plan,r.s,r.at_,r.out++[e],r.fail⟩
def Bq (r:Mr) (end_:Int):Bool:=decide ((Ae r.s r.at_ end_).2.2=0)
def A5 (r:Mr) (end_:Int):Int:=if Bq r end_ then (Ae r.s r.at_ end_).1 else 0
def Az (r:Mr) (end_:Int):Mr:=if Bq r end_ then F0 r (Ae r.s r.at_ end_).2.1 else Cw r (Ae r.s r.at_ end_).2.2 (Ae r.s r.at_ end_).2.1
def Hs (r:Mr) (w end_:Int):Bool:=decide (w≤end_-r.at_)&&Dx r.s r.at_ w
def K7 (r:Mr) (w end_:Int):Int:=if Hs r w end_ then Ln r.s r.at_ w else 0
def Ha (r:Mr) (w end_:Int):Mr:=if end_-r.at_<w then Cw r 9 r.at_ else if Dx r.s r.at_ w then F0 r (r.at_+w) else Cw r 10 (r.s.length:Int)
def E7 (r:Mr) (wire end_:Int):Bool:=if 0<Ak wire then Hs r (Ak wire) end_ else Bq r end_
def Gt (r:Mr) (wire end_:Int):Int:=if 0<Ak wire then K7 r (Ak wire) end_ else A5 r end_
def E3 (r:Mr) (wire end_:Int):Mr:=if 0<Ak wire then Ha r (Ak wire) end_ else Az r end_
def Bm (r:Mr) (f:Fld) (wire end_:Int):Mr:=if E7 r wire end_=true∧0<f.number then Ag (E3 r wire end_) (Ez f (Gt r wire end_)) else E3 r wire end_
def E8 {α:Type} (go:α→Bool) (step:α→α):Nat→α→α
 |0,a=>a
 |k+1,a=>if go a then E8 go step k (step a) else a
theorem C7 {α:Type} {go:α→Bool} {step:α→α} {k:Nat} {a:α} (h:go a=false):E8 go step k a=a:=by
 cases k with
 |zero=>rfl
 |succ k=>simp[E8,h]
theorem Aea {α:Type} {go:α→Bool} {step:α→α} (inv:α→Prop) (μ:α→Nat) (dec: ∀a,inv a→go a=true→inv (step a)∧μ (step a)<μ a): ∀(n:Nat) (a:α) (k l:Nat),μ a≤n→inv a→μ a≤k→μ a≤l→E8 go step k a=E8 go step l a:=by
 intro n
 induction n with
 |zero=>
  intro a k l h hi _ _
  cases hg:go a with
  |false=>rw[C7 hg,C7 hg]
  |true=>have:=(dec a hi hg).2;omega
 |succ n ih=>
  intro a k l h hi hk hl
  cases hg:go a with
  |false=>rw[C7 hg,C7 hg]
  |true=>
   obtain ⟨h1,h2⟩:=dec a hi hg
   obtain ⟨k,rfl⟩: ∃j,k=j+1:=⟨k-1,by omega⟩
   obtain ⟨l,rfl⟩: ∃j,l=j+1:=⟨l-1,by omega⟩
   simp only[E8,hg,if_true]
   exact ih _ _ _ Q2 h1 Q2 Q2
theorem Yt {α:Type} {go:α→Bool} {step:α→α} (inv:α→Prop) (μ:α→Nat) (dec: ∀a,inv a→go a=true→inv (step a)∧μ (step a)<μ a) {a:α} (hi:inv a) (hg:go a=true):E8 go step (μ a) a=E8 go step (μ (step a)) (step a):=by
 obtain ⟨h1,h2⟩:=dec a hi hg
 obtain ⟨k,hk⟩: ∃j,μ a=j+1:=⟨μ a-1,by omega⟩
 rw[hk]
 simp only[E8,hg,if_true]
 exact Aea inv μ dec _ _ _ _ (Nat.le_refl _) h1 Q2 (Nat.le_refl _)
def Lg (end_:Int) (r:Mr):Bool:=decide (r.at_<end_)&&decide (r.fail.kind=0)
def Lw (r:Mr):Nat:=if r.fail.kind=0 then (1+(r.s.length:Int)-r.at_).toNat else 0
def Kq (r:Mr) (f:Fld) (end_:Int):Mr:=E8 (Lg end_) (fun r=>Bm r f (Ba f.kind) end_) (Lw r) r
def A4 (f:Fld) (n:Int):Ev:=⟨3,f.number,0,n,[],0,0⟩
def Du (t:List UInt8):Ev:=⟨4,0,0,0,t,0,0⟩
def Kd:Ev:=⟨5,0,0,0,[],0,0⟩
def E4 (f:Fld) (n:Int):Ev:=⟨6,f.number,0,n,[],0,0⟩
def Aoy:Ev:=⟨7,0,0,0,[],0,0⟩
def Ay (r:Mr) (n:Int):List UInt8:=(r.s.drop r.at_.toNat).take n.toNat
def Lx (r:Mr) (f:Fld) (n:Int):Int:=if f.kind=6 then Fi utf0 (Ay r n) else-1
def Z5 (r:Mr) (f:Fld) (n:Int):Utf:=if f.kind=6 then Sr utf0 (Ay r n) else utf0
def Ji (r:Mr) (f:Fld) (n:Int):List UInt8:=if 0≤Lx r f n then (Ay r n).take (Lx r f n).toNat else Ay r n
def Dj (r:Mr) (f:Fld) (n:Int):Mr:=if Ji r f n=[] then Ag r (A4 f n) else Ag (Ag r (A4 f n)) (Du (Ji r f n))
def Ch (r:Mr) (f:Fld) (n:Int):Mr:=
 if 0≤Lx r f n then Cw (Dj r f n) 5 (r.at_+Lx r f n)
 else if ((Ay r n).length:Int)<n then Cw (Dj r f n) 10 (r.s.length:Int)
 else if (Z5 r f n).want≠0 then Cw (Dj r f n) 5 (r.at_+n)
 else Ag (F0 (Dj r f n) (r.at_+n)) Kd
def Br (sub:Mr→Fld→Int→Int→Mr) (r:Mr) (f:Fld) (known:Bool) (end_:Int):Mr:=
 if Bq r end_=false then Az r end_
 else if end_-(Az r end_).at_<A5 r end_ then Cw (Az r end_) 8 r.at_
 else if known=false then (if (r.s.length:Int)-(Az r end_).at_<A5 r end_ then Cw (Az r end_) 10 (r.s.length:Int) else F0 (Az r end_) ((Az r end_).at_+A5 r end_))
 else if f.kind=8 then sub (Az r end_) f (A5 r end_) r.at_
 else if Cf f.kind=true then Kq (Az r end_) f ((Az r end_).at_+A5 r end_)
 else Ch (Az r end_) f (A5 r end_)
def Dv (sub:Mr→Fld→Int→Int→Mr) (shape end_:Int) (r:Mr):Mr:=
 if Bq r end_=false then Az r end_
 else if Kp (A5 r end_)=false then Cw (Az r end_) 2 r.at_
 else if De (Ah (A5 r end_))=false then Cw (Az r end_) 3 r.at_
 else if (fieldAt r.plan.shapes shape (Bi (A5 r end_))).isSome=true∧Dt ((fieldAt r.plan.shapes shape (Bi (A5 r end_))).getD fld0) (Ah (A5 r end_))=false then Cw (Az r end_) 4 r.at_
 else if Ah (A5 r end_)=2 then Br sub (Az r end_) ((fieldAt r.plan.shapes shape (Bi (A5 r end_))).getD fld0) (fieldAt r.plan.shapes shape (Bi (A5 r end_))).isSome end_
 else Bm (Az r end_) ((fieldAt r.plan.shapes shape (Bi (A5 r end_))).getD fld0) (Ah (A5 r end_)) end_
def Ht:Nat→Int→Int→Mr→Mr
 |0,shape,end_,r=>E8 (Lg end_) (Dv (fun r _ _ start=>Cw r 6 start) shape end_) (Lw r) r
 |D+1,shape,end_,r=>E8 (Lg end_) (Dv (fun r f n _=>if (Ht D f.msg (r.at_+n) (Ag r (E4 f n))).fail.kind=0 then Ag (Ht D f.msg (r.at_+n) (Ag r (E4 f n))) Aoy else Ht D f.msg (r.at_+n) (Ag r (E4 f n))) shape end_) (Lw r) r
def Jk:Nat→Mr→Fld→Int→Int→Mr
 |0=>fun r _ _ start=>Cw r 6 start
 |D+1=>fun r f n _=>if (Ht D f.msg (r.at_+n) (Ag r (E4 f n))).fail.kind=0 then Ag (Ht D f.msg (r.at_+n) (Ag r (E4 f n))) Aoy else Ht D f.msg (r.at_+n) (Ag r (E4 f n))
theorem Mz (D:Nat) (shape end_:Int) (r:Mr):Ht D shape end_ r=E8 (Lg end_) (Dv (Jk D) shape end_) (Lw r) r:=by
 cases D<;>rfl
/-! ### What steps keep -/
theorem Ak7 {s:List UInt8} {a e:Int} : ∀(f k:Nat) (u:Int),(vwA s a e f k u).2.2=0→a+k<(vwA s a e f k u).2.1∧(vwA s a e f k u).2.1≤e∧(vwA s a e f k u).2.1≤(s.length:Int)
 |0,k,u=>by simp[vwA]
 |f+1,k,u=>by
  rw[vwA]
  split
  ·simp
  split
  ·simp
  split
  ·simp
  split
  ·simp;omega
  ·intro h
   have:=Ak7 f (k+1) _ h
   rw[show ((k+1:Nat):Int)=(k:Int)+1 by simp] at this
   omega
theorem Fm {s:List UInt8} {a e:Int} (h:(Ae s a e).2.2=0):0≤a∧a<(Ae s a e).2.1∧(Ae s a e).2.1≤e∧(Ae s a e).2.1≤(s.length:Int):=by
 unfold Ae at h ⊢
 split
 ·rename_i hw
  rw[if_pos hw] at h
  have:=Aw hw
  have:=Ak7 10 0 0 h
  rw[show ((0:Nat):Int)=0 from rfl] at this
  omega
 ·rename_i hw
  rw[if_neg hw] at h
  simp at h
structure Adv (r r':Mr):Prop where
 plan:r'.plan=r.plan
 s:r'.s=r.s
 at_:r'.fail.kind=0→r.at_≤r'.at_∧r'.at_≤(r.s.length:Int)
 fail:r'.fail.kind=0→r'.fail=r.fail
 room:r'.fail.kind=0→(r'.out.length:Int)+4*((r.s.length:Int)-r'.at_)≤(r.out.length:Int)+4*((r.s.length:Int)-r.at_)
 most:(r'.out.length:Int)≤(r.out.length:Int)+4*((r.s.length:Int)-r.at_)
def Adv1 (r r':Mr):Prop:=Adv r r'∧(r'.fail.kind=0→r.at_<r'.at_)
theorem Adv.trans {a b c:Mr} (h:Adv a b) (hb:b.fail.kind=0) (g:Adv b c):Adv a c:=by
 obtain ⟨h1,h2⟩:=h.at_ hb
 have hr:=h.room hb
 have gm:=g.most
 rw[h.s] at gm
 refine⟨g.plan.trans h.plan,g.s.trans h.s,fun hc=>?_,fun hc=>(g.fail hc).trans (h.fail hb),fun hc=>?_,by omega⟩
 ·have:=g.at_ hc
  rw[h.s] at this
  omega
 ·have:=g.room hc
  rw[h.s] at this
  omega
theorem Adv.refl (r:Mr) (h:r.at_≤(r.s.length:Int)):Adv r r:=⟨rfl,rfl,fun _=>⟨Int.le_refl _,h⟩,fun _=>rfl,fun _=>Int.le_refl _,by omega⟩
theorem Adv1.trans {a b c:Mr} (h:Adv1 a b) (hb:b.fail.kind=0) (g:Adv b c):Adv1 a c:=
 ⟨h.1.trans hb g,fun hc=>by
  have h1:=h.2 hb
  have:=g.at_ hc
  omega⟩
theorem Adv.failed {r r':Mr} (hp:r'.plan=r.plan) (hs:r'.s=r.s) (hk:r'.fail.kind≠0) (ho:(r'.out.length:Int)≤(r.out.length:Int)+4*((r.s.length:Int)-r.at_)):Adv r r':=
 ⟨hp,hs,fun h=>(hk h).elim,fun h=>(hk h).elim,fun h=>(hk h).elim,ho⟩
theorem Adv1.failed {r r':Mr} (hp:r'.plan=r.plan) (hs:r'.s=r.s) (hk:r'.fail.kind≠0) (ho:(r'.out.length:Int)≤(r.out.length:Int)+4*((r.s.length:Int)-r.at_)):Adv1 r r':=
 ⟨Adv.failed hp hs hk ho,fun h=>(hk h).elim⟩
theorem B9 (r:Mr) (c a:Int):(Cw r c a).fail.kind≠0:=by simp[Cw,Bh]
theorem Sz {r:Mr} {c a:Int} (h:r.at_≤(r.s.length:Int)):Adv1 r (Cw r c a):=Adv1.failed rfl rfl (B9 r c a) (by simp only[Cw];omega)
theorem Pw {r:Mr} {e:Int} (h:Bq r e=true):Az r e=F0 r (Ae r.s r.at_ e).2.1:=by unfold Az;rw[if_pos h]
theorem Ke {r:Mr} {e:Int} (h:Bq r e=false):Az r e=Cw r (Ae r.s r.at_ e).2.2 (Ae r.s r.at_ e).2.1:=by unfold Az;rw[if_neg (by simp[h])]
theorem Ac0 {r:Mr} {a:Int} (h1:r.at_<a) (h2:a≤(r.s.length:Int)):Adv1 r (F0 r a):=
 ⟨⟨rfl,rfl,fun _=>⟨by simp only[F0];omega,h2⟩,fun _=>rfl,fun _=>by simp only[F0];omega,by simp only[F0];omega⟩,fun _=>h1⟩
theorem E5 {r:Mr} {e:Int} (h1:r.at_≤(r.s.length:Int)):Adv1 r (Az r e)∧(Bq r e=true→0≤r.at_∧(Az r e).at_≤e)∧(Az r e).out=r.out:=by
 cases hok:Bq r e with
 |true=>
  rw[Pw hok]
  have hc:(Ae r.s r.at_ e).2.2=0:=by simpa [Bq] using hok
  have hv:=Fm hc
  exact⟨Ac0 hv.2.1 hv.2.2.2,fun _=>⟨hv.1,hv.2.2.1⟩,rfl⟩
 |false=>
  rw[Ke hok]
  exact⟨Sz h1,fun h=>by simp at h,rfl⟩
theorem Ea {r:Mr} {e:Int} (h0:r.fail.kind=0):Bq r e=decide ((Az r e).fail.kind=0):=by
 cases hok:Bq r e with
 |true=>rw[Pw hok];simp[F0,h0]
 |false=>rw[Ke hok];rfl
theorem Ly {s:List UInt8} {a w:Int} (h:Dx s a w=true):(w=4∨w=8)∧0≤a∧a+w≤(s.length:Int):=by
 simp only[Dx,Bool.and_eq_true] at h
 have:=Aw h.2
 exact⟨Af7 h.1,by omega,by omega⟩
theorem Z6 {r:Mr} {w e:Int} (h1:r.at_≤(r.s.length:Int)):Adv1 r (Ha r w e)∧(Ha r w e).out=r.out:=by
 unfold Ha
 split
 ·exact⟨Sz h1,rfl⟩
 ·split
  ·rename_i h2 h3
   have:=Ly h3
   exact⟨Ac0 Q2 Q2,rfl⟩
  ·exact⟨Sz h1,rfl⟩
theorem Z7 {r:Mr} {w e:Int} (h1:r.at_≤(r.s.length:Int)):Adv1 r (E3 r w e)∧(E3 r w e).out=r.out:=by
 unfold E3;split
 ·exact Z6 h1
 ·exact⟨(E5 h1).1,(E5 h1).2.2⟩
theorem Eo {r:Mr} {w e:Int} (h0:r.fail.kind=0):E7 r w e=decide ((E3 r w e).fail.kind=0):=by
 unfold E7 E3;split
 ·unfold Ha Hs
  split
  ·rename_i h;rw[decide_eq_false (by omega)];rfl
  ·rename_i h;rw[decide_eq_true (by omega)]
   split<;>rename_i h2
   ·simp[h2,F0,h0]
   ·simp[h2,Cw,Bh]
 ·exact Ea h0
theorem Ajo {r r':Mr} {e:Ev} (h:Adv1 r r') (ho:r'.out=r.out) (hk:r'.fail.kind=0):Adv1 r (Ag r' e):=by
 have ha:=h.1.at_ hk
 have hb:=h.2 hk
 refine⟨⟨h.1.plan,h.1.s,h.1.at_,h.1.fail,fun _=>?_,?_⟩,h.2⟩
 ·simp only[Ag,List.length_append,List.length_cons,List.length_nil,ho];omega
 ·simp only[Ag,List.length_append,List.length_cons,List.length_nil,ho];omega
theorem Kf {r:Mr} {f:Fld} {w e:Int} (h1:r.at_≤(r.s.length:Int)) (h0:r.fail.kind=0):Adv1 r (Bm r f w e):=by
 have hv:=Z7 (w:=w) (e:=e) h1
 unfold Bm
 split
 ·rename_i hh
  have:=hh.1
  rw[Eo h0] at this
  exact Ajo hv.1 hv.2 (by simpa using this)
 ·exact hv.1
theorem Vq {go:Mr→Bool} {step:Mr→Mr} (hgo: ∀r,go r=true→r.fail.kind=0) (hstep: ∀r,r.at_≤(r.s.length:Int)→r.fail.kind=0→Adv1 r (step r)): ∀(k:Nat) (r:Mr),r.at_≤(r.s.length:Int)→Adv r (E8 go step k r)
 |0,r,h=>Adv.refl r h
 |k+1,r,h=>by
  unfold E8
  cases hg:go r with
  |false=>exact Adv.refl r h
  |true=>
   have hk:=hgo r hg
   have hs:=hstep r h hk
   simp only[if_true]
   by_cases hk':(step r).fail.kind=0
   ·have:=hs.1.at_ hk'
    exact hs.1.trans hk' (Vq hgo hstep k (step r) (by rw[hs.1.s];exact this.2))
   ·have:E8 go step k (step r)=step r:=C7 (by cases hg':go (step r) with
     |false=>rfl
     |true=>exact(hk' (hgo _ hg')).elim)
    rw[this];exact hs.1
theorem Kg {e:Int} {r:Mr} (h:Lg e r=true):r.fail.kind=0:=by simp[Lg] at h;exact h.2
theorem R8 {r r':Mr} (h1:r.at_≤(r.s.length:Int)) (h0:r.fail.kind=0) (h:Adv1 r r'):Lw r'<Lw r:=by
 unfold Lw
 rw[if_pos h0]
 split
 ·rename_i hk
  have:=h.2 hk
  have:=h.1.at_ hk
  rw[h.1.s];omega
 ·omega
theorem Ag7 {r:Mr} {f:Fld} {e:Int} (h1:r.at_≤(r.s.length:Int)):Adv r (Kq r f e):=
 Vq (fun r h=>Kg h) (fun r h h0=>Kf h h0) _ r h1
theorem Ac1 {r:Mr} {f:Fld} {e:Int} (h1:r.at_≤(r.s.length:Int)) (hg:Lg e r=true):Kq r f e=Kq (Bm r f (Ba f.kind) e) f e:=by
 unfold Kq
 refine Yt (fun r=>r.at_≤(r.s.length:Int)∨r.fail.kind≠0) Lw (fun a hi hg=>?_) (.inl h1) hg
 have hk:=Kg hg
 have ha:=hi.resolve_right (fun h=>h hk)
 have:=Kf (f:=f) (w:=Ba f.kind) (e:=e) ha hk
 refine⟨?_,R8 ha hk this⟩
 by_cases hk':(Bm a f (Ba f.kind) e).fail.kind=0
 ·left;rw[this.1.s];exact(this.1.at_ hk').2
 ·exact .inr hk'
theorem S0 {r:Mr} {f:Fld} {e:Int} (hg:Lg e r=false):Kq r f e=r:=C7 hg
theorem Aeb {r:Mr} {f:Fld} {w e:Int} (h:E7 r w e=true) (hf:0<f.number):Bm r f w e=Ag (E3 r w e) (Ez f (Gt r w e)):=by unfold Bm;rw[if_pos ⟨h,hf⟩]
theorem Abh {r:Mr} {f:Fld} {w e:Int} (h:E7 r w e=false):Bm r f w e=E3 r w e:=by unfold Bm;rw[if_neg (by simp[h])]
structure RunInv (r0:Mr) (f:Fld) (e:Int) (q:Mr):Prop where
 at_:q.at_≤(q.s.length:Int)
 fail:q.fail.kind=0
 adv:Adv r0 q
 run:Kq q f e=Kq r0 f e
theorem RunInv.refl {r:Mr} {f:Fld} {e:Int} (h1:r.at_≤(r.s.length:Int)) (h0:r.fail.kind=0):RunInv r f e r:=⟨h1,h0,Adv.refl r h1,rfl⟩
theorem RunInv.next {r q:Mr} {f:Fld} {e:Int} (h:RunInv r f e q) (hg:q.at_<e) (hok:E7 q (Ba f.kind) e=true) (hf:0<f.number):RunInv r f e (Ag (E3 q (Ba f.kind) e) (Ez f (Gt q (Ba f.kind) e))):=by
 have hgo:Lg e q=true:=by simp[Lg,hg,h.fail]
 have hs:=Kf (f:=f) (w:=Ba f.kind) (e:=e) h.at_ h.fail
 have hr:=Ac1 (f:=f) h.at_ hgo
 rw[Aeb hok hf] at hs hr
 have hk:(Ag (E3 q (Ba f.kind) e) (Ez f (Gt q (Ba f.kind) e))).fail.kind=0:=by
  rw[Eo h.fail] at hok;simpa [Ag] using hok
 exact⟨by rw[hs.1.s];exact(hs.1.at_ hk).2,hk,h.adv.trans h.fail hs.1,hr.symm.trans h.run⟩
theorem RunInv.bad {r q:Mr} {f:Fld} {e:Int} (h:RunInv r f e q) (hg:q.at_<e) (hok:E7 q (Ba f.kind) e=false):Kq r f e=E3 q (Ba f.kind) e:=by
 have hgo:Lg e q=true:=by simp[Lg,hg,h.fail]
 have hr:=Ac1 (f:=f) h.at_ hgo
 rw[Abh hok] at hr
 rw[←h.run,hr]
 refine S0 ?_
 rw[Eo h.fail] at hok
 have:(E3 q (Ba f.kind) e).fail.kind≠0:=by simpa using hok
 simp[Lg,this]
theorem RunInv.end_ {r q:Mr} {f:Fld} {e:Int} (h:RunInv r f e q) (hg: ¬q.at_<e):Kq r f e=q:=by
 rw[←h.run];exact S0 (by simp[Lg];omega)
theorem RunInv.room {r q:Mr} {f:Fld} {e:Int} (h:RunInv r f e q):q.s=r.s∧q.plan=r.plan∧r.at_≤q.at_∧(q.out.length:Int)+4*((r.s.length:Int)-q.at_)≤(r.out.length:Int)+4*((r.s.length:Int)-r.at_):=
 ⟨h.adv.s,h.adv.plan,(h.adv.at_ h.fail).1,h.adv.room h.fail⟩
theorem Ajp (r:Mr) (w e:Int):0≤K7 r w e∧K7 r w e≤18446744073709551615:=by
 unfold K7
 split
 ·rename_i h;simp only[Hs,Bool.and_eq_true] at h
  have hw:=Ly h.2
  unfold Ln;rw[if_pos h.2]
  have:=Pt (l:=List.take w.toNat (List.drop r.at_.toNat r.s)) (k:=8) (by rw[List.length_take];omega)
  have e8:(2:Nat) ^ (8*8)=18446744073709551616:=by decide
  omega
 ·omega
theorem Ajq (r:Mr) (w e:Int):0≤Gt r w e∧Gt r w e≤18446744073709551615:=by
 unfold Gt K7 A5
 split
 ·split
  ·rename_i h;simp only[Hs,Bool.and_eq_true] at h
   have hw:=Ly h.2
   unfold Ln;rw[if_pos h.2]
   have:=Pt (l:=List.take (Ak w).toNat (List.drop r.at_.toNat r.s)) (k:=8) (by rw[List.length_take];omega)
   have e8:(2:Nat) ^ (8*8)=18446744073709551616:=by decide
   omega
  ·omega
 ·split
  ·exact J5 _ _ _
  ·omega
theorem M0 (r:Mr) (e:Int):0≤A5 r e∧A5 r e≤18446744073709551615:=by
 unfold A5;split
 ·exact J5 _ _ _
 ·omega
theorem Ac2 {b:Bool} (h:b=false):(!b)=true:=by rw[h];rfl
theorem Uj {b:Bool} (h:b=true):(!b)=false:=by rw[h];rfl
theorem Ag8 {s:List UInt8} {a n e:Int} (ha:0≤a) (hn:0≤n) (hl:a≤(s.length:Int)) (he:e=a+n∧a+n≤(s.length:Int)∨e=(s.length:Int)∧(s.length:Int)≤a+n):List.drop a.toNat (List.take e.toNat s)=(s.drop a.toNat).take n.toNat:=by
 rw[List.drop_take]
 rcases he with ⟨he,_⟩|⟨he,hm⟩
 ·rw[he,show (a+n).toNat-a.toNat=n.toNat by omega]
 ·rw[List.take_of_length_le (by rw[List.length_drop];omega),List.take_of_length_le (by rw[List.length_drop];omega)]
theorem S3: ∀ {u:Utf} {s:List UInt8} {i j:Nat},(D8 u s i).2=some j→i≤j∧j<i+s.length
 |u,[],i,j,h=>by simp[D8] at h
 |u,b::r,i,j,h=>by
  unfold D8 at h
  split at h
  ·have:=S3 h;simp only[List.length_cons];omega
  ·simp at h;simp only[List.length_cons];omega
theorem Ajr (u:Utf) (s:List UInt8): -1≤Fi u s∧(0≤Fi u s→Fi u s<(s.length:Int)):=by
 unfold Fi
 split
 ·rename_i h;have:=S3 h;omega
 ·omega
theorem Pc {r:Mr} {n:Int} (hn:0≤n) (ha:0≤r.at_) (hl:r.at_≤(r.s.length:Int)):((Ay r n).length:Int)≤n∧((Ay r n).length:Int)≤(r.s.length:Int)-r.at_∧(((Ay r n).length:Int)<n→((Ay r n).length:Int)=(r.s.length:Int)-r.at_):=by
 unfold Ay;rw[List.length_take,List.length_drop];omega
/-! ### Texts, messages -/
structure AdvB (b:Int) (r r':Mr):Prop where
 plan:r'.plan=r.plan
 s:r'.s=r.s
 at_:r'.fail.kind=0→r.at_≤r'.at_∧r'.at_≤(r.s.length:Int)
 fail:r'.fail.kind=0→r'.fail=r.fail
 room:r'.fail.kind=0→(r'.out.length:Int)+4*((r.s.length:Int)-r'.at_)≤(r.out.length:Int)+b+4*((r.s.length:Int)-r.at_)
 most:(r'.out.length:Int)≤(r.out.length:Int)+b+4*((r.s.length:Int)-r.at_)
theorem Adv.b {r r':Mr} (h:Adv r r'):AdvB 0 r r':=⟨h.plan,h.s,h.at_,h.fail,fun hk=>by have:=h.room hk;omega,by have:=h.most;omega⟩
theorem AdvB.tell {b:Int} {r r':Mr} (h:AdvB b r r') (e:Ev):AdvB (b+1) r (Ag r' e):=
 ⟨h.plan,h.s,h.at_,h.fail,fun hk=>by have:=h.room hk;simp only[Ag,List.length_append,List.length_cons,List.length_nil];omega,by have:=h.most;simp only[Ag,List.length_append,List.length_cons,List.length_nil];omega⟩
theorem AdvB.failed {b:Int} {r r':Mr} (h:AdvB b r r') (c a:Int):AdvB b r (Cw r' c a):=
 ⟨h.plan,h.s,fun hk=>(B9 _ _ _ hk).elim,fun hk=>(B9 _ _ _ hk).elim,fun hk=>(B9 _ _ _ hk).elim,h.most⟩
theorem AdvB.moved {b:Int} {r r':Mr} (h:AdvB b r r') {a:Int} (h1:r'.fail.kind=0→r'.at_≤a) (h2:a≤(r.s.length:Int)):AdvB b r (F0 r' a):=
 ⟨h.plan,h.s,fun hk=>by have:=h.at_ hk;have:=h1 hk;exact⟨by simp only[F0];omega,h2⟩,h.fail,fun hk=>by have:=h.room hk;have:=h1 hk;simp only[F0];omega,h.most⟩
theorem AdvB.trans {b c:Int} {x y z:Mr} (h:AdvB b x y) (hb:y.fail.kind=0) (g:AdvB c y z):AdvB (b+c) x z:=by
 obtain ⟨h1,h2⟩:=h.at_ hb
 have hr:=h.room hb
 have gm:=g.most
 rw[h.s] at gm
 refine⟨g.plan.trans h.plan,g.s.trans h.s,fun hc=>?_,fun hc=>(g.fail hc).trans (h.fail hb),fun hc=>?_,by omega⟩
 ·have:=g.at_ hc
  rw[h.s] at this
  omega
 ·have:=g.room hc
  rw[h.s] at this
  omega
theorem AdvB.mono {b c:Int} {r r':Mr} (h:AdvB b r r') (hc:b≤c):AdvB c r r':=⟨h.plan,h.s,h.at_,h.fail,fun hk=>by have:=h.room hk;omega,by have:=h.most;omega⟩
theorem Adv1.after {b:Int} {r v w:Mr} (h:Adv1 r v) (ho:v.out=r.out) (hk:v.fail.kind=0) (g:AdvB b v w) (hb:b≤4):Adv1 r w:=by
 have h1:=h.1.at_ hk
 have h2:=h.2 hk
 have gm:=g.most
 rw[h.1.s,ho] at gm
 refine⟨⟨g.plan.trans h.1.plan,g.s.trans h.1.s,fun hc=>?_,fun hc=>(g.fail hc).trans (h.1.fail hk),fun hc=>?_,by omega⟩,fun hc=>?_⟩
 ·have:=g.at_ hc
  rw[h.1.s] at this
  omega
 ·have:=g.room hc
  rw[h.1.s,ho] at this
  omega
 ·have:=g.at_ hc
  omega
theorem Abi {r:Mr} {f:Fld} {n:Int} (hl:r.at_≤(r.s.length:Int)):AdvB 2 r (Dj r f n)∧(Dj r f n).at_=r.at_∧(Dj r f n).fail=r.fail:=by
 unfold Dj
 split
 ·exact⟨((Adv.refl r hl).b.tell _).mono (by decide),rfl,rfl⟩
 ·exact⟨(((Adv.refl r hl).b.tell _).tell _).mono (by decide),rfl,rfl⟩
theorem Abj {r:Mr} {f:Fld} {n:Int} (ha:0≤r.at_) (hl:r.at_≤(r.s.length:Int)) (hn:0≤n):AdvB 3 r (Ch r f n):=by
 obtain ⟨h1,h2,h3⟩:=Abi (f:=f) (n:=n) hl
 have ht:=Pc hn ha hl
 unfold Ch
 split
 ·exact(h1.failed _ _).mono (by decide)
 split
 ·exact(h1.failed _ _).mono (by decide)
 split
 ·exact(h1.failed _ _).mono (by decide)
 ·exact((h1.moved (fun _=>by omega) (by omega)).tell _).mono (by decide)
def Ac3 (sub:Mr→Fld→Int→Int→Mr):Prop:= ∀(v:Mr) (f:Fld) (n s:Int),v.at_≤(v.s.length:Int)→v.fail.kind=0→AdvB 2 v (sub v f n s)
theorem Z8 {sub:Mr→Fld→Int→Int→Mr} (hsub:Ac3 sub) {r:Mr} {f:Fld} {known:Bool} {e:Int} (hl:r.at_≤(r.s.length:Int)) (h0:r.fail.kind=0):Adv1 r (Br sub r f known e):=by
 obtain ⟨hv,hv2,hv3⟩:=E5 (e:=e) hl
 have hu:=M0 r e
 unfold Br
 split
 ·exact hv
 ·rename_i hok
  have hok:Bq r e=true:=by simpa using hok
  have hk:(Az r e).fail.kind=0:=by rw[Ea h0] at hok;simpa using hok
  have ha:=hv.1.at_ hk
  have hs:=congrArg List.length hv.1.s
  have h2:=hv2 hok
  have hl':(Az r e).at_≤((Az r e).s.length:Int):=by omega
  have hr:=(Adv.refl (Az r e) hl').b
  split
  ·exact hv.after hv3 hk (hr.failed _ _) (by decide)
  split
  ·split
   ·exact hv.after hv3 hk (hr.failed _ _) (by decide)
   ·exact hv.after hv3 hk (hr.moved (fun _=>by omega) (by omega)) (by decide)
  split
  ·exact hv.after hv3 hk (hsub _ _ _ _ hl' hk) (by decide)
  split
  ·exact hv.after hv3 hk (Ag7 hl').b (by decide)
  ·exact hv.after hv3 hk (Abj (by omega) hl' hu.1) (by decide)
theorem Vr {sub:Mr→Fld→Int→Int→Mr} (hsub:Ac3 sub) {shape e:Int} {r:Mr} (hl:r.at_≤(r.s.length:Int)) (h0:r.fail.kind=0):Adv1 r (Dv sub shape e r):=by
 obtain ⟨hv,hv2,hv3⟩:=E5 (e:=e) hl
 unfold Dv
 split
 ·exact hv
 ·rename_i hok
  have hok:Bq r e=true:=by simpa using hok
  have hk:(Az r e).fail.kind=0:=by rw[Ea h0] at hok;simpa using hok
  have ha:=hv.1.at_ hk
  have hs:=congrArg List.length hv.1.s
  have hl':(Az r e).at_≤((Az r e).s.length:Int):=by omega
  have hr:=(Adv.refl (Az r e) hl').b
  split
  ·exact hv.after hv3 hk (hr.failed _ _) (by decide)
  split
  ·exact hv.after hv3 hk (hr.failed _ _) (by decide)
  split
  ·exact hv.after hv3 hk (hr.failed _ _) (by decide)
  split
  ·exact hv.after hv3 hk (Z8 hsub hl' hk).1.b (by decide)
  ·exact hv.after hv3 hk (Kf hl' hk).1.b (by decide)
theorem Z9 {D:Nat} (hs:Ac3 (Jk D)) {shape e:Int} {r:Mr} (hl:r.at_≤(r.s.length:Int)):Adv r (Ht D shape e r):=by
 rw[Mz]
 exact Vq (fun r h=>Kg h) (fun r h h0=>Vr hs h h0) _ r hl
theorem Yu: ∀D,Ac3 (Jk D)
 |0=>fun v f n s hl h0=>((Adv.refl v hl).b.failed _ _).mono (by decide)
 |D+1=>fun v f n s hl h0=>by
  have ht:AdvB 1 v (Ag v (E4 f n)):=(Adv.refl v hl).b.tell _
  have hm:=(Z9 (Yu D) (shape:=f.msg) (e:=v.at_+n) (r:=Ag v (E4 f n)) hl).b
  have hb:=ht.trans h0 hm
  simp only[Jk]
  split
  ·exact(hb.tell _).mono (by decide)
  ·exact hb.mono (by decide)
theorem Yv {D:Nat} {shape e:Int} {r:Mr} (hl:r.at_≤(r.s.length:Int)):Adv r (Ht D shape e r):=Z9 (Yu D) hl
structure LInv (step:Mr→Mr) (e:Int) (r0 q:Mr):Prop where
 adv:Adv r0 q
 run:E8 (Lg e) step (Lw q) q=E8 (Lg e) step (Lw r0) r0
def S4 (step:Mr→Mr):Prop:= ∀r:Mr,r.at_≤(r.s.length:Int)→r.fail.kind=0→Adv1 r (step r)
theorem LInv.refl {step:Mr→Mr} {e:Int} {r:Mr} (h1:r.at_≤(r.s.length:Int)):LInv step e r r:=⟨Adv.refl r h1,rfl⟩
theorem LInv.at_ {step:Mr→Mr} {e:Int} {r q:Mr} (h:LInv step e r q) (hk:q.fail.kind=0):r.at_≤q.at_∧q.at_≤(q.s.length:Int):=by
 have:=h.adv.at_ hk
 rw[h.adv.s];exact this
theorem LInv.room {step:Mr→Mr} {e:Int} {r q:Mr} (h:LInv step e r q) (hk:q.fail.kind=0):q.s.length=r.s.length∧q.plan=r.plan∧r.at_≤q.at_∧q.at_≤(r.s.length:Int)∧(q.out.length:Int)+4*((r.s.length:Int)-q.at_)≤(r.out.length:Int)+4*((r.s.length:Int)-r.at_):=
 ⟨by rw[h.adv.s],h.adv.plan,(h.adv.at_ hk).1,(h.adv.at_ hk).2,h.adv.room hk⟩
theorem LInv.go {step:Mr→Mr} (hs:S4 step) {e:Int} {r q:Mr} (h:LInv step e r q) (hg:q.at_<e) (hk:q.fail.kind=0):LInv step e r (step q)∧Lw (step q)<Lw q:=by
 have hgo:Lg e q=true:=by simp[Lg,hg,hk]
 have ha:=h.at_ hk
 have hq:=hs q ha.2 hk
 refine⟨⟨h.adv.trans hk hq.1,?_⟩,R8 ha.2 hk hq⟩
 rw[←h.run]
 refine(Yt (fun r=>r.at_≤(r.s.length:Int)∨r.fail.kind≠0) Lw (fun a hi hg=>?_) (.inl ha.2) hgo).symm
 have hk':=Kg hg
 have hl:a.at_≤(a.s.length:Int):=hi.resolve_right (fun h=>h hk')
 refine⟨?_,R8 hl hk' (hs a hl hk')⟩
 by_cases hk2:(step a).fail.kind=0
 ·left;rw[(hs a hl hk').1.s];exact((hs a hl hk').1.at_ hk2).2
 ·exact .inr hk2
theorem LInv.stop {step:Mr→Mr} {e:Int} {r q:Mr} (h:LInv step e r q) (hg:Lg e q=false):E8 (Lg e) step (Lw r) r=q:=by rw[←h.run];exact C7 hg
theorem LInv.end_ {step:Mr→Mr} {e:Int} {r q:Mr} (h:LInv step e r q) (hg: ¬q.at_<e):E8 (Lg e) step (Lw r) r=q:=h.stop (by simp[Lg];omega)
theorem LInv.bad {step:Mr→Mr} {e:Int} {r q:Mr} (h:LInv step e r q) (hk:q.fail.kind≠0):E8 (Lg e) step (Lw r) r=q:=h.stop (by simp[Lg,hk])
theorem Lz (D:Nat) (shape e:Int):S4 (Dv (Jk D) shape e):=fun _ h h0=>Vr (Yu D) h h0
theorem K8 (f:Fld) (w e:Int):S4 (fun r=>Bm r f w e):=fun _ h h0=>Kf h h0
theorem LInv.leave {step:Mr→Mr} (hs:S4 step) {e:Int} {r q x:Mr} (h:LInv step e r q) (hg:q.at_<e) (hk:q.fail.kind=0) (hx:step q=x) (hx2:x.fail.kind≠0):E8 (Lg e) step (Lw r) r=x:=by
 subst hx;exact(h.go hs hg hk).1.bad hx2
theorem LInv.next {step:Mr→Mr} (hs:S4 step) {e:Int} {r q x:Mr} (h:LInv step e r q) (hg:q.at_<e) (hk:q.fail.kind=0) (hx:step q=x):LInv step e r x∧Lw x<Lw q:=by
 subst hx;exact h.go hs hg hk
theorem Qy {l:List Shp} {s n:Int} (hl:C3 l=true):((fieldAt l s n).isSome=true→1≤((fieldAt l s n).getD fld0).number∧1≤((fieldAt l s n).getD fld0).kind∧((fieldAt l s n).getD fld0).kind≤8)∧((fieldAt l s n).isSome=false→((fieldAt l s n).getD fld0).number=0):=by
 cases h:fieldAt l s n with
 |none=>simp[fld0]
 |some f=>
  have:=Yf (Sp hl h).1
  simp;omega
theorem Xo {D:Nat} {s e:Int} {v:Mr} {b:Nat} (h:v.at_≤(v.s.length:Int)) (hb:(v.out.length:Int)+4*((v.s.length:Int)-v.at_)≤(b:Int)):(Ht D s e v).out.length≤b:=by
 have:=(Yv (D:=D) (shape:=s) (e:=e) h).most;omega
theorem Aec {k:Int} (h:1≤k∧k≤5):Ba k=0∨Ba k=1∨Ba k=5:=by
 have hk:Dy k=true:=by simp only[Dy,Ai,Bool.and_eq_true,decide_eq_true_eq];omega
 unfold Ba
 rw[if_pos hk]
 split
 ·exact .inr (.inr rfl)
 ·split
  ·exact .inr (.inl rfl)
  ·exact .inl (by rw[if_pos (by omega)])
theorem Ag9 (u:Int):0≤Ah u∧Ah u≤7:=by unfold Ah;split<;>omega
theorem Abk {l:List Shp} {s n:Int} (hl:C3 l=true):(fieldAt l s n).isSome=decide (((fieldAt l s n).getD fld0).number≠0):=by
 have:=Qy (s:=s) (n:=n) hl
 cases h:(fieldAt l s n).isSome with
 |true=>exact(decide_eq_true (by have:=(this.1 h).1;omega)).symm
 |false=>exact(decide_eq_false (by have:=this.2 h;omega)).symm
def Ej (j6:Nat) (x:Mr):List C:=[.seq .shp x.plan.shapes,.int .i64 x.plan.root,.int .i64 x.plan.deep,.int .i64 x.plan.most,.str x.s,.int .i64 x.at_,.own j6,.int .i64 x.fail.kind,.int .i64 x.fail.field,.int .u64 x.fail.bits,.int .i64 x.fail.len,.str x.fail.text,.int .i64 x.fail.code,.int .i64 x.fail.at_]
theorem S5 (r:Mr) (end_:Int) (hp1:List.length (r).s≤Bn):Fun Tryz.prog 204 [vP 0,vI end_] [.cells (Ej 1 r),.lst .ev r.out] (.v (.c (.int .u64 (A5 r end_)))) [.cells (Ej 1 (Az r end_)),.lst .ev (Az r end_).out]:=by
 have hN:Bn=274877906944:=rfl
 refine Av Tryz.func204 Q4 Q4 (w:=let zi:Int→C:= .int .i64;let z1:=Ae r.s r.at_ end_;let z2:=Bh z1.2.2 z1.2.1;let z3:List Blk:=[.cells (Ej 1 (Az r end_)),.lst .ev (Az r end_).out];let z4:S:= .tup [.c (.int .u64 z1.1),vI z1.2.1,vI z1.2.2];let z5:S:= .v (.c (.int .u64 (A5 r end_)));(.seg [.ord (os 17 [9]) [],.call [] z4 []] (.br (.seg [.call [] (.v (.agg (cEv z2))) []] (.leaf () [0,1])) (.leaf () [0,1])),(Fp 93 [vT r.s,vI r.at_,vI end_] [] z4 [])∧Bc (!decide (z1.2.2=0)) ((Fp 94 [vI z1.2.2,vI z1.2.1] [] (.v (.agg (cEv z2))) [])∧Lf (.v (.c (.int .u64 0))) z5 [.cells [.seq .shp r.plan.shapes,zi r.plan.root,zi r.plan.deep,zi r.plan.most,.str r.s,zi r.at_,.own 1,zi z2.kind,zi z2.field,.int .u64 z2.bits,zi z2.len,.str z2.text,zi z2.code,zi z2.at_],.lst .ev r.out] z3) (Lf (.v (.c (.int .u64 z1.1))) z5 [.cells [.seq .shp r.plan.shapes,zi r.plan.root,zi r.plan.deep,zi r.plan.most,.str r.s,zi z1.2.1,.own 1,zi r.fail.kind,zi r.fail.field,.int .u64 r.fail.bits,zi r.fail.len,.str r.fail.text,zi r.fail.code,zi r.fail.at_],.lst .ev r.out] z3))) Q4 ?_
 refine⟨(Vk _ _ _ Q2),fun h1=>have q1:=Aq h1;have p1:=of_decide_eq_false q1;?_,fun h1=>have q1:=Ao h1;have p1:=of_decide_eq_true q1;?_⟩
 refine zE (Az r end_) (⟨r.plan,r.s,r.at_,r.out,(Bh (Ae r.s r.at_ end_).2.2 (Ae r.s r.at_ end_).2.1)⟩:Mr) (fun hm1=>⟨(C5 _ _),(congrArg S.v (congrArg V.c (congrArg (C.int .u64) ?_))),Q7⟩) ?_
 rotate_left 2
 refine zE (Az r end_) (⟨r.plan,r.s,(Ae r.s r.at_ end_).2.1,r.out,r.fail⟩:Mr) (fun hm1=>⟨(congrArg S.v (congrArg V.c (congrArg (C.int .u64) ?_))),Q7⟩) ?_
 rotate_left 2
 all_goals first|(simp_all[Az,Bq,A5,Cw,F0];done)|(grind[Az,Bq,A5,Cw,F0])
theorem Anb (r:Mr) (w:Int) (end_:Int) (hp1:List.length (r).s≤Bn) (hp2:(0:Int)≤(r).at_∧(r).at_≤((List.length (r).s:Nat):Int)) (hp3:(0:Int)≤w∧w≤8) (hp4: -1000000000≤end_∧end_≤9223372036854775807):Fun Tryz.prog 226 [vP 0,vI w,vI end_] [.cells (Ej 1 r),.lst .ev r.out] (.v (.c (.int .u64 (K7 r w end_)))) [.cells (Ej 1 (Ha r w end_)),.lst .ev (Ha r w end_).out]:=by
 have hN:Bn=274877906944:=rfl
 refine Av Tryz.func226 Q4 Q4 (w:=let zi:Int→C:= .int .i64;let z1:=Bh 10 (r.s.length:Int);let z2:List Blk:=[.cells (Ej 1 (Ha r w end_)),.lst .ev (Ha r w end_).out];let z3:=Bh 9 r.at_;let z4:S:= .v (.c (.int .u64 (K7 r w end_)));let z5:S:= .tup [.c (.int .u64 (Ln r.s r.at_ w)),vB (Dx r.s r.at_ w)];(.seg [.as 14 (.v (vI (end_-r.at_)))] (.br (.seg [.call [] (.v (.agg (cEv z3))) []] (.leaf () [0,1])) (.seg [.ord (os 15 [9]) [],.call [] z5 []] (.br (.seg [.call [] (.v (.agg (cEv z1))) []] (.leaf () [0,1])) (.seg [.as 55 (.v (vI (r.at_+w)))] (.leaf () [0,1]))))),(wI (end_-r.at_))∧Bc (decide (end_-r.at_<w)) ((Fp 94 [vI 9,vI r.at_] [] (.v (.agg (cEv z3))) [])∧Lf (.v (.c (.int .u64 0))) z4 [.cells [.seq .shp r.plan.shapes,zi r.plan.root,zi r.plan.deep,zi r.plan.most,.str r.s,zi r.at_,.own 1,zi z3.kind,zi z3.field,.int .u64 z3.bits,zi z3.len,.str z3.text,zi z3.code,zi z3.at_],.lst .ev r.out] z2) ((Fp 231 [vT r.s,vI r.at_,vI w] [] z5 [])∧Bc (!(Dx r.s r.at_ w)) ((Fp 94 [vI 10,vI (r.s.length:Int)] [] (.v (.agg (cEv z1))) [])∧Lf (.v (.c (.int .u64 0))) z4 [.cells [.seq .shp r.plan.shapes,zi r.plan.root,zi r.plan.deep,zi r.plan.most,.str r.s,zi r.at_,.own 1,zi z1.kind,zi z1.field,.int .u64 z1.bits,zi z1.len,.str z1.text,zi z1.code,zi z1.at_],.lst .ev r.out] z2) ((wI (r.at_+w))∧Lf (.v (.c (.int .u64 (Ln r.s r.at_ w)))) z4 [.cells [.seq .shp r.plan.shapes,zi r.plan.root,zi r.plan.deep,zi r.plan.most,.str r.s,zi (r.at_+w),.own 1,zi r.fail.kind,zi r.fail.field,.int .u64 r.fail.bits,zi r.fail.len,.str r.fail.text,zi r.fail.code,zi r.fail.at_],.lst .ev r.out] z2)))) Q4 ?_
 refine⟨(Af Q2 Q2),dsp (fun h1 p1=>?_) fun h1 p1=>?_⟩
 refine zE (Ha r w end_) (⟨r.plan,r.s,r.at_,r.out,(Bh 9 r.at_)⟩:Mr) (fun hm1=>⟨(C5 _ _),(congrArg S.v (congrArg V.c (congrArg (C.int .u64) ?_))),Q7⟩) ?_
 rotate_left 2
 refine⟨(Ai3 _ _ _ Q2),fun h2=>have q2:=Aq h2;?_,fun h2=>have q2:=Ao h2;?_⟩
 refine zE (Ha r w end_) (⟨r.plan,r.s,r.at_,r.out,(Bh 10 (r.s.length:Int))⟩:Mr) (fun hm1=>⟨(C5 _ _),(congrArg S.v (congrArg V.c (congrArg (C.int .u64) ?_))),Q7⟩) ?_
 rotate_left 2
 have hfx:=Ly q2
 refine zE (Ha r w end_) (⟨r.plan,r.s,r.at_+w,r.out,r.fail⟩:Mr) (fun hm1=>⟨(Af Q2 Q2),(congrArg S.v (congrArg V.c (congrArg (C.int .u64) ?_))),Q7⟩) ?_
 rotate_left 2
 all_goals first|(simp_all[Ha,Hs,K7,Cw,F0];done)|(grind[Ha,Hs,K7,Cw,F0])
theorem Nq (r:Mr) (e:Ev) (hp1:List.length (r).out≤100000000):Fun Tryz.prog 224 [vP 0,.agg (cEv e)] [.cells (Ej 1 r),.lst .ev r.out] (.tup []) [.cells (Ej 2 (Ag r e)),.dead,.lst .ev (Ag r e).out]:=by
 have hN:Bn=274877906944:=rfl
 refine Av Tryz.func224 Q4 Q4 (w:=(.seg [.ord (os 11 [6,7,10]) [1],.ty .ev,.ty .ev] (.leaf () [0,1,4]),(r.out.length+List.length [e]≤Bn)∧Lf (.tup []) (.tup []) [.cells (Ej 2 r),.dead,.lst .ev (r.out++[e])] [.cells (Ej 2 (Ag r e)),.dead,.lst .ev (Ag r e).out])) Q4 ?_
 refine⟨Q5,?_⟩
 have hm1:Ag r e=(⟨r.plan,r.s,r.at_,r.out++[e],r.fail⟩:Mr):=by rfl
 exact⟨rfl,Q7⟩
theorem Anc (r:Mr) (f:Fld) (w:Int) (end_:Int) (hp1:List.length (r).s≤1048576) (hp2:(r).at_≤((List.length (r).s:Nat):Int)) (hp3:(r).fail.kind=0) (hp4:((List.length (r).out:Nat):Int)+4*(((List.length (r).s:Nat):Int)-(r).at_)≤100000000) (hp5: -1000000000≤end_∧end_≤9223372036854775807) (hp6:(0:Int)≤(r).at_) (hp7:(w=0∨w=1∨w=5)):Fun Tryz.prog 206 [vP 0,.agg (Fv f),vI w,vI end_] [.cells (Ej 1 r),.lst .ev r.out] (.tup []) [.cells (Ej 2 (Bm r f w end_)),.dead,.lst .ev (Bm r f w end_).out]:=by
 have hN:Bn=274877906944:=rfl
 have hwb:=Dh w
 have hu1:=M0 r end_
 have hu2:=Ajp r (Ak w) end_
 have hl1:=congrArg List.length (E5 (e:=end_) hp2).2.2
 have hl2:=congrArg List.length (Z6 (w:=Ak w) (e:=end_) hp2).2
 refine Av Tryz.func206 Q4 Q4 (w:=let z1:List Blk:=[.cells (Ej 2 (Bm r f w end_)),.dead,.lst .ev (Bm r f w end_).out];let z5:=Az r end_;let z9:=Lf (.tup []) (.tup []) [.cells (Ej 2 z5),.dead,.lst .ev z5.out] z1;let z11:List Blk:=[.cells (Ej 1 z5),.lst .ev z5.out];let z13:=A5 r end_;let z7:=Ez f z13;let z4:List Blk:=[.cells (Ej 2 (Ag z5 z7)),.dead,.lst .ev (Ag z5 z7).out];let z14:=Ak w;let z2:=Ha r z14 end_;let z8:=K7 r z14 end_;let z3:=Ez f z8;let z6:List Blk:=[.cells (Ej 2 (Ag z2 z3)),.dead,.lst .ev (Ag z2 z3).out];let z10:=Lf (.tup []) (.tup []) [.cells (Ej 2 z2),.dead,.lst .ev z2.out] z1;let z12:List Blk:=[.cells (Ej 1 z2),.lst .ev z2.out];(.br (.seg [.call [0,1] (.v (.c (.int .u64 z13))) z11] (.br (.br (.seg [.call [] (.v (.agg (cEv z7))) [],.call [0,1] (.tup []) z4] (.leaf () [0,1,3])) (.seg [.at 0,.cut 0 6] (.leaf () [0,1,3]))) (.seg [.at 0,.cut 0 6] (.leaf () [0,1,3])))) (.seg [.call [] (.v (vI z14)) [],.call [0,1] (.v (.c (.int .u64 z8))) z12] (.br (.br (.seg [.call [] (.v (.agg (cEv z3))) [],.call [0,1] (.tup []) z6] (.leaf () [0,1,3])) (.seg [.at 0,.cut 0 6] (.leaf () [0,1,3]))) (.seg [.at 0,.cut 0 6] (.leaf () [0,1,3])))),Bc (decide (w=0)) ((Fp 204 [vP 0,vI end_] [.cells (Ej 1 r),.lst .ev r.out] (.v (.c (.int .u64 z13))) z11)∧Bc (decide (z5.fail.kind=0)) (Bc (decide (0<f.number)) ((Fp 134 [.agg (Fv f),.c (.int .u64 z13)] [] (.v (.agg (cEv z7))) [])∧(Fp 224 [vP 0,.agg (cEv z7)] z11 (.tup []) z4)∧Lf (.tup []) (.tup []) z4 z1) z9) z9) ((Fp 127 [vI w] [] (.v (vI z14)) [])∧(Fp 226 [vP 0,vI z14,vI end_] [.cells (Ej 1 r),.lst .ev r.out] (.v (.c (.int .u64 z8))) z12)∧Bc (decide (z2.fail.kind=0)) (Bc (decide (0<f.number)) ((Fp 134 [.agg (Fv f),.c (.int .u64 z8)] [] (.v (.agg (cEv z3))) [])∧(Fp 224 [vP 0,.agg (cEv z3)] z12 (.tup []) z6)∧Lf (.tup []) (.tup []) z6 z1) z10) z10))) Q4 ?_
 refine dsp (fun h1 p1=>?_) fun h1 p1=>?_
 refine⟨(S5 r _ Q2),dsp (fun h2 p2=>?_) fun h2 p2=>?_⟩
 have hvo:=Eo (r:=r) (w:=w) (e:=end_) hp3
 have hwv:E3 r w end_=(Az r end_):=by unfold E3;grind[Ak]
 refine dsp (fun h3 p3=>?_) fun h3 p3=>?_
 refine zE (Bm r f w end_) (Ag (Az r end_) (Ez f (A5 r end_))) (fun hm1=>⟨(Xd f _ Q2),(Nq (Az r end_) (Ez f (A5 r end_)) Q2),rfl,Q7⟩) ?_
 rotate_left
 refine zE (Bm r f w end_) (Az r end_) (fun hm1=>⟨rfl,Q7⟩) ?_
 rotate_left
 have hvo:=Eo (r:=r) (w:=w) (e:=end_) hp3
 have hwv:E3 r w end_=(Az r end_):=by unfold E3;grind[Ak]
 refine zE (Bm r f w end_) (Az r end_) (fun hm1=>⟨rfl,Q7⟩) ?_
 rotate_left
 refine⟨(J8 _),(Anb r _ _ Q2 Q2 Q2 Q2),dsp (fun h2 p2=>?_) fun h2 p2=>?_⟩
 have hvo:=Eo (r:=r) (w:=w) (e:=end_) hp3
 have hwv:E3 r w end_=(Ha r (Ak w) end_):=by unfold E3;grind[Ak]
 refine dsp (fun h3 p3=>?_) fun h3 p3=>?_
 refine zE (Bm r f w end_) (Ag (Ha r (Ak w) end_) (Ez f (K7 r (Ak w) end_))) (fun hm1=>⟨(Xd f _ Q2),(Nq (Ha r (Ak w) end_) (Ez f (K7 r (Ak w) end_)) Q2),rfl,Q7⟩) ?_
 rotate_left
 refine zE (Bm r f w end_) (Ha r (Ak w) end_) (fun hm1=>⟨rfl,Q7⟩) ?_
 rotate_left
 have hvo:=Eo (r:=r) (w:=w) (e:=end_) hp3
 have hwv:E3 r w end_=(Ha r (Ak w) end_):=by unfold E3;grind[Ak]
 refine zE (Bm r f w end_) (Ha r (Ak w) end_) (fun hm1=>⟨rfl,Q7⟩) ?_
 rotate_left
 all_goals first|(simp_all[Bm,E3,E7,Gt,Ag];done)|(grind[Bm,E3,E7,Gt,Ag,Ak])
theorem Ak8 (r:Mr) (f:Fld) (n:Int) (hp1:List.length (r).s≤1048576) (hp2:(r).at_≤((List.length (r).s:Nat):Int)) (hp3:(r).fail.kind=0) (hp4:((List.length (r).out:Nat):Int)+4*(((List.length (r).s:Nat):Int)-(r).at_)≤99999996) (hp5:(0:Int)≤(r).at_) (hp6:(0:Int)≤n∧(r).at_+n≤9223372036854775807):Fun Tryz.prog 225 [vP 0,.agg (Fv f),vI n] [.cells (Ej 1 r),.lst .ev r.out] (.tup []) [.cells (Ej 2 (Ch r f n)),.dead,.lst .ev (Ch r f n).out]:=by
 have hN:Bn=274877906944:=rfl
 have htl:=Pc hp6.1 hp5 hp2
 have hub:=Ajr utf0 (Ay r n)
 have hu0:utf0.want=0∧utf0.low=0∧utf0.high=0:=⟨rfl,rfl,rfl⟩
 have huw:=Ju (Ace (u:=utf0) (s:=Ay r n) (by decide))
 have huz:(Sr utf0 (Ay r n)).want=0→(Sr utf0 (Ay r n)).low=0∧(Sr utf0 (Ay r n)).high=0:=fun h0=>by rw[Sq (Ace (u:=utf0) (s:=Ay r n) (by decide)) h0];exact⟨rfl,rfl⟩
 refine Av Tryz.func225 Q4 Q4 (w:=let zi:Int→C:= .int .i64;let z6:List C:=[zi 5,zi 0,.int .u64 0,zi 0,.str [],zi 0,zi 0];let z8:=Ag r (A4 f n);let z9:=Ag z8 (⟨4,0,0,0,Ay r n,0,0⟩:Ev);let z13:List Blk:=[.cells (Ej 2 (Ch r f n)),.dead,.lst .ev (Ch r f n).out];let z15:=(z8.s.length:Int);let z17:=z8.at_+n;let z4:List C:=[.seq .shp z8.plan.shapes,zi z8.plan.root,zi z8.plan.deep,zi z8.plan.most,.str z8.s,zi z17,.own 1,zi z8.fail.kind,zi z8.fail.field,.int .u64 z8.fail.bits,zi z8.fail.len,.str z8.fail.text,zi z8.fail.code,zi z8.fail.at_];let z19:=Ay r n;let z7:List C:=[zi 4,zi 0,.int .u64 0,zi 0,.str z19,zi 0,zi 0];let z21:=decide ((z19.length:Int)<n);let z22:=Bh 10 z15;let z3:List C:=[.seq .shp z8.plan.shapes,zi z8.plan.root,zi z8.plan.deep,zi z8.plan.most,.str z8.s,zi z8.at_,.own 2,zi z22.kind,zi z22.field,.int .u64 z22.bits,zi z22.len,.str z22.text,zi z22.code,zi z22.at_];let z23:List Blk:=[.cells (Ej 2 z9),.dead,.lst .ev z9.out];let z24:=utf0;let z14:=Fi z24 z19;let z25:=Bh 5 z17;let z26:=Ag (⟨z9.plan,z9.s,z9.at_+n,z9.out,z9.fail⟩:Mr) Kd;let z11:List Blk:=[.cells (Ej 2 z26),.dead,.lst .ev z26.out];let z27:=Ag (⟨z8.plan,z8.s,z8.at_+n,z8.out,z8.fail⟩:Mr) Kd;let z12:List Blk:=[.cells (Ej 2 z27),.dead,.lst .ev z27.out];let z29:=z9.at_+n;let z2:List C:=[.seq .shp z9.plan.shapes,zi z9.plan.root,zi z9.plan.deep,zi z9.plan.most,.str z9.s,zi z29,.own 1,zi z9.fail.kind,zi z9.fail.field,.int .u64 z9.fail.bits,zi z9.fail.len,.str z9.fail.text,zi z9.fail.code,zi z9.fail.at_];let z20:=Bh 5 z29;let z30:=(z9.s.length:Int);let z16:=Bh 10 z30;let z1:List C:=[.seq .shp z9.plan.shapes,zi z9.plan.root,zi z9.plan.deep,zi z9.plan.most,.str z9.s,zi z9.at_,.own 2,zi z16.kind,zi z16.field,.int .u64 z16.bits,zi z16.len,.str z16.text,zi z16.code,zi z16.at_];let z31:S:= .v (.agg (cEv z16));let z32:S:= .v (.agg (cEv z22));let z33:S:= .tup [.agg (Pa (Sr z24 z19)),vI z14];let z34:=(!decide (z9.fail.kind=0))=false;let z35:=(!decide (z8.fail.kind=0))=false;let z36:List Blk:=[.cells (Ej 2 z8),.dead,.lst .ev z8.out];let z37:=z8.at_+z14;let z18:=Bh 5 z37;let z5:List C:=[zi z18.kind,zi z18.field,.int .u64 z18.bits,zi z18.len,.str z18.text,zi z18.code,zi z18.at_];let z10:=Ag (⟨z8.plan,z8.s,z8.at_,z8.out,z18⟩:Mr) (⟨4,0,0,0,List.take (z14.toNat) z19,0,0⟩:Ev);let z28:List Blk:=[.cells (Ej 2 z10),.dead,.lst .ev z10.out];let z38:=decide (0<(Sr z24 z19).want);let z39:List V:=[vP 0,.agg z6];let z40:S:= .v (vI z17);(.seg [.call [0,1] (.tup []) z36,.ord (os 22 [19]) [],.as 34 z40,.call [] (.v (vI (min z15 z17))) [],.as 36 (.v (vT z19))] (.br (.seg [.call [] z33 []] (.br (.seg [.as 56 (.v (vI z37)),.call [] (.v (.agg (cEv z18))) []] (.br (.seg [.call [0,3] (.tup []) z28,.br true] (.leaf () [0,1,6])) (.seg [.br true] (.leaf () [0,1,3])))) (.br (.seg [.call [0,3] (.tup []) z23,.br false] (.br (.seg [.call [] z31 []] (.leaf () [0,1,6])) (.br (.seg [.as 112 (.v (vI z29)),.call [] (.v (.agg (cEv z20))) []] (.leaf () [0,1,6])) (.seg [.as 75 (.v (vI z29)),.call [0,6] (.tup []) z11] (.leaf () [0,1,7]))))) (.seg [.br false] (.br (.seg [.call [] z32 []] (.leaf () [0,1,3])) (.br (.seg [.as 112 z40,.call [] (.v (.agg (cEv z25))) []] (.leaf () [0,1,3])) (.seg [.as 75 z40,.call [0,3] (.tup []) z12] (.leaf () [0,1,6])))))))) (.br (.seg [.call [0,3] (.tup []) z23,.br false] (.br (.seg [.call [] z31 []] (.leaf () [0,1,5])) (.seg [.br false,.as 75 (.v (vI z29)),.call [0,5] (.tup []) z11] (.leaf () [0,1,6])))) (.seg [.br false] (.br (.seg [.call [] z32 []] (.leaf () [0,1,3])) (.seg [.br false,.as 75 z40,.call [0,3] (.tup []) z12] (.leaf () [0,1,5])))))),(Fp 224 [vP 0,.agg [zi 3,zi f.number,.int .u64 0,zi n,.str [],zi 0,zi 0]] [.cells (Ej 1 r),.lst .ev r.out] (.tup []) z36)∧(wI z17)∧(wI z17)∧(Fp 83 [vI z15,vI z17] [] (.v (vI (min z15 z17))) [])∧(min z15 z17≤z15)∧(z8.at_≤min z15 z17)∧((0:Int)≤z8.at_)∧((.v (vT (List.drop (z8.at_.toNat) (List.take (Int.toNat (min z15 z17)) z8.s))):S)= .v (vT z19))∧Bc (decide (f.kind=6)) ((Fp 212 [.agg [zi 0,zi 0,zi 0],vT z19] [] z33 [])∧Bc (decide (0≤Fi z24 z19)) ((wI z37)∧(Fp 94 [vI 5,vI z37] [] (.v (.agg (cEv z18))) [])∧(Fi z24 z19≤(z19.length:Int))∧((0:Int)≤Fi z24 z19)∧Bc (!decide (List.take (z14.toNat) z19=[])) ((Fp 224 [vP 0,.agg [zi 4,zi 0,.int .u64 0,zi 0,.str (List.take (z14.toNat) z19),zi 0,zi 0]] [.cells (.seq .shp z8.plan.shapes::zi z8.plan.root::zi z8.plan.deep::zi z8.plan.most:: .str z8.s::zi z8.at_:: .own 1::z5),.lst .ev z8.out] (.tup []) z28)∧((!decide (z10.fail.kind=0))=true)∧Lf (.tup []) (.tup []) z28 z13) (((!decide (z18.kind=0))=true)∧Lf (.tup []) (.tup []) [.cells (.seq .shp z8.plan.shapes::zi z8.plan.root::zi z8.plan.deep::zi z8.plan.most:: .str z8.s::zi z8.at_:: .own 2::z5),.dead,.lst .ev z8.out] z13)) (Bc (!decide (Ay r n=[])) ((Fp 224 [vP 0,.agg z7] [.cells (Ej 1 z8),.lst .ev z8.out] (.tup []) z23)∧z34∧Bc z21 ((Fp 94 [vI 10,vI z30] [] z31 [])∧Lf (.tup []) (.tup []) [.cells z1,.dead,.lst .ev z9.out] z13) (Bc z38 ((wI z29)∧(Fp 94 [vI 5,vI z29] [] (.v (.agg (cEv z20))) [])∧Lf (.tup []) (.tup []) [.cells [.seq .shp z9.plan.shapes,zi z9.plan.root,zi z9.plan.deep,zi z9.plan.most,.str z9.s,zi z9.at_,.own 2,zi z20.kind,zi z20.field,.int .u64 z20.bits,zi z20.len,.str z20.text,zi z20.code,zi z20.at_],.dead,.lst .ev z9.out] z13) ((wI z29)∧(Fp 224 z39 [.cells z2,.lst .ev z9.out] (.tup []) z11)∧Lf (.tup []) (.tup []) z11 z13))) (z35∧Bc z21 ((Fp 94 [vI 10,vI z15] [] z32 [])∧Lf (.tup []) (.tup []) [.cells z3,.dead,.lst .ev z8.out] z13) (Bc z38 ((wI z17)∧(Fp 94 [vI 5,vI z17] [] (.v (.agg (cEv z25))) [])∧Lf (.tup []) (.tup []) [.cells [.seq .shp z8.plan.shapes,zi z8.plan.root,zi z8.plan.deep,zi z8.plan.most,.str z8.s,zi z8.at_,.own 2,zi z25.kind,zi z25.field,.int .u64 z25.bits,zi z25.len,.str z25.text,zi z25.code,zi z25.at_],.dead,.lst .ev z8.out] z13) ((wI z17)∧(Fp 224 z39 [.cells z4,.lst .ev z8.out] (.tup []) z12)∧Lf (.tup []) (.tup []) z12 z13))))) (Bc (!decide (Ay r n=[])) ((Fp 224 [vP 0,.agg z7] [.cells (Ej 1 z8),.lst .ev z8.out] (.tup []) z23)∧z34∧Bc z21 ((Fp 94 [vI 10,vI z30] [] z31 [])∧Lf (.tup []) (.tup []) [.cells z1,.dead,.lst .ev z9.out] z13) (((decide (0<0))=false)∧(wI z29)∧(Fp 224 z39 [.cells z2,.lst .ev z9.out] (.tup []) z11)∧Lf (.tup []) (.tup []) z11 z13)) (z35∧Bc z21 ((Fp 94 [vI 10,vI z15] [] z32 [])∧Lf (.tup []) (.tup []) [.cells z3,.dead,.lst .ev z8.out] z13) (((decide (0<0))=false)∧(wI z17)∧(Fp 224 z39 [.cells z4,.lst .ev z8.out] (.tup []) z12)∧Lf (.tup []) (.tup []) z12 z13))))) Q4 ?_
 refine⟨(Nq r (A4 f n) Q2),(Af Q26 Q26),(Af Q26 Q26),(Apu _ _),Q24,Q24,Q26,(Aob (Ag8 (s:=r.s) (a:=r.at_) (n:=n) Q2 Q2 Q2 (by first|omega|(simp only[Ag];omega)))),dsp (fun h1 p1=>?_) fun h1 p1=>?_⟩
 refine⟨(Agm utf0 _ Q2),dsp (fun h2 p2=>?_) fun h2 p2=>?_⟩
 refine⟨(Af Q26 Q26),(C5 _ _),Q2,Q2,fun h3=>have q3:=Aq h3;have p3:=of_decide_eq_false q3;?_,fun h3=>have q3:=Ao h3;have p3:=of_decide_eq_true q3;?_⟩
 refine zE (Ch r f n) (Ag (⟨(Ag r (A4 f n)).plan,(Ag r (A4 f n)).s,(Ag r (A4 f n)).at_,(Ag r (A4 f n)).out,(Bh 5 ((Ag r (A4 f n)).at_+(Fi utf0 (Ay r n))))⟩:Mr) (⟨4,0,0,0,List.take (Int.toNat (Fi utf0 (Ay r n))) (Ay r n),0,0⟩:Ev)) (fun hm1=>⟨(Nq (⟨(Ag r (A4 f n)).plan,(Ag r (A4 f n)).s,(Ag r (A4 f n)).at_,(Ag r (A4 f n)).out,(Bh 5 ((Ag r (A4 f n)).at_+(Fi utf0 (Ay r n))))⟩:Mr) (⟨4,0,0,0,List.take (Int.toNat (Fi utf0 (Ay r n))) (Ay r n),0,0⟩:Ev) Q24),(Ac2 (decide_eq_false (by simp[Ag,Bh]))),rfl,Q7⟩) ?_
 rotate_left
 refine zE (Ch r f n) (⟨(Ag r (A4 f n)).plan,(Ag r (A4 f n)).s,(Ag r (A4 f n)).at_,(Ag r (A4 f n)).out,(Bh 5 ((Ag r (A4 f n)).at_+(Fi utf0 (Ay r n))))⟩:Mr) (fun hm1=>⟨(Ac2 (decide_eq_false (by simp[Ag,Bh]))),rfl,Q7⟩) ?_
 rotate_left
 refine⟨fun h3=>have q3:=Aq h3;have p3:=of_decide_eq_false q3;?_,fun h3=>have q3:=Ao h3;have p3:=of_decide_eq_true q3;?_⟩
 refine⟨(Nq (Ag r (A4 f n)) (⟨4,0,0,0,Ay r n,0,0⟩:Ev) Q24),(Uj (decide_eq_true hp3)),dsp (fun h4 p4=>?_) fun h4 p4=>?_⟩
 refine zE (Ch r f n) (⟨(Ag (Ag r (A4 f n)) (⟨4,0,0,0,Ay r n,0,0⟩:Ev)).plan,(Ag (Ag r (A4 f n)) (⟨4,0,0,0,Ay r n,0,0⟩:Ev)).s,(Ag (Ag r (A4 f n)) (⟨4,0,0,0,Ay r n,0,0⟩:Ev)).at_,(Ag (Ag r (A4 f n)) (⟨4,0,0,0,Ay r n,0,0⟩:Ev)).out,(Bh 10 ((List.length (Ag (Ag r (A4 f n)) (⟨4,0,0,0,Ay r n,0,0⟩:Ev)).s:Nat):Int))⟩:Mr) (fun hm1=>⟨(C5 _ _),rfl,Q7⟩) ?_
 rotate_left
 refine dsp (fun h5 p5=>?_) fun h5 p5=>?_
 refine zE (Ch r f n) (⟨(Ag (Ag r (A4 f n)) (⟨4,0,0,0,Ay r n,0,0⟩:Ev)).plan,(Ag (Ag r (A4 f n)) (⟨4,0,0,0,Ay r n,0,0⟩:Ev)).s,(Ag (Ag r (A4 f n)) (⟨4,0,0,0,Ay r n,0,0⟩:Ev)).at_,(Ag (Ag r (A4 f n)) (⟨4,0,0,0,Ay r n,0,0⟩:Ev)).out,(Bh 5 ((Ag (Ag r (A4 f n)) (⟨4,0,0,0,Ay r n,0,0⟩:Ev)).at_+n))⟩:Mr) (fun hm1=>⟨(Af Q26 Q26),(C5 _ _),rfl,Q7⟩) ?_
 rotate_left
 refine zE (Ch r f n) (Ag (⟨(Ag (Ag r (A4 f n)) (⟨4,0,0,0,Ay r n,0,0⟩:Ev)).plan,(Ag (Ag r (A4 f n)) (⟨4,0,0,0,Ay r n,0,0⟩:Ev)).s,(Ag (Ag r (A4 f n)) (⟨4,0,0,0,Ay r n,0,0⟩:Ev)).at_+n,(Ag (Ag r (A4 f n)) (⟨4,0,0,0,Ay r n,0,0⟩:Ev)).out,(Ag (Ag r (A4 f n)) (⟨4,0,0,0,Ay r n,0,0⟩:Ev)).fail⟩:Mr) Kd) (fun hm1=>⟨(Af Q26 Q26),(Nq (⟨(Ag (Ag r (A4 f n)) (⟨4,0,0,0,Ay r n,0,0⟩:Ev)).plan,(Ag (Ag r (A4 f n)) (⟨4,0,0,0,Ay r n,0,0⟩:Ev)).s,(Ag (Ag r (A4 f n)) (⟨4,0,0,0,Ay r n,0,0⟩:Ev)).at_+n,(Ag (Ag r (A4 f n)) (⟨4,0,0,0,Ay r n,0,0⟩:Ev)).out,(Ag (Ag r (A4 f n)) (⟨4,0,0,0,Ay r n,0,0⟩:Ev)).fail⟩:Mr) Kd Q24),rfl,Q7⟩) ?_
 rotate_left
 refine⟨(Uj (decide_eq_true hp3)),dsp (fun h4 p4=>?_) fun h4 p4=>?_⟩
 refine zE (Ch r f n) (⟨(Ag r (A4 f n)).plan,(Ag r (A4 f n)).s,(Ag r (A4 f n)).at_,(Ag r (A4 f n)).out,(Bh 10 ((List.length (Ag r (A4 f n)).s:Nat):Int))⟩:Mr) (fun hm1=>⟨(C5 _ _),rfl,Q7⟩) ?_
 rotate_left
 refine dsp (fun h5 p5=>?_) fun h5 p5=>?_
 refine zE (Ch r f n) (⟨(Ag r (A4 f n)).plan,(Ag r (A4 f n)).s,(Ag r (A4 f n)).at_,(Ag r (A4 f n)).out,(Bh 5 ((Ag r (A4 f n)).at_+n))⟩:Mr) (fun hm1=>⟨(Af Q26 Q26),(C5 _ _),rfl,Q7⟩) ?_
 rotate_left
 refine zE (Ch r f n) (Ag (⟨(Ag r (A4 f n)).plan,(Ag r (A4 f n)).s,(Ag r (A4 f n)).at_+n,(Ag r (A4 f n)).out,(Ag r (A4 f n)).fail⟩:Mr) Kd) (fun hm1=>⟨(Af Q26 Q26),(Nq (⟨(Ag r (A4 f n)).plan,(Ag r (A4 f n)).s,(Ag r (A4 f n)).at_+n,(Ag r (A4 f n)).out,(Ag r (A4 f n)).fail⟩:Mr) Kd Q24),rfl,Q7⟩) ?_
 rotate_left
 refine⟨fun h2=>have q2:=Aq h2;have p2:=of_decide_eq_false q2;?_,fun h2=>have q2:=Ao h2;have p2:=of_decide_eq_true q2;?_⟩
 refine⟨(Nq (Ag r (A4 f n)) (⟨4,0,0,0,Ay r n,0,0⟩:Ev) Q24),(Uj (decide_eq_true hp3)),dsp (fun h3 p3=>?_) fun h3 p3=>?_⟩
 refine zE (Ch r f n) (⟨(Ag (Ag r (A4 f n)) (⟨4,0,0,0,Ay r n,0,0⟩:Ev)).plan,(Ag (Ag r (A4 f n)) (⟨4,0,0,0,Ay r n,0,0⟩:Ev)).s,(Ag (Ag r (A4 f n)) (⟨4,0,0,0,Ay r n,0,0⟩:Ev)).at_,(Ag (Ag r (A4 f n)) (⟨4,0,0,0,Ay r n,0,0⟩:Ev)).out,(Bh 10 ((List.length (Ag (Ag r (A4 f n)) (⟨4,0,0,0,Ay r n,0,0⟩:Ev)).s:Nat):Int))⟩:Mr) (fun hm1=>⟨(C5 _ _),rfl,Q7⟩) ?_
 rotate_left
 refine zE (Ch r f n) (Ag (⟨(Ag (Ag r (A4 f n)) (⟨4,0,0,0,Ay r n,0,0⟩:Ev)).plan,(Ag (Ag r (A4 f n)) (⟨4,0,0,0,Ay r n,0,0⟩:Ev)).s,(Ag (Ag r (A4 f n)) (⟨4,0,0,0,Ay r n,0,0⟩:Ev)).at_+n,(Ag (Ag r (A4 f n)) (⟨4,0,0,0,Ay r n,0,0⟩:Ev)).out,(Ag (Ag r (A4 f n)) (⟨4,0,0,0,Ay r n,0,0⟩:Ev)).fail⟩:Mr) Kd) (fun hm1=>⟨Q18,(Af Q26 Q26),(Nq (⟨(Ag (Ag r (A4 f n)) (⟨4,0,0,0,Ay r n,0,0⟩:Ev)).plan,(Ag (Ag r (A4 f n)) (⟨4,0,0,0,Ay r n,0,0⟩:Ev)).s,(Ag (Ag r (A4 f n)) (⟨4,0,0,0,Ay r n,0,0⟩:Ev)).at_+n,(Ag (Ag r (A4 f n)) (⟨4,0,0,0,Ay r n,0,0⟩:Ev)).out,(Ag (Ag r (A4 f n)) (⟨4,0,0,0,Ay r n,0,0⟩:Ev)).fail⟩:Mr) Kd Q24),rfl,Q7⟩) ?_
 rotate_left
 refine⟨(Uj (decide_eq_true hp3)),dsp (fun h3 p3=>?_) fun h3 p3=>?_⟩
 refine zE (Ch r f n) (⟨(Ag r (A4 f n)).plan,(Ag r (A4 f n)).s,(Ag r (A4 f n)).at_,(Ag r (A4 f n)).out,(Bh 10 ((List.length (Ag r (A4 f n)).s:Nat):Int))⟩:Mr) (fun hm1=>⟨(C5 _ _),rfl,Q7⟩) ?_
 rotate_left
 refine zE (Ch r f n) (Ag (⟨(Ag r (A4 f n)).plan,(Ag r (A4 f n)).s,(Ag r (A4 f n)).at_+n,(Ag r (A4 f n)).out,(Ag r (A4 f n)).fail⟩:Mr) Kd) (fun hm1=>⟨Q18,(Af Q26 Q26),(Nq (⟨(Ag r (A4 f n)).plan,(Ag r (A4 f n)).s,(Ag r (A4 f n)).at_+n,(Ag r (A4 f n)).out,(Ag r (A4 f n)).fail⟩:Mr) Kd Q24),rfl,Q7⟩) ?_
 rotate_left
 all_goals first|(simp[hm1,Cw,Bh,hp3];done)|(simp_all[Ch,Dj,Ji,Lx,Z5,Ag,F0,Cw,A4,Du,Kd];done)|(grind (ematch:=20) (gen:=20) [Ch,Dj,Ji,Lx,Z5,Ag,F0,Cw,A4,Du,Kd])
end Go.Proofs.YtphecbmdhbphgaaGreat.Ax
