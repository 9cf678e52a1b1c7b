/- Whole inputs. Models: modes. Plans that are not valid. The machine: closing. The machine: settling; frames, tags, lengths. The machine: lengths, numbers, texts. The machine: bytes of numbers. -/
import Derived.Test.YtijacopaadmncaaGreatKFnStepWhole2
import Derived.Test.YtijacopaadmncaaGreatKFnStepWhole1
set_option linter.unusedSimpArgs false
set_option linter.unusedVariables false
namespace Go.Proofs.YtijacopaadmncaaGreat.Ax
open Go.RowKit
theorem Ang {d:Dcd} {o:List Ev} {b:Int} (hok:Cd d=true) (h9:d.mode≠9) (hat:d.at_<1000000000) (hb:0≤b∧b≤255):Cd (Dd ⟨d,o⟩ b).d=true:=by
 obtain ⟨lv,hm,hat0,hst,hut,hwi,hfl,hen,hsk,hwd,hkd,hsc⟩:=Qt hok
 have hbits:=Sv hok
 have hs:=Aco hok h9
 have hms:=(Acn hok hbits).step hs.1 hs.2.1 hs.2.2.1
 have hw:=Abd hwd
 have hc:Com (Da d):=⟨hms.lv,(show 0≤d.at_+1∧d.at_+1≤1000000000 by omega),(show 0≤d.start∧d.start≤d.at_+1 by omega),hut,hwi,hfl,hs.2.2.2.2⟩
 have hk:Jd (Da d)=true:=hkd
 have htp:d.mode≠1→1≤Eb d:=fun h1=>by unfold Kt at hsk;rw[if_neg h1,if_neg h9] at hsk;exact of_decide_eq_true hsk
 have hn:d.mode≠1→0<d.stack.length:=fun h1=>by
  have:=htp h1
  by_cases h0:d.stack.length=0
  ·rw[Ack (List.eq_nil_of_length_eq_zero h0)] at this;omega
  ·omega
 have hns:d.mode≠1→0<(Da d).stack.length:=fun h1=>by rw[J3];exact hn h1
 have ht:d.mode≠1→Eb (Da d)=Eb d-1:=fun h1=>Agy (by have:=hn h1;omega)
 have hwa:(Da d).want=if d.mode=6∨d.mode=7∨d.mode=8 then d.want-1 else d.want:=rfl
 have hwb:=Df (Ba d.field.kind)
 unfold Dd
 simp only
 split
 ·rename_i h6
  have hw1:=hw.1 (by omega)
  rw[if_pos (by omega)] at hwa
  have ht:=ht (by omega)
  refine Anf hc (show 1≤d.at_+1 by omega) h6 ?_ Q2 (hns Q2) ?_
  ·unfold Jd at hkd;rw[if_pos h6] at hkd;exact hkd
  ·unfold J2 Bx at hsc
   rw[if_neg (show¬d.mode=5 by omega),if_neg (show¬d.mode=8 by omega),if_neg (by decide),if_pos (by omega)] at hsc
   exact of_decide_eq_true hsc
 ·split
  ·rename_i h6 h7
   have hw1:=hw.1 (by omega)
   rw[if_pos (by omega)] at hwa
   have ht:=ht (by omega)
   refine F8 ⟨hc,?_,hns Q2,.inr (.inr (.inl ⟨h7,by show 0≤(Da d).want;omega,by show (Da d).want≤Eb (Da d);omega⟩))⟩
   unfold J2 Bx at hsc
   rw[if_neg (show¬d.mode=5 by omega),if_neg (show¬d.mode=8 by omega),if_neg (by decide),if_pos (by omega)] at hsc
   exact of_decide_eq_true hsc
  ·rename_i h6 h7
   split
   ·rename_i h0
    unfold J2 at hsc
    rw[if_pos h0] at hsc
    simp only[Bool.and_eq_true,decide_eq_true_eq] at hsc
    have hh:=Aw hsc.1.1
    have hwe:Bx (Da d)=Bx d:=rfl
    have hmm:d.mode=5∨d.mode=8:=by unfold Bx at h0;split at h0<;>(try split at h0)<;>omega
    have ht:=ht (by omega)
    have hr1:St d=if d.mode=8 then d.want else Eb d:=rfl
    have hr2:St (Da d)=if d.mode=8 then (Da d).want else Eb (Da d):=rfl
    refine Ao5 hc (hns Q2) hk hb (by rw[hwe];exact hh) hsc.1.2 ?_ ?_
    ·rw[hwe]
     show Bx d-d.scan.have_-1≤St (Da d)
     rcases hmm with h5|h8
     ·rw[if_neg (by omega)] at hr1 hr2;omega
     ·rw[if_pos h8] at hr1 hr2;rw[if_pos (by omega)] at hwa;omega
    ·rcases hmm with h5|h8
     ·rw[if_neg (by omega)] at hwa
      exact .inl ⟨h5,by rw[hwa];exact hw.2 Q2⟩
     ·rw[if_pos (by omega)] at hwa
      have hw1:=hw.1 (by omega)
      exact .inr ⟨h8,by omega,by omega⟩
   ·rename_i h0
    have h5:d.mode≠5:=fun h5=>by
     unfold Jd at hkd
     rw[if_neg (by omega),if_neg (by omega),if_neg (by omega),if_neg (by omega),if_pos h5] at hkd
     simp only[Bool.and_eq_true,decide_eq_true_eq] at hkd
     unfold Bx at h0
     rw[if_pos h5] at h0
     omega
    refine Ao4 hc hbits (show 0≤d.at_∧d.at_≤d.at_+1 by omega) (fun h1=>?_) hns hk ?_
    ·unfold Kt at hsk
     rw[if_pos (show d.mode=1 from h1)] at hsk
     have e:d.stack=[]:=of_decide_eq_true hsk
     exact List.eq_nil_of_length_eq_zero (by rw[J3,e];rfl)
    ·by_cases h8:d.mode=8
     ·rw[if_pos (by omega)] at hwa
      have hw1:=hw.1 (by omega)
      have ht:=ht (by omega)
      refine .inr ⟨h8,?_,by omega,by omega⟩
      unfold Bx at h0
      rw[if_neg (by omega),if_pos h8] at h0
      show Ak (Ba d.field.kind)=0
      omega
     ·rw[if_neg (by omega)] at hwa
      exact .inl ⟨(show d.mode=1∨d.mode=2∨d.mode=3∨d.mode=4 by omega),by rw[hwa];exact hw.2 Q2⟩
def J6 (o:List Ev) (m:Mac):Mac:=⟨m.d,o++m.out⟩
theorem Fj (o:List Ev) (m:Mac) (c a:Int):A3 (J6 o m) c a=J6 o (A3 m c a):=by simp[A3,J6,List.append_assoc]
theorem Xi (o:List Ev) (m:Mac):A2 (J6 o m)=(A2 m).map (J6 o):=by
 have hd:(J6 o m).d=m.d:=rfl
 unfold A2
 rw[hd]
 split
 ·split<;>simp[A3,J6,List.append_assoc]
 ·split
  ·simp[J6]
  ·split
   ·split<;>simp[J6,List.append_assoc]
   ·rfl
theorem K3 (o:List Ev): ∀(m:Mac),Ao (J6 o m)=J6 o (Ao m):=by
 suffices ∀(k:Nat) (m:Mac),wM m≤k→Ao (J6 o m)=J6 o (Ao m) from fun m=>this _ m (Nat.le_refl _)
 intro k
 induction k with
 |zero=>
  intro m hk
  have hp:=Xi o m
  cases h:A2 m with
  |none=>rw[B6 h];rw[h] at hp;exact B6 hp
  |some q=>have:=(D2 h).1;omega
 |succ k ih=>
  intro m hk
  have hp:=Xi o m
  cases h:A2 m with
  |none=>rw[B6 h];rw[h] at hp;exact B6 hp
  |some q=>
   rw[h] at hp
   rw[Cu h,Cu hp]
   exact ih q (by have:=(D2 h).1;omega)
theorem Ep {o:List Ev} {d:Dcd} {p r:List Ev} (h:r=o++p):Ao ⟨d,r⟩=J6 o (Ao ⟨d,p⟩):=by subst h;exact K3 o ⟨d,p⟩
theorem Ad4 (o:List Ev) (m:Mac) (u:Int):Ed (J6 o m) u=J6 o (Ed m u):=by
 have hd:(J6 o m).d=m.d:=rfl
 unfold Ed
 rw[hd]
 split
 ·exact Fj _ _ _ _
 ·exact Ep (List.append_assoc _ _ _)
theorem Ajj (o:List Ev) (m:Mac) (u:Int):Li (J6 o m) u=J6 o (Li m u):=by
 have hd:(J6 o m).d=m.d:=rfl
 unfold Li
 rw[hd]
 split
 ·exact Fj _ _ _ _
 ·split
  ·exact Fj _ _ _ _
  ·split
   ·exact Fj _ _ _ _
   ·split
    ·simp[A3,J6,List.append_assoc]
    ·rfl
theorem Agz (o:List Ev) (m:Mac) (u:Int):Ey (J6 o m) u=J6 o (Ey m u):=by
 have hd:(J6 o m).d=m.d:=rfl
 unfold Ey
 rw[hd]
 split
 ·exact Fj _ _ _ _
 ·split
  ·exact Ep rfl
  ·split
   ·split
    ·exact Fj _ _ _ _
    ·exact Ep (List.append_assoc _ _ _)
   ·split
    ·exact Ep (List.append_assoc _ _ _)
    ·split
     ·exact Fj _ _ _ _
     ·exact Ep rfl
theorem Sw (o:List Ev) (m:Mac) (u:Int):Ce (J6 o m) u=J6 o (Ce m u):=by
 unfold Ce J6
 simp only
 by_cases h:m.d.field=fld0<;>simp[h,List.append_assoc]
theorem Ajk (o:List Ev) (m:Mac) (b a:Int):Dq (J6 o m) b a=J6 o (Dq m b a):=by
 have hd:(J6 o m).d=m.d:=rfl
 have hq: ∀d:Dcd,(⟨d,(J6 o m).out⟩:Mac)=J6 o ⟨d,m.out⟩:=fun _=>rfl
 unfold Dq
 simp only[hd,hq]
 split
 ·exact Fj _ _ _ _
 ·split
  ·unfold Zw
   rw[hd]
   split
   ·exact Fj _ _ _ _
   ·rfl
  ·split
   ·exact Ad4 _ _ _
   ·split
    ·exact Ajj _ _ _
    ·split
     ·exact Agz _ _ _
     ·rw[Sw,K3]
theorem Ajm (o:List Ev) (m:Mac) (b:Int):Hb (J6 o m) b=J6 o (Hb m b):=by
 have hd:(J6 o m).d=m.d:=rfl
 have hq: ∀d:Dcd,(⟨d,(J6 o m).out⟩:Mac)=J6 o ⟨d,m.out⟩:=fun _=>rfl
 unfold Hb
 simp only[hd,hq]
 split
 ·rfl
 ·split
  ·rw[Sw,Fj]
  ·rw[Sw,K3]
theorem Ag0 (o:List Ev) (m:Mac) (b:Int):Ej (J6 o m) b=J6 o (Ej m b):=by
 have hd:(J6 o m).d=m.d:=rfl
 unfold Ej
 rw[hd]
 split
 ·split
  ·exact Fj _ _ _ _
  ·exact Ep (List.append_assoc _ _ _)
 ·exact Ep (List.append_assoc _ _ _)
theorem Ag1 (o:List Ev) (m:Mac) (b:Int):Dd (J6 o m) b=J6 o (Dd m b):=by
 have hd:(J6 o m).d=m.d:=rfl
 have hq: ∀d:Dcd,(⟨d,(J6 o m).out⟩:Mac)=J6 o ⟨d,m.out⟩:=fun _=>rfl
 unfold Dd
 simp only[hd,hq]
 split
 ·exact Ag0 _ _ _
 ·split
  ·exact K3 _ _
  ·split
   ·exact Ajm _ _ _
   ·exact Ajk _ _ _ _
def R3 (m:Mac) (b:Int):Mac:=⟨(Le m.d b).d,m.out++(Le m.d b).out⟩
def B7 (m:Mac) (s:List UInt8):Mac:=s.foldl (fun m b=>R3 m (b.toNat:Int)) m
theorem Ag2 (m:Mac):B7 m []=m:=rfl
theorem Ho (m:Mac) (b:UInt8) (r:List UInt8):B7 m (b::r)=B7 (R3 m (b.toNat:Int)) r:=List.foldl_cons ..
theorem Ad5 {d:Dcd} {b:Int} (hok:Cd d=true) (ht:Fb d=true) (hb:0≤b∧b≤255):Le d b=Dd ⟨d,[]⟩ b:=by
 unfold Le
 rw[if_pos ⟨hok,ht,by simp only[Ai,Bool.and_eq_true,decide_eq_true_eq];exact hb⟩]
theorem Xj {m:Mac} {b:Int} (hok:Cd m.d=true) (ht:Fb m.d=true) (hb:0≤b∧b≤255):R3 m b=Dd m b:=by
 have h:=Ag1 m.out ⟨m.d,[]⟩ b
 have e:J6 m.out ⟨m.d,[]⟩=m:=by cases m;simp[J6]
 rw[e] at h
 unfold R3
 rw[Ad5 hok ht hb,h];rfl
theorem Acy {d:Dcd} {b:Int} (h:Cd d=false∨Fb d=false):Le d b=⟨d,[]⟩:=by
 unfold Le
 rw[if_neg]
 rintro ⟨h1,h2,-⟩
 rcases h with h|h
 ·rw[h] at h1;cases h1
 ·rw[h] at h2;cases h2
theorem Acz {m:Mac} {b:Int} (h:Cd m.d=false∨Fb m.d=false):R3 m b=m:=by
 unfold R3
 rw[Acy h]
 cases m;simp
theorem Ac0 {d:Dcd} (h:Fb d=true):d.mode≠9∧d.at_<1000000000:=by
 simpa only[Fb,Bool.and_eq_true,Bool.not_eq_true',decide_eq_false_iff_not,decide_eq_true_eq] using h
theorem Uf {d:Dcd} {b:Int} (hok:Cd d=true):Cd (Le d b).d=true:=by
 unfold Le
 split
 ·rename_i h
  have ht:=Ac0 h.2.1
  exact Ang hok ht.1 ht.2 (Aw h.2.2)
 ·exact hok
theorem Z5 {m:Mac} (h:Cd m.d=false): ∀s:List UInt8,B7 m s=m
 |[]=>rfl
 |b::r=>by rw[Ho,Acz (.inl h)];exact Z5 h r
theorem R4 {m:Mac} (h:Fb m.d=false): ∀s:List UInt8,B7 m s=m
 |[]=>rfl
 |b::r=>by rw[Ho,Acz (.inr h)];exact R4 h r
theorem Ad6 {m:Mac} (h:Fb m.d=false) (s r:List UInt8):B7 m s=B7 m r:=by rw[R4 h,R4 h]
theorem Z6 {d:Dcd} {b:Int} :(Le d b).d.plan=d.plan∧((Le d b).d.stack.length:Int)≤max (d.stack.length:Int) 8∧(Le d b).out.length≤14∧((0≤d.scan.bits∧d.scan.bits≤18446744073709551615)→0≤(Le d b).d.scan.bits∧(Le d b).d.scan.bits≤18446744073709551615):=by
 cases hok:Cd d with
 |false=>rw[Acy (.inl hok)];exact⟨rfl,by simp only;omega,by simp,fun h=>h⟩
 |true=>
  have h1:=Uf (b:=b) hok
  have h2:=Co (Qt hok).1
  have h3:=Co (Qt h1).1
  exact⟨Adw.1,by omega,by have:=Agi (d:=d) (b:=b);omega,fun _=>Sv h1⟩
theorem Aqn (b:UInt8):(0:Int)≤(b.toNat:Int)∧(b.toNat:Int)≤255:=by have:=b.toNat_lt;omega
theorem Vn: ∀(s:List UInt8) (m:Mac),(B7 m s).d.plan=m.d.plan∧((B7 m s).d.stack.length:Int)≤max (m.d.stack.length:Int) 8∧(B7 m s).out.length≤m.out.length+14*s.length∧((0≤m.d.scan.bits∧m.d.scan.bits≤18446744073709551615)→0≤(B7 m s).d.scan.bits∧(B7 m s).d.scan.bits≤18446744073709551615)
 |[],m=>⟨rfl,by show (m.d.stack.length:Int)≤_;omega,Nat.le_refl _,fun h=>h⟩
 |b::r,m=>by
  have h1:=Z6 (d:=m.d) (b:=(b.toNat:Int))
  have h2:=Vn r (R3 m (b.toNat:Int))
  rw[Ho]
  have e1:(R3 m (b.toNat:Int)).d=(Le m.d (b.toNat:Int)).d:=rfl
  have e2:(R3 m (b.toNat:Int)).out.length=m.out.length+(Le m.d (b.toNat:Int)).out.length:=by simp[R3]
  rw[e1,e2] at h2
  refine⟨h2.1.trans h1.1,by omega,by simp only[List.length_cons];omega,fun h=>h2.2.2.2 (h1.2.2.2 h)⟩
structure Bxi where
 v:List Int
theorem R5 {p:Pln} :(Bm p).plan.shapes.length≤6∧(∀e∈(Bm p).plan.shapes,e.fields.length≤1048576)∧(Bm p).stack.length≤8∧(0≤(Bm p).scan.bits∧(Bm p).scan.bits≤18446744073709551615):=by
 unfold Bm
 split
 ·rename_i h
  have ht:=B8 h
  exact⟨ht.1,Hm ht.2.1,by simp,by simp⟩
 ·exact⟨by simp,fun e he=>(by cases he),by simp,by simp⟩
structure Bxn where
 v:Int
theorem Yq (p:Pln) (s:List UInt8) (o:Bxn) (hp1:List.length (p).shapes≤Bk) (hp2:Br p=false):Fun Tryz.prog 90 [.agg (Fh p),vT s,.c (.fn 91 [0])] [.cells [.int .i64 o.v]] (.tup []) [.cells [.int .i64 o.v]]:=by
 have hN:Bk=274877906944:=rfl
 refine Ar Tryz.func90 Q4 Q4 (w:=let z1:S:= .tup [.agg (C0 0 1 (Bm p)),vB (Br p)];(.seg [.call [] z1 (L2 (Bm p)),.br true] (.leaf () [0]),(Fp 145 [.agg (Fh p)] [] z1 (L2 (Bm p)))∧((!(Br p))=true)∧Lf (.tup []) (.tup []) [.cells [.int .i64 o.v]] [.cells [.int .i64 o.v]])) Q4 ?_
 exact⟨(Yo p Q2),((by rw[hp2];rfl)),rfl,rfl⟩
theorem Anh (p:Pln) (s:List UInt8) (hp1:List.length (p).shapes≤Bk) (hp2:Br p=false):Fun Tryz.prog 43 [.agg (Fh p),vT s] [] (.v (vI 0)) []:=by
 have hN:Bk=274877906944:=rfl
 refine Ar Tryz.func43 Q4 Q4 (w:=let z1:List Blk:=[.cells [.int .i64 0]];(.seg [.call [1] (.tup []) z1] (.leaf () []),(Fp 90 [.agg (Fh p),vT s,.c (.fn 91 [0])] z1 (.tup []) z1)∧Lf (.v (vI 0)) (.v (vI 0)) [] [])) Q4 ?_
 exact⟨(Yq p _ (⟨0⟩:Bxn) Q2 Q2),rfl,rfl⟩
theorem Z7 (p:Pln) (s:List UInt8) (o:Bxn) (hp1:List.length (p).shapes≤Bk) (hp2:Br p=false):Fun Tryz.prog 90 [.agg (Fh p),vT s,.c (.fn 92 [0])] [.cells [.int .i64 o.v]] (.tup []) [.cells [.int .i64 o.v]]:=by
 have hN:Bk=274877906944:=rfl
 refine Ar Tryz.func90 Q4 Q4 (w:=let z1:S:= .tup [.agg (C0 0 1 (Bm p)),vB (Br p)];(.seg [.call [] z1 (L2 (Bm p)),.br true] (.leaf () [0]),(Fp 145 [.agg (Fh p)] [] z1 (L2 (Bm p)))∧((!(Br p))=true)∧Lf (.tup []) (.tup []) [.cells [.int .i64 o.v]] [.cells [.int .i64 o.v]])) Q4 ?_
 exact⟨(Yo p Q2),((by rw[hp2];rfl)),rfl,rfl⟩
theorem Ao6 (p:Pln) (s:List UInt8) (hp1:List.length (p).shapes≤Bk) (hp2:Br p=false):Fun Tryz.prog 44 [.agg (Fh p),vT s] [] (.v (vI 0)) []:=by
 have hN:Bk=274877906944:=rfl
 refine Ar Tryz.func44 Q4 Q4 (w:=let z1:List Blk:=[.cells [.int .i64 0]];(.seg [.call [1] (.tup []) z1] (.leaf () []),(Fp 90 [.agg (Fh p),vT s,.c (.fn 92 [0])] z1 (.tup []) z1)∧Lf (.v (vI 0)) (.v (vI 0)) [] [])) Q4 ?_
 exact⟨(Z7 p _ (⟨0⟩:Bxn) Q2 Q2),rfl,rfl⟩
theorem Yr (p:Pln) (s:List UInt8) (o:Bxi) (hp1:List.length (p).shapes≤Bk) (hp2:Br p=false):Fun Tryz.prog 90 [.agg (Fh p),vT s,.c (.fn 94 [0])] [.cells [.own 1],.lst .int o.v] (.tup []) [.cells [.own 1],.lst .int o.v]:=by
 have hN:Bk=274877906944:=rfl
 refine Ar Tryz.func90 Q4 Q4 (w:=let z1:S:= .tup [.agg (C0 0 1 (Bm p)),vB (Br p)];(.seg [.call [] z1 (L2 (Bm p)),.br true] (.leaf () [0,1]),(Fp 145 [.agg (Fh p)] [] z1 (L2 (Bm p)))∧((!(Br p))=true)∧Lf (.tup []) (.tup []) [.cells [.own 1],.lst .int o.v] [.cells [.own 1],.lst .int o.v])) Q4 ?_
 exact⟨(Yo p Q2),((by rw[hp2];rfl)),rfl,rfl⟩
theorem Ani (p:Pln) (s:List UInt8) (hp1:List.length (p).shapes≤Bk) (hp2:Br p=false):Fun Tryz.prog 45 [.agg (Fh p),vT s] [] (.v (vO 0)) [.lst .int ([]:List Int)]:=by
 have hN:Bk=274877906944:=rfl
 refine Ar Tryz.func45 Q4 Q4 (w:=let z1:List Blk:=[.cells [.own 1],.lst .int ([]:List Int)];(.seg [.ty .int,.call [2,1] (.tup []) z1] (.leaf () [1]),(Fp 90 [.agg (Fh p),vT s,.c (.fn 94 [0])] z1 (.tup []) z1)∧Lf (.v (vO 0)) (.v (vO 0)) [.lst .int ([]:List Int)] [.lst .int ([]:List Int)])) Q4 ?_
 exact⟨(Yr p _ (⟨([]:List Int)⟩:Bxi) Q2 Q2),rfl,rfl⟩
theorem Fk (m:Mac) (e:Ev) (hp1:List.length (m).out≤200000000):Fun Tryz.prog 100 [vP 0,.agg (cEv e)] [.cells (Ab 1 2 3 m),.tree m.d.plan.shapes,.lst .lev m.d.stack,.lst .ev m.out] (.tup []) [.cells (Ab 1 2 4 m),.tree (m).d.plan.shapes,.lst .lev (m).d.stack,.dead,.lst .ev ((m).out++[e])]:=by
 have hN:Bk=274877906944:=rfl
 refine Ar Tryz.func100 Q4 Q4 (w:=(.seg [.ord (os 11 [6,7,10]) [3],.ty .ev,.ty .ev] (.leaf () [0,1,2,3,6]),(List.length m.out+List.length [e]≤Bk)∧Lf (.tup []) (.tup []) [.cells (Ab 1 2 4 m),.tree m.d.plan.shapes,.lst .lev m.d.stack,.dead,.lst .ev (m.out++[e])] [.cells (Ab 1 2 4 m),.tree (m).d.plan.shapes,.lst .lev (m).d.stack,.dead,.lst .ev ((m).out++[e])])) Q4 ?_
 exact⟨Q5,rfl,(Ac rfl (Ac (congrArg Blk.tree (by rfl)) (Ac (congrArg (Blk.lst .lev) (by rfl)) (Ac rfl (Ac (congrArg (Blk.lst .ev) (by rfl)) rfl)))))⟩
theorem Ca (m:Mac) (c:Int) (a:Int) (hp1:List.length (m).out≤200000000):Fun Tryz.prog 101 [vP 0,vI c,vI a] [.cells (Ab 1 2 3 m),.tree m.d.plan.shapes,.lst .lev m.d.stack,.lst .ev m.out] (.tup []) [.cells (Ab 1 2 4 (A3 m c a)),.tree (A3 m c a).d.plan.shapes,.lst .lev (A3 m c a).d.stack,.dead,.lst .ev (A3 m c a).out]:=by
 have hN:Bk=274877906944:=rfl
 refine Ar Tryz.func101 Q4 Q4 (w:=let zi:Int→C:= .int .i64;let z3:=Bj c a;let z1:List C:=[.own 1,zi m.d.plan.root,zi m.d.plan.deep,zi m.d.plan.most,zi 9,.own 2,.int .u64 0,zi 0,zi m.d.start,zi m.d.at_,zi m.d.field.number,zi m.d.field.kind,.bool m.d.field.rep,.bool m.d.field.packed,zi m.d.field.msg,zi m.d.wire,zi 0,zi m.d.utf.want,zi m.d.utf.low,zi m.d.utf.high,zi z3.kind,zi z3.field,.int .u64 z3.bits,zi z3.len,.str z3.text,zi z3.code,zi z3.at_,.own 4];let z2:List Blk:=[.cells z1,.tree m.d.plan.shapes,.lst .lev m.d.stack,.dead,.lst .ev (m.out++[z3])];let z4:=A3 m c a;(.seg [.call [] (.v (.agg (cEv z3))) [],.call [0,1,2,3] (.tup []) z2] (.leaf () [0,1,2,3,4]),(Fp 157 [vI c,vI a] [] (.v (.agg (cEv z3))) [])∧(Fp 100 [vP 0,.agg (cEv z3)] [.cells [.own 1,zi m.d.plan.root,zi m.d.plan.deep,zi m.d.plan.most,zi 9,.own 2,.int .u64 0,zi 0,zi m.d.start,zi m.d.at_,zi m.d.field.number,zi m.d.field.kind,.bool m.d.field.rep,.bool m.d.field.packed,zi m.d.field.msg,zi m.d.wire,zi 0,zi m.d.utf.want,zi m.d.utf.low,zi m.d.utf.high,zi z3.kind,zi z3.field,.int .u64 z3.bits,zi z3.len,.str z3.text,zi z3.code,zi z3.at_,.own 3],.tree m.d.plan.shapes,.lst .lev m.d.stack,.lst .ev m.out] (.tup []) z2)∧Lf (.tup []) (.tup []) z2 [.cells (Ab 1 2 4 z4),.tree z4.d.plan.shapes,.lst .lev z4.d.stack,.dead,.lst .ev z4.out])) Q4 ?_
 refine zE (A3 m c a) (⟨(⟨m.d.plan,9,m.d.stack,(⟨0,0⟩:Scn),m.d.start,m.d.at_,m.d.field,m.d.wire,0,m.d.utf,(Bj c a)⟩:Dcd),m.out++[(Bj c a)]⟩:Mac) (fun hm1=>⟨(Agn _ _),(Fk (⟨(⟨m.d.plan,9,m.d.stack,(⟨0,0⟩:Scn),m.d.start,m.d.at_,m.d.field,m.d.wire,0,m.d.utf,(Bj c a)⟩:Dcd),m.out⟩:Mac) (Bj c a) Q6),rfl,Q7⟩) ?_
 rotate_left
 all_goals first|(rfl)|(simp_all[A3,Gw])
theorem Anj (m:Mac) (hp1:List.length (m).out≤200000000) (hp2:List.length (m).d.stack≤Bk):Fun Tryz.prog 261 [vP 0] [.cells (Ab 1 2 3 m),.tree m.d.plan.shapes,.lst .lev m.d.stack,.lst .ev m.out] (.v (vB (A2 m).isSome)) [.cells (Ab 1 4 5 ((A2 m).getD m)),.tree ((A2 m).getD m).d.plan.shapes,.dead,.dead,.lst .lev ((A2 m).getD m).d.stack,.lst .ev ((A2 m).getD m).out]:=by
 have hN:Bk=274877906944:=rfl
 refine Ar Tryz.func261 Q4 Q4 (w:=let zi:Int→C:= .int .i64;let z4:List C:=[zi 0,.int .u64 0,zi 0,.str [],zi 0,zi 0];let z7:List C:=[zi m.d.end_.kind,zi m.d.end_.field,.int .u64 m.d.end_.bits,zi m.d.end_.len,.str m.d.end_.text,zi m.d.end_.code,zi m.d.end_.at_,.own 5];let z3:List C:= .own 1::zi m.d.plan.root::zi m.d.plan.deep::zi m.d.plan.most::zi 1:: .own 4:: .int .u64 m.d.scan.bits::zi m.d.scan.have_::zi m.d.start::zi m.d.at_::zi m.d.field.number::zi m.d.field.kind:: .bool m.d.field.rep:: .bool m.d.field.packed::zi m.d.field.msg::zi m.d.wire::zi m.d.want::zi m.d.utf.want::zi m.d.utf.low::zi m.d.utf.high::z7;let z5:List C:= .own 1::zi m.d.plan.root::zi m.d.plan.deep::zi m.d.plan.most::zi 2:: .own 4:: .int .u64 m.d.scan.bits::zi m.d.scan.have_::zi m.d.start::zi m.d.at_::zi m.d.field.number::zi m.d.field.kind:: .bool m.d.field.rep:: .bool m.d.field.packed::zi m.d.field.msg::zi m.d.wire::zi 0::zi m.d.utf.want::zi m.d.utf.low::zi m.d.utf.high::z7;let z8:List C:=[zi m.d.end_.kind,zi m.d.end_.field,.int .u64 m.d.end_.bits,zi m.d.end_.len,.str m.d.end_.text,zi m.d.end_.code,zi m.d.end_.at_,.own 3];let z2:List C:= .own 1::zi m.d.plan.root::zi m.d.plan.deep::zi m.d.plan.most::zi 1:: .own 2:: .int .u64 m.d.scan.bits::zi m.d.scan.have_::zi m.d.start::zi m.d.at_::zi m.d.field.number::zi m.d.field.kind:: .bool m.d.field.rep:: .bool m.d.field.packed::zi m.d.field.msg::zi m.d.wire::zi m.d.want::zi m.d.utf.want::zi m.d.utf.low::zi m.d.utf.high::z8;let z9:List C:=[zi m.d.end_.kind,zi m.d.end_.field,.int .u64 m.d.end_.bits,zi m.d.end_.len,.str m.d.end_.text,zi m.d.end_.code,zi m.d.end_.at_,.own 4];let z1:List C:= .own 1::zi m.d.plan.root::zi m.d.plan.deep::zi m.d.plan.most::zi 1:: .own 2:: .int .u64 m.d.scan.bits::zi m.d.scan.have_::zi m.d.start::zi m.d.at_::zi m.d.field.number::zi m.d.field.kind:: .bool m.d.field.rep:: .bool m.d.field.packed::zi m.d.field.msg::zi m.d.wire::zi m.d.want::zi m.d.utf.want::zi m.d.utf.low::zi m.d.utf.high::z9;let z6:List C:= .own 1::zi m.d.plan.root::zi m.d.plan.deep::zi m.d.plan.most::zi 2:: .own 2:: .int .u64 m.d.scan.bits::zi m.d.scan.have_::zi m.d.start::zi m.d.at_::zi m.d.field.number::zi m.d.field.kind:: .bool m.d.field.rep:: .bool m.d.field.packed::zi m.d.field.msg::zi m.d.wire::zi 0::zi 0::zi 0::zi 0::z9;let z13:=((List.length m.d.stack:Nat):Int);let z11:=List.take ((Int.toNat (z13-1))-0) m.d.stack;let z18:S:= .v (vB (A2 m).isSome);let z19:List Blk:=[.cells (Ab 1 2 3 m),.tree m.d.plan.shapes,.lst .lev z11,.lst .ev m.out];let z20:List Blk:=[.cells z2,.tree m.d.plan.shapes,.lst .lev z11,.lst .ev m.out];let z21:=decide (m.d.scan.have_=0);let z22:=decide (0<((List.length z11:Nat):Int));let z23:=(0:Int)≤z13-1;let z24:List Blk:=[.cells (Ab 1 4 5 m),.tree m.d.plan.shapes,.dead,.dead,.lst .lev m.d.stack,.lst .ev m.out];let z25:S:= .v (vI (Eb m.d));let z26:=A3 m 5 m.d.at_;let z27:S:= .v (vB true);let z28:=decide (m.d.mode=2);let z29:List V:=[vP 0,.agg (zi 7::z4)];let z30:List V:=[vP 0,.agg (zi 8::z4)];let z31:=z13-1≤z13;let z32:=wI (z13-1);let z34:=decide (Eb m.d=0);let z36:List Blk:=[.cells (Ab 1 2 4 z26),.tree z26.d.plan.shapes,.lst .lev z26.d.stack,.dead,.lst .ev z26.out];let z37:=decide (m.d.want<1);let z38:S:= .v (vI (z13-1));let z39:=decide (0<z13);let z41:=(A2 m).getD m;let z12:List Blk:=[.cells (Ab 1 4 5 z41),.tree z41.d.plan.shapes,.dead,.dead,.lst .lev z41.d.stack,.lst .ev z41.out];let z10:=Lf (.v (vB false)) z18 z24 z12;let z35:=Lf z27 z18 [.cells z5,.tree m.d.plan.shapes,.dead,.dead,.lst .lev m.d.stack,.lst .ev m.out] z12;let z40:=Bc z28 ((z21=false)∧Lf (.v (vB false)) z18 z24 z12) z10;let z42:=os 18 [17];let z43:=m.out++[(⟨5,0,0,0,[],0,0⟩:Ev)];let z33:List Blk:=[.cells z6,.tree m.d.plan.shapes,.lst .lev m.d.stack,.dead,.lst .ev z43];let z44:=m.out++[(⟨7,0,0,0,[],0,0⟩:Ev)];let z14:List Blk:=[.cells (Ab 1 2 4 m),.tree m.d.plan.shapes,.lst .lev z11,.dead,.lst .ev z44];let z16:List Blk:=[.cells (Ab 1 4 5 m),.tree m.d.plan.shapes,.dead,.dead,.lst .lev z11,.lst .ev z44];let z45:=m.out++[(⟨8,0,0,0,[],0,0⟩:Ev)];let z15:List Blk:=[.cells z1,.tree m.d.plan.shapes,.lst .lev z11,.dead,.lst .ev z45];let z17:List Blk:=[.cells z3,.tree m.d.plan.shapes,.dead,.dead,.lst .lev z11,.lst .ev z45];let z46:=C4 m.d;(.br (.br (.br (.seg [.call [0,1,2,3] (.tup []) z36,.at 0,.cut 0 5] (.leaf () [0,1,2,3,5,4])) (.seg [.call [0,1,2,3] (.tup []) z33,.at 0,.cut 0 5] (.leaf () [0,1,2,3,5,4]))) (.br (.seg [.br false] (.br (.br (.br (.seg [.call [] z25 []] (.br (.seg [.ord z42 [],.as 133 z38,.at 13,.cut 0 5] (.br (.seg [.call [0,1,4,3] (.tup []) z14] (.leaf () [0,1,2,3,4,5])) (.seg [.call [0,1,4,3] (.tup []) z15] (.leaf () [0,1,2,3,4,5])))) (.seg [.at 0,.cut 0 5,.cut 0 27] (.leaf () [0,1,2,3,4,5])))) (.seg [.at 0,.cut 0 5,.cut 0 27] (.leaf () [0,1,2,3,4,5]))) (.seg [.at 0,.cut 0 5,.cut 0 27] (.leaf () [0,1,2,3,4,5]))) (.seg [.at 0,.cut 0 5,.cut 0 27] (.leaf () [0,1,2,3,4,5])))) (.br (.br (.seg [.br false] (.br (.seg [.br true] (.br (.seg [.call [] z25 []] (.br (.seg [.ord z42 [],.as 133 z38,.at 13,.cut 0 5] (.br (.seg [.call [0,1,4,3] (.tup []) z14] (.leaf () [0,1,2,3,4,5])) (.seg [.call [0,1,4,3] (.tup []) z15] (.leaf () [0,1,2,3,4,5])))) (.seg [.at 0,.cut 0 5,.cut 0 27] (.leaf () [0,1,2,3,4,5])))) (.seg [.at 0,.cut 0 5,.cut 0 27] (.leaf () [0,1,2,3,4,5])))) (.seg [.at 0,.cut 0 5,.cut 0 27] (.leaf () [0,1,2,3,4,5])))) (.br (.seg [.br false,.at 0,.cut 0 5,.cut 0 27] (.leaf () [0,1,2,3,4,5])) (.seg [.at 0,.cut 0 5,.cut 0 27] (.leaf () [0,1,2,3,4,5])))) (.br (.br (.br (.seg [.call [] z25 []] (.br (.seg [.ord z42 [],.as 133 z38,.at 13,.cut 0 5] (.br (.seg [.call [0,1,4,3] (.tup []) z14] (.leaf () [0,1,2,3,4,5])) (.seg [.call [0,1,4,3] (.tup []) z15] (.leaf () [0,1,2,3,4,5])))) (.seg [.at 0,.cut 0 5,.cut 0 27] (.leaf () [0,1,2,3,4,5])))) (.seg [.at 0,.cut 0 5,.cut 0 27] (.leaf () [0,1,2,3,4,5]))) (.seg [.at 0,.cut 0 5,.cut 0 27] (.leaf () [0,1,2,3,4,5]))) (.seg [.at 0,.cut 0 5,.cut 0 27] (.leaf () [0,1,2,3,4,5])))))) (.br (.br (.seg [.at 0,.cut 0 5,.cut 0 27] (.leaf () [0,1,2,3,4,5])) (.br (.br (.br (.seg [.call [] z25 []] (.br (.seg [.ord z42 [],.as 133 z38,.at 13,.cut 0 5] (.br (.seg [.call [0,1,4,3] (.tup []) z14] (.leaf () [0,1,2,3,4,5])) (.seg [.call [0,1,4,3] (.tup []) z15] (.leaf () [0,1,2,3,4,5])))) (.seg [.at 0,.cut 0 5,.cut 0 27] (.leaf () [0,1,2,3,4,5])))) (.seg [.at 0,.cut 0 5,.cut 0 27] (.leaf () [0,1,2,3,4,5]))) (.seg [.at 0,.cut 0 5,.cut 0 27] (.leaf () [0,1,2,3,4,5]))) (.seg [.at 0,.cut 0 5,.cut 0 27] (.leaf () [0,1,2,3,4,5])))) (.br (.br (.br (.seg [.at 0,.cut 0 5,.cut 0 27] (.leaf () [0,1,2,3,4,5])) (.br (.seg [.br true] (.br (.seg [.call [] z25 []] (.br (.seg [.ord z42 [],.as 133 z38,.at 13,.cut 0 5] (.br (.seg [.call [0,1,4,3] (.tup []) z14] (.leaf () [0,1,2,3,4,5])) (.seg [.call [0,1,4,3] (.tup []) z15] (.leaf () [0,1,2,3,4,5])))) (.seg [.at 0,.cut 0 5,.cut 0 27] (.leaf () [0,1,2,3,4,5])))) (.seg [.at 0,.cut 0 5,.cut 0 27] (.leaf () [0,1,2,3,4,5])))) (.seg [.at 0,.cut 0 5,.cut 0 27] (.leaf () [0,1,2,3,4,5])))) (.br (.seg [.br false,.at 0,.cut 0 5,.cut 0 27] (.leaf () [0,1,2,3,4,5])) (.seg [.at 0,.cut 0 5,.cut 0 27] (.leaf () [0,1,2,3,4,5])))) (.br (.br (.br (.seg [.call [] z25 []] (.br (.seg [.ord z42 [],.as 133 z38,.at 13,.cut 0 5] (.br (.seg [.call [0,1,4,3] (.tup []) z14] (.leaf () [0,1,2,3,4,5])) (.seg [.call [0,1,4,3] (.tup []) z15] (.leaf () [0,1,2,3,4,5])))) (.seg [.at 0,.cut 0 5,.cut 0 27] (.leaf () [0,1,2,3,4,5])))) (.seg [.at 0,.cut 0 5,.cut 0 27] (.leaf () [0,1,2,3,4,5]))) (.seg [.at 0,.cut 0 5,.cut 0 27] (.leaf () [0,1,2,3,4,5]))) (.seg [.at 0,.cut 0 5,.cut 0 27] (.leaf () [0,1,2,3,4,5]))))),Bc (decide (m.d.mode=6)) (Bc z37 (Bc (decide (0<m.d.utf.want)) ((Fp 101 [vP 0,vI 5,vI m.d.at_] [.cells (Ab 1 2 3 m),.tree m.d.plan.shapes,.lst .lev m.d.stack,.lst .ev m.out] (.tup []) z36)∧Lf z27 z18 [.cells (Ab 1 4 5 z26),.tree z26.d.plan.shapes,.dead,.dead,.lst .lev z26.d.stack,.lst .ev z26.out] z12) ((Fp 100 [vP 0,.agg (zi 5::z4)] [.cells (.own 1::zi m.d.plan.root::zi m.d.plan.deep::zi m.d.plan.most::zi 2:: .own 2:: .int .u64 m.d.scan.bits::zi m.d.scan.have_::zi m.d.start::zi m.d.at_::zi m.d.field.number::zi m.d.field.kind:: .bool m.d.field.rep:: .bool m.d.field.packed::zi m.d.field.msg::zi m.d.wire::zi 0::zi 0::zi 0::zi 0::z8),.tree m.d.plan.shapes,.lst .lev m.d.stack,.lst .ev m.out] (.tup []) z33)∧Lf z27 z18 [.cells (.own 1::zi m.d.plan.root::zi m.d.plan.deep::zi m.d.plan.most::zi 2:: .own 4:: .int .u64 m.d.scan.bits::zi m.d.scan.have_::zi m.d.start::zi m.d.at_::zi m.d.field.number::zi m.d.field.kind:: .bool m.d.field.rep:: .bool m.d.field.packed::zi m.d.field.msg::zi m.d.wire::zi 0::zi 0::zi 0::zi 0::z7),.tree m.d.plan.shapes,.dead,.dead,.lst .lev m.d.stack,.lst .ev z43] z12)) (Bc (decide (m.d.mode=7)) ((z37=false)∧Bc z28 (Bc z21 (Bc z39 ((Fp 152 [.agg z46] [] z25 [])∧Bc z34 (z32∧z32∧z31∧z23∧z31∧z23∧Bc z22 ((Fp 100 z29 z19 (.tup []) z14)∧Lf z27 z18 z16 z12) ((Fp 100 z30 z20 (.tup []) z15)∧Lf z27 z18 z17 z12)) z10) z10) z10) z10) (Bc (decide (m.d.mode=8)) (Bc z21 ((z37=false)∧Bc z28 ((z21=true)∧Bc z39 ((Fp 152 [.agg z46] [] z25 [])∧Bc z34 (z32∧z32∧z31∧z23∧z31∧z23∧Bc z22 ((Fp 100 z29 z19 (.tup []) z14)∧Lf z27 z18 z16 z12) ((Fp 100 z30 z20 (.tup []) z15)∧Lf z27 z18 z17 z12)) z10) z10) z10) z40) (Bc z28 (Bc z21 (Bc z39 ((Fp 152 [.agg z46] [] z25 [])∧Bc z34 (z32∧z32∧z31∧z23∧z31∧z23∧Bc z22 ((Fp 100 z29 z19 (.tup []) z14)∧Lf z27 z18 z16 z12) ((Fp 100 z30 z20 (.tup []) z15)∧Lf z27 z18 z17 z12)) z10) z10) z10) z10)))) (Bc (decide (m.d.mode=7)) (Bc z37 z35 (Bc z28 (Bc z21 (Bc z39 ((Fp 152 [.agg z46] [] z25 [])∧Bc z34 (z32∧z32∧z31∧z23∧z31∧z23∧Bc z22 ((Fp 100 z29 z19 (.tup []) z14)∧Lf z27 z18 z16 z12) ((Fp 100 z30 z20 (.tup []) z15)∧Lf z27 z18 z17 z12)) z10) z10) z10) z10)) (Bc (decide (m.d.mode=8)) (Bc z21 (Bc z37 z35 (Bc z28 ((z21=true)∧Bc z39 ((Fp 152 [.agg z46] [] z25 [])∧Bc z34 (z32∧z32∧z31∧z23∧z31∧z23∧Bc z22 ((Fp 100 z29 z19 (.tup []) z14)∧Lf z27 z18 z16 z12) ((Fp 100 z30 z20 (.tup []) z15)∧Lf z27 z18 z17 z12)) z10) z10) z10)) z40) (Bc z28 (Bc z21 (Bc z39 ((Fp 152 [.agg z46] [] z25 [])∧Bc z34 (z32∧z32∧z31∧z23∧z31∧z23∧Bc z22 ((Fp 100 z29 z19 (.tup []) z14)∧Lf z27 z18 z16 z12) ((Fp 100 z30 z20 (.tup []) z15)∧Lf z27 z18 z17 z12)) z10) z10) z10) z10))))) Q4 ?_
 refine dsp (fun h1 p1=>?_) fun h1 p1=>?_
 refine dsp (fun h2 p2=>?_) fun h2 p2=>?_
 refine dsp (fun h3 p3=>?_) fun h3 p3=>?_
 refine zE ((A2 m).getD m) (A3 m 5 m.d.at_) (fun hm1=>⟨(Ca m _ _ Q2),(sB ?_),Q7⟩) ?_
 rotate_left 2
 refine zE ((A2 m).getD m) (⟨(⟨m.d.plan,2,m.d.stack,m.d.scan,m.d.start,m.d.at_,m.d.field,m.d.wire,0,(⟨0,0,0⟩:Utf),m.d.end_⟩:Dcd),m.out++[(⟨5,0,0,0,[],0,0⟩:Ev)]⟩:Mac) (fun hm1=>⟨(Fk (⟨(⟨m.d.plan,2,m.d.stack,m.d.scan,m.d.start,m.d.at_,m.d.field,m.d.wire,0,(⟨0,0,0⟩:Utf),m.d.end_⟩:Dcd),m.out⟩:Mac) (⟨5,0,0,0,[],0,0⟩:Ev) Q6),(sB ?_),Q7⟩) ?_
 rotate_left 2
 refine dsp (fun h3 p3=>?_) fun h3 p3=>?_
 refine⟨h2,dsp (fun h4 p4=>?_) fun h4 p4=>?_⟩
 refine dsp (fun h5 p5=>?_) fun h5 p5=>?_
 refine dsp (fun h6 p6=>?_) fun h6 p6=>?_
 refine⟨(Dz m.d Q2),dsp (fun h7 p7=>?_) fun h7 p7=>?_⟩
 refine⟨(Af Q2 Q2),(Af Q2 Q2),Q2,Q2,Q2,Q2,dsp (fun h8 p8=>?_) fun h8 p8=>?_⟩
 refine zE ((A2 m).getD m) (⟨(⟨m.d.plan,m.d.mode,List.take ((Int.toNat (((List.length m.d.stack:Nat):Int)-1))-0) m.d.stack,m.d.scan,m.d.start,m.d.at_,m.d.field,m.d.wire,m.d.want,m.d.utf,m.d.end_⟩:Dcd),m.out++[(⟨7,0,0,0,[],0,0⟩:Ev)]⟩:Mac) (fun hm1=>⟨(Fk (⟨(⟨m.d.plan,m.d.mode,List.take ((Int.toNat (((List.length m.d.stack:Nat):Int)-1))-0) m.d.stack,m.d.scan,m.d.start,m.d.at_,m.d.field,m.d.wire,m.d.want,m.d.utf,m.d.end_⟩:Dcd),m.out⟩:Mac) (⟨7,0,0,0,[],0,0⟩:Ev) Q6),(sB ?_),Q7⟩) ?_
 rotate_left 2
 refine zE ((A2 m).getD m) (⟨(⟨m.d.plan,1,List.take ((Int.toNat (((List.length m.d.stack:Nat):Int)-1))-0) m.d.stack,m.d.scan,m.d.start,m.d.at_,m.d.field,m.d.wire,m.d.want,m.d.utf,m.d.end_⟩:Dcd),m.out++[(⟨8,0,0,0,[],0,0⟩:Ev)]⟩:Mac) (fun hm1=>⟨(Fk (⟨(⟨m.d.plan,1,List.take ((Int.toNat (((List.length m.d.stack:Nat):Int)-1))-0) m.d.stack,m.d.scan,m.d.start,m.d.at_,m.d.field,m.d.wire,m.d.want,m.d.utf,m.d.end_⟩:Dcd),m.out⟩:Mac) (⟨8,0,0,0,[],0,0⟩:Ev) Q6),(sB ?_),Q7⟩) ?_
 rotate_left 2
 refine zE ((A2 m).getD m) m (fun hm1=>⟨(sB ?_),Q7⟩) ?_
 rotate_left 2
 refine zE ((A2 m).getD m) m (fun hm1=>⟨(sB ?_),Q7⟩) ?_
 rotate_left 2
 refine zE ((A2 m).getD m) m (fun hm1=>⟨(sB ?_),Q7⟩) ?_
 rotate_left 2
 refine zE ((A2 m).getD m) m (fun hm1=>⟨(sB ?_),Q7⟩) ?_
 rotate_left 2
 refine dsp (fun h4 p4=>?_) fun h4 p4=>?_
 refine dsp (fun h5 p5=>?_) fun h5 p5=>?_
 refine⟨h2,dsp (fun h6 p6=>?_) fun h6 p6=>?_⟩
 refine⟨h5,dsp (fun h7 p7=>?_) fun h7 p7=>?_⟩
 refine⟨(Dz m.d Q2),dsp (fun h8 p8=>?_) fun h8 p8=>?_⟩
 refine⟨(Af Q2 Q2),(Af Q2 Q2),Q2,Q2,Q2,Q2,dsp (fun h9 p9=>?_) fun h9 p9=>?_⟩
 refine zE ((A2 m).getD m) (⟨(⟨m.d.plan,m.d.mode,List.take ((Int.toNat (((List.length m.d.stack:Nat):Int)-1))-0) m.d.stack,m.d.scan,m.d.start,m.d.at_,m.d.field,m.d.wire,m.d.want,m.d.utf,m.d.end_⟩:Dcd),m.out++[(⟨7,0,0,0,[],0,0⟩:Ev)]⟩:Mac) (fun hm1=>⟨(Fk (⟨(⟨m.d.plan,m.d.mode,List.take ((Int.toNat (((List.length m.d.stack:Nat):Int)-1))-0) m.d.stack,m.d.scan,m.d.start,m.d.at_,m.d.field,m.d.wire,m.d.want,m.d.utf,m.d.end_⟩:Dcd),m.out⟩:Mac) (⟨7,0,0,0,[],0,0⟩:Ev) Q6),(sB ?_),Q7⟩) ?_
 rotate_left 2
 refine zE ((A2 m).getD m) (⟨(⟨m.d.plan,1,List.take ((Int.toNat (((List.length m.d.stack:Nat):Int)-1))-0) m.d.stack,m.d.scan,m.d.start,m.d.at_,m.d.field,m.d.wire,m.d.want,m.d.utf,m.d.end_⟩:Dcd),m.out++[(⟨8,0,0,0,[],0,0⟩:Ev)]⟩:Mac) (fun hm1=>⟨(Fk (⟨(⟨m.d.plan,1,List.take ((Int.toNat (((List.length m.d.stack:Nat):Int)-1))-0) m.d.stack,m.d.scan,m.d.start,m.d.at_,m.d.field,m.d.wire,m.d.want,m.d.utf,m.d.end_⟩:Dcd),m.out⟩:Mac) (⟨8,0,0,0,[],0,0⟩:Ev) Q6),(sB ?_),Q7⟩) ?_
 rotate_left 2
 refine zE ((A2 m).getD m) m (fun hm1=>⟨(sB ?_),Q7⟩) ?_
 rotate_left 2
 refine zE ((A2 m).getD m) m (fun hm1=>⟨(sB ?_),Q7⟩) ?_
 rotate_left 2
 refine zE ((A2 m).getD m) m (fun hm1=>⟨(sB ?_),Q7⟩) ?_
 rotate_left 2
 refine dsp (fun h6 p6=>?_) fun h6 p6=>?_
 refine zE ((A2 m).getD m) m (fun hm1=>⟨h5,(sB ?_),Q7⟩) ?_
 rotate_left 2
 refine zE ((A2 m).getD m) m (fun hm1=>⟨(sB ?_),Q7⟩) ?_
 rotate_left 2
 refine dsp (fun h5 p5=>?_) fun h5 p5=>?_
 refine dsp (fun h6 p6=>?_) fun h6 p6=>?_
 refine dsp (fun h7 p7=>?_) fun h7 p7=>?_
 refine⟨(Dz m.d Q2),dsp (fun h8 p8=>?_) fun h8 p8=>?_⟩
 refine⟨(Af Q2 Q2),(Af Q2 Q2),Q2,Q2,Q2,Q2,dsp (fun h9 p9=>?_) fun h9 p9=>?_⟩
 refine zE ((A2 m).getD m) (⟨(⟨m.d.plan,m.d.mode,List.take ((Int.toNat (((List.length m.d.stack:Nat):Int)-1))-0) m.d.stack,m.d.scan,m.d.start,m.d.at_,m.d.field,m.d.wire,m.d.want,m.d.utf,m.d.end_⟩:Dcd),m.out++[(⟨7,0,0,0,[],0,0⟩:Ev)]⟩:Mac) (fun hm1=>⟨(Fk (⟨(⟨m.d.plan,m.d.mode,List.take ((Int.toNat (((List.length m.d.stack:Nat):Int)-1))-0) m.d.stack,m.d.scan,m.d.start,m.d.at_,m.d.field,m.d.wire,m.d.want,m.d.utf,m.d.end_⟩:Dcd),m.out⟩:Mac) (⟨7,0,0,0,[],0,0⟩:Ev) Q6),(sB ?_),Q7⟩) ?_
 rotate_left 2
 refine zE ((A2 m).getD m) (⟨(⟨m.d.plan,1,List.take ((Int.toNat (((List.length m.d.stack:Nat):Int)-1))-0) m.d.stack,m.d.scan,m.d.start,m.d.at_,m.d.field,m.d.wire,m.d.want,m.d.utf,m.d.end_⟩:Dcd),m.out++[(⟨8,0,0,0,[],0,0⟩:Ev)]⟩:Mac) (fun hm1=>⟨(Fk (⟨(⟨m.d.plan,1,List.take ((Int.toNat (((List.length m.d.stack:Nat):Int)-1))-0) m.d.stack,m.d.scan,m.d.start,m.d.at_,m.d.field,m.d.wire,m.d.want,m.d.utf,m.d.end_⟩:Dcd),m.out⟩:Mac) (⟨8,0,0,0,[],0,0⟩:Ev) Q6),(sB ?_),Q7⟩) ?_
 rotate_left 2
 refine zE ((A2 m).getD m) m (fun hm1=>⟨(sB ?_),Q7⟩) ?_
 rotate_left 2
 refine zE ((A2 m).getD m) m (fun hm1=>⟨(sB ?_),Q7⟩) ?_
 rotate_left 2
 refine zE ((A2 m).getD m) m (fun hm1=>⟨(sB ?_),Q7⟩) ?_
 rotate_left 2
 refine zE ((A2 m).getD m) m (fun hm1=>⟨(sB ?_),Q7⟩) ?_
 rotate_left 2
 refine dsp (fun h2 p2=>?_) fun h2 p2=>?_
 refine dsp (fun h3 p3=>?_) fun h3 p3=>?_
 refine zE ((A2 m).getD m) (⟨(⟨m.d.plan,2,m.d.stack,m.d.scan,m.d.start,m.d.at_,m.d.field,m.d.wire,0,m.d.utf,m.d.end_⟩:Dcd),m.out⟩:Mac) (fun hm1=>⟨(sB ?_),Q7⟩) ?_
 rotate_left 2
 refine dsp (fun h4 p4=>?_) fun h4 p4=>?_
 refine dsp (fun h5 p5=>?_) fun h5 p5=>?_
 refine dsp (fun h6 p6=>?_) fun h6 p6=>?_
 refine⟨(Dz m.d Q2),dsp (fun h7 p7=>?_) fun h7 p7=>?_⟩
 refine⟨(Af Q2 Q2),(Af Q2 Q2),Q2,Q2,Q2,Q2,dsp (fun h8 p8=>?_) fun h8 p8=>?_⟩
 refine zE ((A2 m).getD m) (⟨(⟨m.d.plan,m.d.mode,List.take ((Int.toNat (((List.length m.d.stack:Nat):Int)-1))-0) m.d.stack,m.d.scan,m.d.start,m.d.at_,m.d.field,m.d.wire,m.d.want,m.d.utf,m.d.end_⟩:Dcd),m.out++[(⟨7,0,0,0,[],0,0⟩:Ev)]⟩:Mac) (fun hm1=>⟨(Fk (⟨(⟨m.d.plan,m.d.mode,List.take ((Int.toNat (((List.length m.d.stack:Nat):Int)-1))-0) m.d.stack,m.d.scan,m.d.start,m.d.at_,m.d.field,m.d.wire,m.d.want,m.d.utf,m.d.end_⟩:Dcd),m.out⟩:Mac) (⟨7,0,0,0,[],0,0⟩:Ev) Q6),(sB ?_),Q7⟩) ?_
 rotate_left 2
 refine zE ((A2 m).getD m) (⟨(⟨m.d.plan,1,List.take ((Int.toNat (((List.length m.d.stack:Nat):Int)-1))-0) m.d.stack,m.d.scan,m.d.start,m.d.at_,m.d.field,m.d.wire,m.d.want,m.d.utf,m.d.end_⟩:Dcd),m.out++[(⟨8,0,0,0,[],0,0⟩:Ev)]⟩:Mac) (fun hm1=>⟨(Fk (⟨(⟨m.d.plan,1,List.take ((Int.toNat (((List.length m.d.stack:Nat):Int)-1))-0) m.d.stack,m.d.scan,m.d.start,m.d.at_,m.d.field,m.d.wire,m.d.want,m.d.utf,m.d.end_⟩:Dcd),m.out⟩:Mac) (⟨8,0,0,0,[],0,0⟩:Ev) Q6),(sB ?_),Q7⟩) ?_
 rotate_left 2
 refine zE ((A2 m).getD m) m (fun hm1=>⟨(sB ?_),Q7⟩) ?_
 rotate_left 2
 refine zE ((A2 m).getD m) m (fun hm1=>⟨(sB ?_),Q7⟩) ?_
 rotate_left 2
 refine zE ((A2 m).getD m) m (fun hm1=>⟨(sB ?_),Q7⟩) ?_
 rotate_left 2
 refine zE ((A2 m).getD m) m (fun hm1=>⟨(sB ?_),Q7⟩) ?_
 rotate_left 2
 refine dsp (fun h3 p3=>?_) fun h3 p3=>?_
 refine dsp (fun h4 p4=>?_) fun h4 p4=>?_
 refine dsp (fun h5 p5=>?_) fun h5 p5=>?_
 refine zE ((A2 m).getD m) (⟨(⟨m.d.plan,2,m.d.stack,m.d.scan,m.d.start,m.d.at_,m.d.field,m.d.wire,0,m.d.utf,m.d.end_⟩:Dcd),m.out⟩:Mac) (fun hm1=>⟨(sB ?_),Q7⟩) ?_
 rotate_left 2
 refine dsp (fun h6 p6=>?_) fun h6 p6=>?_
 refine⟨h4,dsp (fun h7 p7=>?_) fun h7 p7=>?_⟩
 refine⟨(Dz m.d Q2),dsp (fun h8 p8=>?_) fun h8 p8=>?_⟩
 refine⟨(Af Q2 Q2),(Af Q2 Q2),Q2,Q2,Q2,Q2,dsp (fun h9 p9=>?_) fun h9 p9=>?_⟩
 refine zE ((A2 m).getD m) (⟨(⟨m.d.plan,m.d.mode,List.take ((Int.toNat (((List.length m.d.stack:Nat):Int)-1))-0) m.d.stack,m.d.scan,m.d.start,m.d.at_,m.d.field,m.d.wire,m.d.want,m.d.utf,m.d.end_⟩:Dcd),m.out++[(⟨7,0,0,0,[],0,0⟩:Ev)]⟩:Mac) (fun hm1=>⟨(Fk (⟨(⟨m.d.plan,m.d.mode,List.take ((Int.toNat (((List.length m.d.stack:Nat):Int)-1))-0) m.d.stack,m.d.scan,m.d.start,m.d.at_,m.d.field,m.d.wire,m.d.want,m.d.utf,m.d.end_⟩:Dcd),m.out⟩:Mac) (⟨7,0,0,0,[],0,0⟩:Ev) Q6),(sB ?_),Q7⟩) ?_
 rotate_left 2
 refine zE ((A2 m).getD m) (⟨(⟨m.d.plan,1,List.take ((Int.toNat (((List.length m.d.stack:Nat):Int)-1))-0) m.d.stack,m.d.scan,m.d.start,m.d.at_,m.d.field,m.d.wire,m.d.want,m.d.utf,m.d.end_⟩:Dcd),m.out++[(⟨8,0,0,0,[],0,0⟩:Ev)]⟩:Mac) (fun hm1=>⟨(Fk (⟨(⟨m.d.plan,1,List.take ((Int.toNat (((List.length m.d.stack:Nat):Int)-1))-0) m.d.stack,m.d.scan,m.d.start,m.d.at_,m.d.field,m.d.wire,m.d.want,m.d.utf,m.d.end_⟩:Dcd),m.out⟩:Mac) (⟨8,0,0,0,[],0,0⟩:Ev) Q6),(sB ?_),Q7⟩) ?_
 rotate_left 2
 refine zE ((A2 m).getD m) m (fun hm1=>⟨(sB ?_),Q7⟩) ?_
 rotate_left 2
 refine zE ((A2 m).getD m) m (fun hm1=>⟨(sB ?_),Q7⟩) ?_
 rotate_left 2
 refine zE ((A2 m).getD m) m (fun hm1=>⟨(sB ?_),Q7⟩) ?_
 rotate_left 2
 refine dsp (fun h5 p5=>?_) fun h5 p5=>?_
 refine zE ((A2 m).getD m) m (fun hm1=>⟨h4,(sB ?_),Q7⟩) ?_
 rotate_left 2
 refine zE ((A2 m).getD m) m (fun hm1=>⟨(sB ?_),Q7⟩) ?_
 rotate_left 2
 refine dsp (fun h4 p4=>?_) fun h4 p4=>?_
 refine dsp (fun h5 p5=>?_) fun h5 p5=>?_
 refine dsp (fun h6 p6=>?_) fun h6 p6=>?_
 refine⟨(Dz m.d Q2),dsp (fun h7 p7=>?_) fun h7 p7=>?_⟩
 refine⟨(Af Q2 Q2),(Af Q2 Q2),Q2,Q2,Q2,Q2,dsp (fun h8 p8=>?_) fun h8 p8=>?_⟩
 refine zE ((A2 m).getD m) (⟨(⟨m.d.plan,m.d.mode,List.take ((Int.toNat (((List.length m.d.stack:Nat):Int)-1))-0) m.d.stack,m.d.scan,m.d.start,m.d.at_,m.d.field,m.d.wire,m.d.want,m.d.utf,m.d.end_⟩:Dcd),m.out++[(⟨7,0,0,0,[],0,0⟩:Ev)]⟩:Mac) (fun hm1=>⟨(Fk (⟨(⟨m.d.plan,m.d.mode,List.take ((Int.toNat (((List.length m.d.stack:Nat):Int)-1))-0) m.d.stack,m.d.scan,m.d.start,m.d.at_,m.d.field,m.d.wire,m.d.want,m.d.utf,m.d.end_⟩:Dcd),m.out⟩:Mac) (⟨7,0,0,0,[],0,0⟩:Ev) Q6),(sB ?_),Q7⟩) ?_
 rotate_left 2
 refine zE ((A2 m).getD m) (⟨(⟨m.d.plan,1,List.take ((Int.toNat (((List.length m.d.stack:Nat):Int)-1))-0) m.d.stack,m.d.scan,m.d.start,m.d.at_,m.d.field,m.d.wire,m.d.want,m.d.utf,m.d.end_⟩:Dcd),m.out++[(⟨8,0,0,0,[],0,0⟩:Ev)]⟩:Mac) (fun hm1=>⟨(Fk (⟨(⟨m.d.plan,1,List.take ((Int.toNat (((List.length m.d.stack:Nat):Int)-1))-0) m.d.stack,m.d.scan,m.d.start,m.d.at_,m.d.field,m.d.wire,m.d.want,m.d.utf,m.d.end_⟩:Dcd),m.out⟩:Mac) (⟨8,0,0,0,[],0,0⟩:Ev) Q6),(sB ?_),Q7⟩) ?_
 rotate_left 2
 refine zE ((A2 m).getD m) m (fun hm1=>⟨(sB ?_),Q7⟩) ?_
 rotate_left 2
 refine zE ((A2 m).getD m) m (fun hm1=>⟨(sB ?_),Q7⟩) ?_
 rotate_left 2
 refine zE ((A2 m).getD m) m (fun hm1=>⟨(sB ?_),Q7⟩) ?_
 rotate_left 2
 refine zE ((A2 m).getD m) m (fun hm1=>⟨(sB ?_),Q7⟩) ?_
 rotate_left 2
 all_goals first|(simp_all[A2,A3,Gw,W9,Aog,Pu,utf0];done)|(grind[A2,A3,Gw,W9,Aog,Pu,utf0])
structure Mu where
 m:Mac
def Mv (m:Mac):Fam:=⟨Mu,fun q1=>[(0,.v (vP 0))],fun q1=>[.cells (Ab 4 5 6 q1.m),.dead,.dead,.dead,.tree q1.m.d.plan.shapes,.lst .lev q1.m.d.stack,.lst .ev q1.m.out],fun q1=>Ao q1.m=Ao m∧List.length (q1.m).out+wM q1.m≤List.length m.out+wM m∧List.length (q1.m).d.stack≤List.length m.d.stack,fun q1=>wM q1.m⟩
theorem D8 (m:Mac) (hp1:Bv (m).d=true) (hp2:List.length (m).out≤100000100):Fun Tryz.prog 216 [vP 0] [.cells (Ab 1 2 3 m),.tree m.d.plan.shapes,.lst .lev m.d.stack,.lst .ev m.out] (.tup []) [.cells (Ab 4 5 6 (Ao m)),.dead,.dead,.dead,.tree (Ao m).d.plan.shapes,.lst .lev (Ao m).d.stack,.lst .ev (Ao m).out]:=by
 have hN:Bk=274877906944:=rfl
 have hlv:=Co hp1
 have hpt:=B8 hlv.1
 have htb:=No hp1
 have hwm:=Ai5 m
 refine Ar Tryz.func216 Q4 Q4 (w:=let z3:=Mv m;(.seg [.call [] (.v (vB (Bv m.d))) [],.br false,.at 0,.cut 0 0,.cut 0 5,.cut 0 27,.keep [0],.sel [0,1,2,3,4,5,6]] (.loop z3 fun q1=>let z1:=(A2 q1.m).getD q1.m;.seg [.call [0,4,5,6] (.v (vB (A2 q1.m).isSome)) [.cells (Ab 1 4 5 z1),.tree z1.d.plan.shapes,.dead,.dead,.lst .lev z1.d.stack,.lst .ev z1.out]] (.br (.seg [.at 0,.keep [0],.sel [0,1,2,3,4,7,8]] (.next)) (.leaf () [0,1,2,3,4,7,8]))),(Fp 147 [.agg (C4 m.d)] [] (.v (vB (Bv m.d))) [])∧((!(Bv m.d))=false)∧z3.Has [(0,.v (vP 0))] [.cells (Ab 4 5 6 m),.dead,.dead,.dead,.tree m.d.plan.shapes,.lst .lev m.d.stack,.lst .ev m.out]∧∀q1,z3.inv q1→(let z2:=(A2 q1.m).getD q1.m;(Fp 261 [vP 0] [.cells (Ab 1 2 3 q1.m),.tree q1.m.d.plan.shapes,.lst .lev q1.m.d.stack,.lst .ev q1.m.out] (.v (vB (A2 q1.m).isSome)) [.cells (Ab 1 4 5 z2),.tree z2.d.plan.shapes,.dead,.dead,.lst .lev z2.d.stack,.lst .ev z2.out])∧Bc ((A2 q1.m).isSome) (z3.Nxt q1 [(0,.v (vP 0))] [.cells (Ab 4 5 6 z2),.dead,.dead,.dead,.tree z2.d.plan.shapes,.lst .lev z2.d.stack,.lst .ev z2.out]) (Lf (.tup []) (.tup []) [.cells (Ab 4 5 6 z2),.dead,.dead,.dead,.tree z2.d.plan.shapes,.lst .lev z2.d.stack,.lst .ev z2.out] [.cells (Ab 4 5 6 (Ao m)),.dead,.dead,.dead,.tree (Ao m).d.plan.shapes,.lst .lev (Ao m).d.stack,.lst .ev (Ao m).out])))) Q4 ?_
 refine⟨(Xg m.d Q2 Q2),(by simp[hp1]),Cn (j:=(⟨m⟩:Mu)) rfl rfl (by dsimp only[Mv];exact⟨rfl,Nat.le_refl _,Nat.le_refl _⟩),fun (q1:Mu) hq_q1=>?_⟩
 have hi_q1:Ao q1.m=Ao m∧List.length (q1.m).out+wM q1.m≤List.length m.out+wM m∧List.length (q1.m).d.stack≤List.length m.d.stack:=hq_q1
 obtain ⟨v1,v2,v3⟩:=hi_q1
 refine⟨(Anj q1.m Q2 Q2),fun h1=>?_,fun h1=>?_⟩
 obtain ⟨q,hq⟩:=Option.isSome_iff_exists.1 h1
 have hg:(A2 q1.m).getD q1.m=q:=by rw[hq];rfl
 exact Be (j:=(⟨((A2 q1.m).getD q1.m)⟩:Mu)) rfl rfl (by dsimp only[Mv];exact⟨by rw[hg,←v1];exact(Cu hq).symm,by rw[hg];have:=D2 hq;omega,by rw[hg];have:=(Xa hq).1;omega⟩) (by dsimp only[Mv];rw[hg];exact(D2 hq).1)
 have hz:A2 q1.m=none:=by simpa using h1
 have hg:(A2 q1.m).getD q1.m=q1.m:=by rw[hz];rfl
 have hst:Ao m=q1.m:=by rw[←v1,B6 hz]
 refine zE (Ao m) ((A2 q1.m).getD q1.m) (fun hm1=>⟨rfl,Q7⟩) ?_
 rotate_left
 all_goals first|((rw[hst,hg];done))|((rw[hst];done))|(grind)
theorem Ag3 (m:Mac) (u:Int) (hp1:Bv (m).d=true) (hp2:List.length (m).out≤100000000) (hp3:(0:Int)≤u∧u≤18446744073709551615):Fun Tryz.prog 265 [vP 0,.c (.int .u64 u)] [.cells (Ab 1 2 3 m),.tree m.d.plan.shapes,.lst .lev m.d.stack,.lst .ev m.out] (.tup []) [.cells (Ab 4 5 6 (Ed m u)),.dead,.dead,.dead,.tree (Ed m u).d.plan.shapes,.lst .lev (Ed m u).d.stack,.lst .ev (Ed m u).out]:=by
 have hN:Bk=274877906944:=rfl
 have hlv:=Co hp1
 have hpt:=B8 hlv.1
 have htb:=No hp1
 have hwm:=Ai5 m
 refine Ar Tryz.func265 Q4 Q4 (w:=let zi:Int→C:= .int .i64;let z1:List C:=[.own 2,.int .u64 0,zi 0,zi m.d.start,zi m.d.at_,zi m.d.field.number,zi m.d.field.kind,.bool m.d.field.rep,.bool m.d.field.packed,zi m.d.field.msg,zi m.d.wire,zi m.d.want,zi m.d.utf.want,zi m.d.utf.low,zi m.d.utf.high,zi m.d.end_.kind,zi m.d.end_.field,.int .u64 m.d.end_.bits,zi m.d.end_.len,.str m.d.end_.text,zi m.d.end_.code,zi m.d.end_.at_,.own 3];let z2:List C:=[.own 1,zi m.d.plan.root,zi m.d.plan.deep,zi m.d.plan.most,zi m.d.mode,.own 2,.int .u64 0,zi 0,zi m.d.start,zi m.d.at_,zi m.d.field.number,zi m.d.field.kind,.bool m.d.field.rep,.bool m.d.field.packed,zi m.d.field.msg,zi m.d.wire,zi m.d.want,zi m.d.utf.want,zi m.d.utf.low,zi m.d.utf.high,zi m.d.end_.kind,zi m.d.end_.field,.int .u64 m.d.end_.bits,zi m.d.end_.len,.str m.d.end_.text,zi m.d.end_.code,zi m.d.end_.at_,.own 4];let z4:=A3 (⟨(⟨m.d.plan,m.d.mode,m.d.stack,(⟨0,0⟩:Scn),m.d.start,m.d.at_,m.d.field,m.d.wire,m.d.want,m.d.utf,m.d.end_⟩:Dcd),m.out⟩:Mac) 7 m.d.start;let z6:List Blk:=[.cells (.own 1::zi m.d.plan.root::zi m.d.plan.deep::zi m.d.plan.most::zi m.d.mode::z1),.tree m.d.plan.shapes,.lst .lev m.d.stack,.lst .ev m.out];let z7:List Blk:=[.cells (Ab 4 5 6 (Ed m u)),.dead,.dead,.dead,.tree (Ed m u).d.plan.shapes,.lst .lev (Ed m u).d.stack,.lst .ev (Ed m u).out];let z9:List Blk:=[.cells (Ab 1 2 4 z4),.tree z4.d.plan.shapes,.lst .lev z4.d.stack,.dead,.lst .ev z4.out];let z10:=(⟨1,0,0,u,[],0,0⟩:Ev);let z3:=Ao (⟨(⟨m.d.plan,2,[(⟨m.d.plan.root,u⟩:Lev)],(⟨0,0⟩:Scn),m.d.start,m.d.at_,m.d.field,m.d.wire,m.d.want,m.d.utf,m.d.end_⟩:Dcd),m.out++[z10]⟩:Mac);let z5:List Blk:=[.cells (Ab 4 5 6 z3),.dead,.dead,.dead,.tree z3.d.plan.shapes,.lst .lev z3.d.stack,.lst .ev z3.out];let z8:List Blk:=[.cells z2,.tree m.d.plan.shapes,.lst .lev m.d.stack,.dead,.lst .ev (m.out++[z10])];(.seg [.as 16 (.v (.c (.int .u64 m.d.plan.most)))] (.br (.seg [.call [0,1,2,3] (.tup []) z9,.at 0,.cut 0 0,.cut 0 5] (.leaf () [0,1,2,3,5,6,4])) (.seg [.as 27 (.v (vI u)),.call [0,1,2,3] (.tup []) z8,.as 39 (.v (vI u)),.ty .lev,.call [0,1,5,4] (.tup []) z5,.at 0,.kill 2] (.leaf () [0,1,2,3,6,7,8]))),(wU (m.d.plan.most))∧Bc (decide (m.d.plan.most<u)) ((Fp 101 [vP 0,vI 7,vI m.d.start] z6 (.tup []) z9)∧Lf (.tup []) (.tup []) [.cells (Ab 4 5 6 z4),.dead,.dead,.dead,.tree z4.d.plan.shapes,.lst .lev z4.d.stack,.lst .ev z4.out] z7) ((wI (u))∧(Fp 100 [vP 0,.agg [zi 1,zi 0,.int .u64 0,zi u,.str [],zi 0,zi 0]] z6 (.tup []) z8)∧(wI (u))∧(Fp 216 [vP 0] [.cells (.own 1::zi m.d.plan.root::zi m.d.plan.deep::zi m.d.plan.most::zi 2::z1),.tree m.d.plan.shapes,.lst .lev [(⟨m.d.plan.root,u⟩:Lev)],.lst .ev (m.out++[z10])] (.tup []) z5)∧Lf (.tup []) (.tup []) z5 z7))) Q4 ?_
 refine⟨(Bu Q2 Q2),dsp (fun h1 p1=>?_) fun h1 p1=>?_⟩
 refine zE (Ed m u) (A3 (⟨(⟨m.d.plan,m.d.mode,m.d.stack,(⟨0,0⟩:Scn),m.d.start,m.d.at_,m.d.field,m.d.wire,m.d.want,m.d.utf,m.d.end_⟩:Dcd),m.out⟩:Mac) 7 m.d.start) (fun hm1=>⟨(Ca (⟨(⟨m.d.plan,m.d.mode,m.d.stack,(⟨0,0⟩:Scn),m.d.start,m.d.at_,m.d.field,m.d.wire,m.d.want,m.d.utf,m.d.end_⟩:Dcd),m.out⟩:Mac) _ _ Q6),rfl,Q7⟩) ?_
 rotate_left
 refine zE (Ed m u) (Ao (⟨(⟨m.d.plan,2,[(⟨m.d.plan.root,u⟩:Lev)],(⟨0,0⟩:Scn),m.d.start,m.d.at_,m.d.field,m.d.wire,m.d.want,m.d.utf,m.d.end_⟩:Dcd),m.out++[(⟨1,0,0,u,[],0,0⟩:Ev)]⟩:Mac)) (fun hm1=>⟨(Af Q2 Q2),(Fk (⟨(⟨m.d.plan,m.d.mode,m.d.stack,(⟨0,0⟩:Scn),m.d.start,m.d.at_,m.d.field,m.d.wire,m.d.want,m.d.utf,m.d.end_⟩:Dcd),m.out⟩:Mac) (⟨1,0,0,u,[],0,0⟩:Ev) Q6),(Af Q2 Q2),(D8 (⟨(⟨m.d.plan,2,[(⟨m.d.plan.root,u⟩:Lev)],(⟨0,0⟩:Scn),m.d.start,m.d.at_,m.d.field,m.d.wire,m.d.want,m.d.utf,m.d.end_⟩:Dcd),m.out++[(⟨1,0,0,u,[],0,0⟩:Ev)]⟩:Mac) (Qf hp1 rfl rfl hp3.1 Q2) Q16),rfl,Q7⟩) ?_
 rotate_left
 all_goals first|(simp_all[Ed,A3,Gw,Agd,scn0];done)|(grind[Ed,A3,Gw,Agd,scn0])
theorem Ao7 (m:Mac) (u:Int) (hp1:Bv (m).d=true) (hp2:List.length (m).out≤100000000) (hp3:(0:Int)≤u∧u≤18446744073709551615):Fun Tryz.prog 266 [vP 0,.c (.int .u64 u)] [.cells (Ab 1 2 3 m),.tree m.d.plan.shapes,.lst .lev m.d.stack,.lst .ev m.out] (.tup []) [.cells (Ab 4 5 6 (Li m u)),.dead,.dead,.dead,.tree (Li m u).d.plan.shapes,.lst .lev (Li m u).d.stack,.lst .ev (Li m u).out]:=by
 have hN:Bk=274877906944:=rfl
 have hlv:=Co hp1
 have hpt:=B8 hlv.1
 have htb:=No hp1
 have hwm:=Ai5 m
 have htw:=Aoy u
 have hmx:max (Ak (Ah u)) 1=if 1>Ak (Ah u) then 1 else Ak (Ah u):=by split<;>omega
 refine Ar Tryz.func266 Q4 Q4 (w:=let zi:Int→C:= .int .i64;let z9:List C:=[zi m.d.want,zi m.d.utf.want,zi m.d.utf.low,zi m.d.utf.high,zi m.d.end_.kind,zi m.d.end_.field,.int .u64 m.d.end_.bits,zi m.d.end_.len,.str m.d.end_.text,zi m.d.end_.code,zi m.d.end_.at_,.own 3];let z8:List C:= .own 1::zi m.d.plan.root::zi m.d.plan.deep::zi m.d.plan.most::zi m.d.mode:: .own 2:: .int .u64 0::zi 0::zi m.d.start::zi m.d.at_::zi m.d.field.number::zi m.d.field.kind:: .bool m.d.field.rep:: .bool m.d.field.packed::zi m.d.field.msg::zi m.d.wire::z9;let z13:List Blk:=[.cells (Ab 4 5 6 (Li m u)),.dead,.dead,.dead,.tree (Li m u).d.plan.shapes,.lst .lev (Li m u).d.stack,.lst .ev (Li m u).out];let z15:=(⟨0,0⟩:Scn);let z12:=(⟨m.d.plan,m.d.mode,m.d.stack,z15,m.d.start,m.d.at_,m.d.field,m.d.wire,m.d.want,m.d.utf,m.d.end_⟩:Dcd);let z14:=A3 (⟨z12,m.out⟩:Mac) 2 m.d.start;let z16:=((List.length m.d.stack:Nat):Int);let z17:=A3 (⟨z12,m.out⟩:Mac) 3 m.d.start;let z18:=A3 (⟨z12,m.out⟩:Mac) 4 m.d.start;let z20:=Ah u;let z10:List C:=[zi z20,zi m.d.want,zi m.d.utf.want,zi m.d.utf.low,zi m.d.utf.high,zi m.d.end_.kind,zi m.d.end_.field,.int .u64 m.d.end_.bits,zi m.d.end_.len,.str m.d.end_.text,zi m.d.end_.code,zi m.d.end_.at_,.own 6];let z11:List C:=[zi z20,zi m.d.want,zi m.d.utf.want,zi m.d.utf.low,zi m.d.utf.high,zi m.d.end_.kind,zi m.d.end_.field,.int .u64 m.d.end_.bits,zi m.d.end_.len,.str m.d.end_.text,zi m.d.end_.code,zi m.d.end_.at_];let z19:=decide (Eb m.d<(if 1>(Ak z20) then 1 else Ak z20));let z21:List Blk:=[.cells (Ab 1 2 4 z14),.tree z14.d.plan.shapes,.lst .lev z14.d.stack,.dead,.lst .ev z14.out];let z22:S:= .v (vI (Ak z20));let z23:List Blk:=[.cells z8,.tree m.d.plan.shapes,.lst .lev m.d.stack,.lst .ev m.out];let z24:S:= .v (vI (Eb m.d));let z25:List Blk:=[.cells (Ab 4 5 6 z14),.dead,.dead,.dead,.tree z14.d.plan.shapes,.lst .lev z14.d.stack,.lst .ev z14.out];let z26:List V:=[vP 0,vI 9,vI m.d.at_];let z27:List Blk:=[.cells (Ab 1 2 4 z17),.tree z17.d.plan.shapes,.lst .lev z17.d.stack,.dead,.lst .ev z17.out];let z28:List Blk:=[.cells (Ab 1 2 4 z18),.tree z18.d.plan.shapes,.lst .lev z18.d.stack,.dead,.lst .ev z18.out];let z29:S:= .tup [vI (Bh u),vI z20,vB (Kk u)];let z30:=m.d.stack[Int.toNat (z16-1)]?;(.seg [.call [] z29 []] (.br (.seg [.call [0,1,2,3] (.tup []) z21,.at 0,.cut 0 0,.cut 0 5] (.leaf () [0,1,2,3,5,6,4])) (.br (.seg [.call [0,1,2,3] (.tup []) z21,.at 0,.cut 0 0,.cut 0 5] (.leaf () [0,1,2,3,5,6,4])) (.intro (Sx z30) fun x1=>let z4:=fieldAt m.d.plan.shapes x1.msg (Bh u);let z1:=A3 (⟨(⟨m.d.plan,3,m.d.stack,z15,m.d.start,m.d.at_,(z4.getD fld0),Ah u,m.d.want,m.d.utf,m.d.end_⟩:Dcd),m.out⟩:Mac) 9 m.d.at_;let z2:=A3 (⟨(⟨m.d.plan,4,m.d.stack,z15,m.d.start,m.d.at_,(z4.getD fld0),Ah u,m.d.want,m.d.utf,m.d.end_⟩:Dcd),m.out⟩:Mac) 9 m.d.at_;let z3:=A3 (⟨(⟨m.d.plan,5,m.d.stack,z15,m.d.start,m.d.at_,(z4.getD fld0),Ah u,m.d.want,m.d.utf,m.d.end_⟩:Dcd),m.out⟩:Mac) 9 m.d.at_;.seg [.tree (fr (.two 22 (fr (.one 26 (.one 27 (.first 28 (.done)))) 23 3) 26 (.one 22 (fr (.one 27 (.first 28 (.done))) 23 3))) 0 22) 29 [],.as 56 (.v (vI (z16-1))),.el .lev x1,.call [] (.tup [.agg (Fw (z4.getD fld0)),vB z4.isSome]) [],.at 0,.keep [0,5,7,8],.sel [0,1,2,3,4],.call [] (.tup [.agg (Fw (z4.getD fld0)),vB z4.isSome]) [],.at 0,.keep [0,5,7,8],.sel [0,1,2,3,4],.call [] (.v (vB (Dc z20))) []] (.br (.seg [.call [0,1,2,3] (.tup []) z27,.at 0,.cut 0 0,.cut 0 5] (.leaf () [0,1,2,3,6,7,5])) (.br (.seg [.call [] (.v (vB (Ds (z4.getD fld0) z20))) []] (.br (.seg [.call [0,1,2,3] (.tup []) z28,.at 0,.cut 0 0,.cut 0 5] (.leaf () [0,1,2,3,6,7,5])) (.br (.seg [.call [] z24 [],.call [] z22 []] (.br (.seg [.call [0,1,2,3] (.tup []) [.cells (Ab 1 2 4 z1),.tree z1.d.plan.shapes,.lst .lev z1.d.stack,.dead,.lst .ev z1.out],.at 0,.cut 0 0,.cut 0 5] (.leaf () [0,1,2,3,6,7,5])) (.seg [.at 0,.cut 0 0,.cut 0 5,.cut 0 27] (.leaf () [0,1,2,3,5,6,7])))) (.br (.seg [.call [] z24 [],.call [] z22 []] (.br (.seg [.call [0,1,2,3] (.tup []) [.cells (Ab 1 2 4 z2),.tree z2.d.plan.shapes,.lst .lev z2.d.stack,.dead,.lst .ev z2.out],.at 0,.cut 0 0,.cut 0 5] (.leaf () [0,1,2,3,6,7,5])) (.seg [.at 0,.cut 0 0,.cut 0 5,.cut 0 27] (.leaf () [0,1,2,3,5,6,7])))) (.seg [.call [] z24 [],.call [] z22 []] (.br (.seg [.call [0,1,2,3] (.tup []) [.cells (Ab 1 2 4 z3),.tree z3.d.plan.shapes,.lst .lev z3.d.stack,.dead,.lst .ev z3.out],.at 0,.cut 0 0,.cut 0 5] (.leaf () [0,1,2,3,6,7,5])) (.seg [.at 0,.cut 0 0,.cut 0 5,.cut 0 27] (.leaf () [0,1,2,3,5,6,7])))))))) (.br (.seg [.call [] z24 [],.call [] z22 []] (.br (.seg [.call [0,1,2,3] (.tup []) [.cells (Ab 1 2 4 z1),.tree z1.d.plan.shapes,.lst .lev z1.d.stack,.dead,.lst .ev z1.out],.at 0,.cut 0 0,.cut 0 5] (.leaf () [0,1,2,3,6,7,5])) (.seg [.at 0,.cut 0 0,.cut 0 5,.cut 0 27] (.leaf () [0,1,2,3,5,6,7])))) (.br (.seg [.call [] z24 [],.call [] z22 []] (.br (.seg [.call [0,1,2,3] (.tup []) [.cells (Ab 1 2 4 z2),.tree z2.d.plan.shapes,.lst .lev z2.d.stack,.dead,.lst .ev z2.out],.at 0,.cut 0 0,.cut 0 5] (.leaf () [0,1,2,3,6,7,5])) (.seg [.at 0,.cut 0 0,.cut 0 5,.cut 0 27] (.leaf () [0,1,2,3,5,6,7])))) (.seg [.call [] z24 [],.call [] z22 []] (.br (.seg [.call [0,1,2,3] (.tup []) [.cells (Ab 1 2 4 z3),.tree z3.d.plan.shapes,.lst .lev z3.d.stack,.dead,.lst .ev z3.out],.at 0,.cut 0 0,.cut 0 5] (.leaf () [0,1,2,3,6,7,5])) (.seg [.at 0,.cut 0 0,.cut 0 5,.cut 0 27] (.leaf () [0,1,2,3,5,6,7]))))))))))),(Fp 120 [.c (.int .u64 u)] [] z29 [])∧Bc (!(Kk u)) ((Fp 101 [vP 0,vI 2,vI m.d.start] z23 (.tup []) z21)∧Lf (.tup []) (.tup []) z25 z13) (Bc (decide (z16=0)) ((Fp 101 [vP 0,vI 2,vI m.d.start] z23 (.tup []) z21)∧Lf (.tup []) (.tup []) z25 z13) (El z30 fun x1=>(let z6:=fieldAt m.d.plan.shapes x1.msg (Bh u);let z5:=z6.getD fld0;let z7:=m.d.stack[Int.toNat (z16-1)]? =some x1;(wI (z16-1))∧(wI (z16-1))∧(z16-1<z16)∧((0:Int)≤z16-1)∧(z16-1<z16)∧((0:Int)≤z16-1)∧z7∧z7∧(Fp 121 [.agg [.seq .shp m.d.plan.shapes],vI x1.msg,vI (Bh u)] [] (.tup [.agg (Fw z5),vB z6.isSome]) [])∧(Fp 121 [.agg [.seq .shp m.d.plan.shapes],vI x1.msg,vI (Bh u)] [] (.tup [.agg (Fw z5),vB z6.isSome]) [])∧(([.cells z8,.tree m.d.plan.shapes,.lst .lev m.d.stack,.lst .ev m.out,.cells (Fw z5)]:List Blk)=[.cells z8,.tree m.d.plan.shapes,.lst .lev m.d.stack,.lst .ev m.out,.cells (Fw z5)])∧(([(0,.v (vP 0)),(5,.v (vI z20)),(7,.v (vP 4)),(8,.v (vB z6.isSome))]:List (Nat×S))=[(0,.v (vP 0)),(5,.v (vI z20)),(7,.v (vP 4)),(8,.v (vB z6.isSome))])∧(Fp 122 [vI z20] [] (.v (vB (Dc z20))) [])∧Bc (!(Dc z20)) ((Fp 101 [vP 0,vI 3,vI m.d.start] z23 (.tup []) z27)∧Lf (.tup []) (.tup []) [.cells (Ab 4 5 6 z17),.dead,.dead,.dead,.tree z17.d.plan.shapes,.lst .lev z17.d.stack,.lst .ev z17.out] z13) (Bc (z6.isSome) ((Fp 123 [.agg (Fw z5),vI z20] [] (.v (vB (Ds z5 z20))) [])∧Bc (!(Ds z5 z20)) ((Fp 101 [vP 0,vI 4,vI m.d.start] z23 (.tup []) z28)∧Lf (.tup []) (.tup []) [.cells (Ab 4 5 6 z18),.dead,.dead,.dead,.tree z18.d.plan.shapes,.lst .lev z18.d.stack,.lst .ev z18.out] z13) (Bc (decide (Ah u=0)) ((Fp 152 [.agg (.seq .shp m.d.plan.shapes::zi m.d.plan.root::zi m.d.plan.deep::zi m.d.plan.most::zi 3:: .seq .lev m.d.stack:: .int .u64 0::zi 0::zi m.d.start::zi m.d.at_::zi z5.number::zi z5.kind:: .bool z5.rep:: .bool z5.packed::zi z5.msg::z11)] [] z24 [])∧(Fp 189 [vI z20] [] z22 [])∧Bc z19 ((Fp 101 z26 [.cells (.own 1::zi m.d.plan.root::zi m.d.plan.deep::zi m.d.plan.most::zi 3:: .own 2:: .int .u64 0::zi 0::zi m.d.start::zi m.d.at_::zi z5.number::zi z5.kind:: .bool z5.rep:: .bool z5.packed::zi z5.msg::zi z20::z9),.tree m.d.plan.shapes,.lst .lev m.d.stack,.lst .ev m.out] (.tup []) [.cells (Ab 1 2 4 (A3 (⟨(⟨m.d.plan,3,m.d.stack,z15,m.d.start,m.d.at_,z5,Ah u,m.d.want,m.d.utf,m.d.end_⟩:Dcd),m.out⟩:Mac) 9 m.d.at_)),.tree (A3 (⟨(⟨m.d.plan,3,m.d.stack,z15,m.d.start,m.d.at_,z5,Ah u,m.d.want,m.d.utf,m.d.end_⟩:Dcd),m.out⟩:Mac) 9 m.d.at_).d.plan.shapes,.lst .lev (A3 (⟨(⟨m.d.plan,3,m.d.stack,z15,m.d.start,m.d.at_,z5,Ah u,m.d.want,m.d.utf,m.d.end_⟩:Dcd),m.out⟩:Mac) 9 m.d.at_).d.stack,.dead,.lst .ev (A3 (⟨(⟨m.d.plan,3,m.d.stack,z15,m.d.start,m.d.at_,z5,Ah u,m.d.want,m.d.utf,m.d.end_⟩:Dcd),m.out⟩:Mac) 9 m.d.at_).out])∧Lf (.tup []) (.tup []) [.cells (Ab 4 5 6 (A3 (⟨(⟨m.d.plan,3,m.d.stack,z15,m.d.start,m.d.at_,z5,Ah u,m.d.want,m.d.utf,m.d.end_⟩:Dcd),m.out⟩:Mac) 9 m.d.at_)),.dead,.dead,.dead,.tree (A3 (⟨(⟨m.d.plan,3,m.d.stack,z15,m.d.start,m.d.at_,z5,Ah u,m.d.want,m.d.utf,m.d.end_⟩:Dcd),m.out⟩:Mac) 9 m.d.at_).d.plan.shapes,.lst .lev (A3 (⟨(⟨m.d.plan,3,m.d.stack,z15,m.d.start,m.d.at_,z5,Ah u,m.d.want,m.d.utf,m.d.end_⟩:Dcd),m.out⟩:Mac) 9 m.d.at_).d.stack,.lst .ev (A3 (⟨(⟨m.d.plan,3,m.d.stack,z15,m.d.start,m.d.at_,z5,Ah u,m.d.want,m.d.utf,m.d.end_⟩:Dcd),m.out⟩:Mac) 9 m.d.at_).out] z13) (Lf (.tup []) (.tup []) [.cells (.own 4::zi m.d.plan.root::zi m.d.plan.deep::zi m.d.plan.most::zi 3:: .own 5:: .int .u64 0::zi 0::zi m.d.start::zi m.d.at_::zi z5.number::zi z5.kind:: .bool z5.rep:: .bool z5.packed::zi z5.msg::z10),.dead,.dead,.dead,.tree m.d.plan.shapes,.lst .lev m.d.stack,.lst .ev m.out] z13)) (Bc (decide (Ah u=2)) ((Fp 152 [.agg (.seq .shp m.d.plan.shapes::zi m.d.plan.root::zi m.d.plan.deep::zi m.d.plan.most::zi 4:: .seq .lev m.d.stack:: .int .u64 0::zi 0::zi m.d.start::zi m.d.at_::zi z5.number::zi z5.kind:: .bool z5.rep:: .bool z5.packed::zi z5.msg::z11)] [] z24 [])∧(Fp 189 [vI z20] [] z22 [])∧Bc z19 ((Fp 101 z26 [.cells (.own 1::zi m.d.plan.root::zi m.d.plan.deep::zi m.d.plan.most::zi 4:: .own 2:: .int .u64 0::zi 0::zi m.d.start::zi m.d.at_::zi z5.number::zi z5.kind:: .bool z5.rep:: .bool z5.packed::zi z5.msg::zi z20::z9),.tree m.d.plan.shapes,.lst .lev m.d.stack,.lst .ev m.out] (.tup []) [.cells (Ab 1 2 4 (A3 (⟨(⟨m.d.plan,4,m.d.stack,z15,m.d.start,m.d.at_,z5,Ah u,m.d.want,m.d.utf,m.d.end_⟩:Dcd),m.out⟩:Mac) 9 m.d.at_)),.tree (A3 (⟨(⟨m.d.plan,4,m.d.stack,z15,m.d.start,m.d.at_,z5,Ah u,m.d.want,m.d.utf,m.d.end_⟩:Dcd),m.out⟩:Mac) 9 m.d.at_).d.plan.shapes,.lst .lev (A3 (⟨(⟨m.d.plan,4,m.d.stack,z15,m.d.start,m.d.at_,z5,Ah u,m.d.want,m.d.utf,m.d.end_⟩:Dcd),m.out⟩:Mac) 9 m.d.at_).d.stack,.dead,.lst .ev (A3 (⟨(⟨m.d.plan,4,m.d.stack,z15,m.d.start,m.d.at_,z5,Ah u,m.d.want,m.d.utf,m.d.end_⟩:Dcd),m.out⟩:Mac) 9 m.d.at_).out])∧Lf (.tup []) (.tup []) [.cells (Ab 4 5 6 (A3 (⟨(⟨m.d.plan,4,m.d.stack,z15,m.d.start,m.d.at_,z5,Ah u,m.d.want,m.d.utf,m.d.end_⟩:Dcd),m.out⟩:Mac) 9 m.d.at_)),.dead,.dead,.dead,.tree (A3 (⟨(⟨m.d.plan,4,m.d.stack,z15,m.d.start,m.d.at_,z5,Ah u,m.d.want,m.d.utf,m.d.end_⟩:Dcd),m.out⟩:Mac) 9 m.d.at_).d.plan.shapes,.lst .lev (A3 (⟨(⟨m.d.plan,4,m.d.stack,z15,m.d.start,m.d.at_,z5,Ah u,m.d.want,m.d.utf,m.d.end_⟩:Dcd),m.out⟩:Mac) 9 m.d.at_).d.stack,.lst .ev (A3 (⟨(⟨m.d.plan,4,m.d.stack,z15,m.d.start,m.d.at_,z5,Ah u,m.d.want,m.d.utf,m.d.end_⟩:Dcd),m.out⟩:Mac) 9 m.d.at_).out] z13) (Lf (.tup []) (.tup []) [.cells (.own 4::zi m.d.plan.root::zi m.d.plan.deep::zi m.d.plan.most::zi 4:: .own 5:: .int .u64 0::zi 0::zi m.d.start::zi m.d.at_::zi z5.number::zi z5.kind:: .bool z5.rep:: .bool z5.packed::zi z5.msg::z10),.dead,.dead,.dead,.tree m.d.plan.shapes,.lst .lev m.d.stack,.lst .ev m.out] z13)) ((Fp 152 [.agg (.seq .shp m.d.plan.shapes::zi m.d.plan.root::zi m.d.plan.deep::zi m.d.plan.most::zi 5:: .seq .lev m.d.stack:: .int .u64 0::zi 0::zi m.d.start::zi m.d.at_::zi z5.number::zi z5.kind:: .bool z5.rep:: .bool z5.packed::zi z5.msg::z11)] [] z24 [])∧(Fp 189 [vI z20] [] z22 [])∧Bc z19 ((Fp 101 z26 [.cells (.own 1::zi m.d.plan.root::zi m.d.plan.deep::zi m.d.plan.most::zi 5:: .own 2:: .int .u64 0::zi 0::zi m.d.start::zi m.d.at_::zi z5.number::zi z5.kind:: .bool z5.rep:: .bool z5.packed::zi z5.msg::zi z20::z9),.tree m.d.plan.shapes,.lst .lev m.d.stack,.lst .ev m.out] (.tup []) [.cells (Ab 1 2 4 (A3 (⟨(⟨m.d.plan,5,m.d.stack,z15,m.d.start,m.d.at_,z5,Ah u,m.d.want,m.d.utf,m.d.end_⟩:Dcd),m.out⟩:Mac) 9 m.d.at_)),.tree (A3 (⟨(⟨m.d.plan,5,m.d.stack,z15,m.d.start,m.d.at_,z5,Ah u,m.d.want,m.d.utf,m.d.end_⟩:Dcd),m.out⟩:Mac) 9 m.d.at_).d.plan.shapes,.lst .lev (A3 (⟨(⟨m.d.plan,5,m.d.stack,z15,m.d.start,m.d.at_,z5,Ah u,m.d.want,m.d.utf,m.d.end_⟩:Dcd),m.out⟩:Mac) 9 m.d.at_).d.stack,.dead,.lst .ev (A3 (⟨(⟨m.d.plan,5,m.d.stack,z15,m.d.start,m.d.at_,z5,Ah u,m.d.want,m.d.utf,m.d.end_⟩:Dcd),m.out⟩:Mac) 9 m.d.at_).out])∧Lf (.tup []) (.tup []) [.cells (Ab 4 5 6 (A3 (⟨(⟨m.d.plan,5,m.d.stack,z15,m.d.start,m.d.at_,z5,Ah u,m.d.want,m.d.utf,m.d.end_⟩:Dcd),m.out⟩:Mac) 9 m.d.at_)),.dead,.dead,.dead,.tree (A3 (⟨(⟨m.d.plan,5,m.d.stack,z15,m.d.start,m.d.at_,z5,Ah u,m.d.want,m.d.utf,m.d.end_⟩:Dcd),m.out⟩:Mac) 9 m.d.at_).d.plan.shapes,.lst .lev (A3 (⟨(⟨m.d.plan,5,m.d.stack,z15,m.d.start,m.d.at_,z5,Ah u,m.d.want,m.d.utf,m.d.end_⟩:Dcd),m.out⟩:Mac) 9 m.d.at_).d.stack,.lst .ev (A3 (⟨(⟨m.d.plan,5,m.d.stack,z15,m.d.start,m.d.at_,z5,Ah u,m.d.want,m.d.utf,m.d.end_⟩:Dcd),m.out⟩:Mac) 9 m.d.at_).out] z13) (Lf (.tup []) (.tup []) [.cells (.own 4::zi m.d.plan.root::zi m.d.plan.deep::zi m.d.plan.most::zi 5:: .own 5:: .int .u64 0::zi 0::zi m.d.start::zi m.d.at_::zi z5.number::zi z5.kind:: .bool z5.rep:: .bool z5.packed::zi z5.msg::z10),.dead,.dead,.dead,.tree m.d.plan.shapes,.lst .lev m.d.stack,.lst .ev m.out] z13))))) (Bc (decide (Ah u=0)) ((Fp 152 [.agg (.seq .shp m.d.plan.shapes::zi m.d.plan.root::zi m.d.plan.deep::zi m.d.plan.most::zi 3:: .seq .lev m.d.stack:: .int .u64 0::zi 0::zi m.d.start::zi m.d.at_::zi z5.number::zi z5.kind:: .bool z5.rep:: .bool z5.packed::zi z5.msg::z11)] [] z24 [])∧(Fp 189 [vI z20] [] z22 [])∧Bc z19 ((Fp 101 z26 [.cells (.own 1::zi m.d.plan.root::zi m.d.plan.deep::zi m.d.plan.most::zi 3:: .own 2:: .int .u64 0::zi 0::zi m.d.start::zi m.d.at_::zi z5.number::zi z5.kind:: .bool z5.rep:: .bool z5.packed::zi z5.msg::zi z20::z9),.tree m.d.plan.shapes,.lst .lev m.d.stack,.lst .ev m.out] (.tup []) [.cells (Ab 1 2 4 (A3 (⟨(⟨m.d.plan,3,m.d.stack,z15,m.d.start,m.d.at_,z5,Ah u,m.d.want,m.d.utf,m.d.end_⟩:Dcd),m.out⟩:Mac) 9 m.d.at_)),.tree (A3 (⟨(⟨m.d.plan,3,m.d.stack,z15,m.d.start,m.d.at_,z5,Ah u,m.d.want,m.d.utf,m.d.end_⟩:Dcd),m.out⟩:Mac) 9 m.d.at_).d.plan.shapes,.lst .lev (A3 (⟨(⟨m.d.plan,3,m.d.stack,z15,m.d.start,m.d.at_,z5,Ah u,m.d.want,m.d.utf,m.d.end_⟩:Dcd),m.out⟩:Mac) 9 m.d.at_).d.stack,.dead,.lst .ev (A3 (⟨(⟨m.d.plan,3,m.d.stack,z15,m.d.start,m.d.at_,z5,Ah u,m.d.want,m.d.utf,m.d.end_⟩:Dcd),m.out⟩:Mac) 9 m.d.at_).out])∧Lf (.tup []) (.tup []) [.cells (Ab 4 5 6 (A3 (⟨(⟨m.d.plan,3,m.d.stack,z15,m.d.start,m.d.at_,z5,Ah u,m.d.want,m.d.utf,m.d.end_⟩:Dcd),m.out⟩:Mac) 9 m.d.at_)),.dead,.dead,.dead,.tree (A3 (⟨(⟨m.d.plan,3,m.d.stack,z15,m.d.start,m.d.at_,z5,Ah u,m.d.want,m.d.utf,m.d.end_⟩:Dcd),m.out⟩:Mac) 9 m.d.at_).d.plan.shapes,.lst .lev (A3 (⟨(⟨m.d.plan,3,m.d.stack,z15,m.d.start,m.d.at_,z5,Ah u,m.d.want,m.d.utf,m.d.end_⟩:Dcd),m.out⟩:Mac) 9 m.d.at_).d.stack,.lst .ev (A3 (⟨(⟨m.d.plan,3,m.d.stack,z15,m.d.start,m.d.at_,z5,Ah u,m.d.want,m.d.utf,m.d.end_⟩:Dcd),m.out⟩:Mac) 9 m.d.at_).out] z13) (Lf (.tup []) (.tup []) [.cells (.own 4::zi m.d.plan.root::zi m.d.plan.deep::zi m.d.plan.most::zi 3:: .own 5:: .int .u64 0::zi 0::zi m.d.start::zi m.d.at_::zi z5.number::zi z5.kind:: .bool z5.rep:: .bool z5.packed::zi z5.msg::z10),.dead,.dead,.dead,.tree m.d.plan.shapes,.lst .lev m.d.stack,.lst .ev m.out] z13)) (Bc (decide (Ah u=2)) ((Fp 152 [.agg (.seq .shp m.d.plan.shapes::zi m.d.plan.root::zi m.d.plan.deep::zi m.d.plan.most::zi 4:: .seq .lev m.d.stack:: .int .u64 0::zi 0::zi m.d.start::zi m.d.at_::zi z5.number::zi z5.kind:: .bool z5.rep:: .bool z5.packed::zi z5.msg::z11)] [] z24 [])∧(Fp 189 [vI z20] [] z22 [])∧Bc z19 ((Fp 101 z26 [.cells (.own 1::zi m.d.plan.root::zi m.d.plan.deep::zi m.d.plan.most::zi 4:: .own 2:: .int .u64 0::zi 0::zi m.d.start::zi m.d.at_::zi z5.number::zi z5.kind:: .bool z5.rep:: .bool z5.packed::zi z5.msg::zi z20::z9),.tree m.d.plan.shapes,.lst .lev m.d.stack,.lst .ev m.out] (.tup []) [.cells (Ab 1 2 4 (A3 (⟨(⟨m.d.plan,4,m.d.stack,z15,m.d.start,m.d.at_,z5,Ah u,m.d.want,m.d.utf,m.d.end_⟩:Dcd),m.out⟩:Mac) 9 m.d.at_)),.tree (A3 (⟨(⟨m.d.plan,4,m.d.stack,z15,m.d.start,m.d.at_,z5,Ah u,m.d.want,m.d.utf,m.d.end_⟩:Dcd),m.out⟩:Mac) 9 m.d.at_).d.plan.shapes,.lst .lev (A3 (⟨(⟨m.d.plan,4,m.d.stack,z15,m.d.start,m.d.at_,z5,Ah u,m.d.want,m.d.utf,m.d.end_⟩:Dcd),m.out⟩:Mac) 9 m.d.at_).d.stack,.dead,.lst .ev (A3 (⟨(⟨m.d.plan,4,m.d.stack,z15,m.d.start,m.d.at_,z5,Ah u,m.d.want,m.d.utf,m.d.end_⟩:Dcd),m.out⟩:Mac) 9 m.d.at_).out])∧Lf (.tup []) (.tup []) [.cells (Ab 4 5 6 (A3 (⟨(⟨m.d.plan,4,m.d.stack,z15,m.d.start,m.d.at_,z5,Ah u,m.d.want,m.d.utf,m.d.end_⟩:Dcd),m.out⟩:Mac) 9 m.d.at_)),.dead,.dead,.dead,.tree (A3 (⟨(⟨m.d.plan,4,m.d.stack,z15,m.d.start,m.d.at_,z5,Ah u,m.d.want,m.d.utf,m.d.end_⟩:Dcd),m.out⟩:Mac) 9 m.d.at_).d.plan.shapes,.lst .lev (A3 (⟨(⟨m.d.plan,4,m.d.stack,z15,m.d.start,m.d.at_,z5,Ah u,m.d.want,m.d.utf,m.d.end_⟩:Dcd),m.out⟩:Mac) 9 m.d.at_).d.stack,.lst .ev (A3 (⟨(⟨m.d.plan,4,m.d.stack,z15,m.d.start,m.d.at_,z5,Ah u,m.d.want,m.d.utf,m.d.end_⟩:Dcd),m.out⟩:Mac) 9 m.d.at_).out] z13) (Lf (.tup []) (.tup []) [.cells (.own 4::zi m.d.plan.root::zi m.d.plan.deep::zi m.d.plan.most::zi 4:: .own 5:: .int .u64 0::zi 0::zi m.d.start::zi m.d.at_::zi z5.number::zi z5.kind:: .bool z5.rep:: .bool z5.packed::zi z5.msg::z10),.dead,.dead,.dead,.tree m.d.plan.shapes,.lst .lev m.d.stack,.lst .ev m.out] z13)) ((Fp 152 [.agg (.seq .shp m.d.plan.shapes::zi m.d.plan.root::zi m.d.plan.deep::zi m.d.plan.most::zi 5:: .seq .lev m.d.stack:: .int .u64 0::zi 0::zi m.d.start::zi m.d.at_::zi z5.number::zi z5.kind:: .bool z5.rep:: .bool z5.packed::zi z5.msg::z11)] [] z24 [])∧(Fp 189 [vI z20] [] z22 [])∧Bc z19 ((Fp 101 z26 [.cells (.own 1::zi m.d.plan.root::zi m.d.plan.deep::zi m.d.plan.most::zi 5:: .own 2:: .int .u64 0::zi 0::zi m.d.start::zi m.d.at_::zi z5.number::zi z5.kind:: .bool z5.rep:: .bool z5.packed::zi z5.msg::zi z20::z9),.tree m.d.plan.shapes,.lst .lev m.d.stack,.lst .ev m.out] (.tup []) [.cells (Ab 1 2 4 (A3 (⟨(⟨m.d.plan,5,m.d.stack,z15,m.d.start,m.d.at_,z5,Ah u,m.d.want,m.d.utf,m.d.end_⟩:Dcd),m.out⟩:Mac) 9 m.d.at_)),.tree (A3 (⟨(⟨m.d.plan,5,m.d.stack,z15,m.d.start,m.d.at_,z5,Ah u,m.d.want,m.d.utf,m.d.end_⟩:Dcd),m.out⟩:Mac) 9 m.d.at_).d.plan.shapes,.lst .lev (A3 (⟨(⟨m.d.plan,5,m.d.stack,z15,m.d.start,m.d.at_,z5,Ah u,m.d.want,m.d.utf,m.d.end_⟩:Dcd),m.out⟩:Mac) 9 m.d.at_).d.stack,.dead,.lst .ev (A3 (⟨(⟨m.d.plan,5,m.d.stack,z15,m.d.start,m.d.at_,z5,Ah u,m.d.want,m.d.utf,m.d.end_⟩:Dcd),m.out⟩:Mac) 9 m.d.at_).out])∧Lf (.tup []) (.tup []) [.cells (Ab 4 5 6 (A3 (⟨(⟨m.d.plan,5,m.d.stack,z15,m.d.start,m.d.at_,z5,Ah u,m.d.want,m.d.utf,m.d.end_⟩:Dcd),m.out⟩:Mac) 9 m.d.at_)),.dead,.dead,.dead,.tree (A3 (⟨(⟨m.d.plan,5,m.d.stack,z15,m.d.start,m.d.at_,z5,Ah u,m.d.want,m.d.utf,m.d.end_⟩:Dcd),m.out⟩:Mac) 9 m.d.at_).d.plan.shapes,.lst .lev (A3 (⟨(⟨m.d.plan,5,m.d.stack,z15,m.d.start,m.d.at_,z5,Ah u,m.d.want,m.d.utf,m.d.end_⟩:Dcd),m.out⟩:Mac) 9 m.d.at_).d.stack,.lst .ev (A3 (⟨(⟨m.d.plan,5,m.d.stack,z15,m.d.start,m.d.at_,z5,Ah u,m.d.want,m.d.utf,m.d.end_⟩:Dcd),m.out⟩:Mac) 9 m.d.at_).out] z13) (Lf (.tup []) (.tup []) [.cells (.own 4::zi m.d.plan.root::zi m.d.plan.deep::zi m.d.plan.most::zi 5:: .own 5:: .int .u64 0::zi 0::zi m.d.start::zi m.d.at_::zi z5.number::zi z5.kind:: .bool z5.rep:: .bool z5.packed::zi z5.msg::z10),.dead,.dead,.dead,.tree m.d.plan.shapes,.lst .lev m.d.stack,.lst .ev m.out] z13)))))))))) Q4 ?_
 refine⟨(Am6 _ Q2),fun h1=>have q1:=Aq h1;?_,fun h1=>have q1:=Ap h1;?_⟩
 refine zE (Li m u) (A3 (⟨(⟨m.d.plan,m.d.mode,m.d.stack,(⟨0,0⟩:Scn),m.d.start,m.d.at_,m.d.field,m.d.wire,m.d.want,m.d.utf,m.d.end_⟩:Dcd),m.out⟩:Mac) 2 m.d.start) (fun hm1=>⟨(Ca (⟨(⟨m.d.plan,m.d.mode,m.d.stack,(⟨0,0⟩:Scn),m.d.start,m.d.at_,m.d.field,m.d.wire,m.d.want,m.d.utf,m.d.end_⟩:Dcd),m.out⟩:Mac) _ _ Q6),rfl,Q7⟩) ?_
 rotate_left
 refine dsp (fun h2 p2=>?_) fun h2 p2=>?_
 refine zE (Li m u) (A3 (⟨(⟨m.d.plan,m.d.mode,m.d.stack,(⟨0,0⟩:Scn),m.d.start,m.d.at_,m.d.field,m.d.wire,m.d.want,m.d.utf,m.d.end_⟩:Dcd),m.out⟩:Mac) 2 m.d.start) (fun hm1=>⟨(Ca (⟨(⟨m.d.plan,m.d.mode,m.d.stack,(⟨0,0⟩:Scn),m.d.start,m.d.at_,m.d.field,m.d.wire,m.d.want,m.d.utf,m.d.end_⟩:Dcd),m.out⟩:Mac) _ _ Q6),rfl,Q7⟩) ?_
 rotate_left
 refine⟨(Bp (l:=m.d.stack) (i:=Int.toNat (((List.length m.d.stack:Nat):Int)-1)) Q2),fun x1 hx1=>?_⟩
 have hll:=Yh (d:=m.d) (by rw[←hx1];congr 1;omega)
 have hix:Int.toNat ((m.d.stack.length:Int)-1)=m.d.stack.length-1:=by omega
 refine⟨(Af Q2 Q2),(Af Q2 Q2),Q2,Q2,Q2,Q2,hx1,hx1,(Vk m.d.plan.shapes _ _ Q2 (Ff hpt.2.1)),(Vk m.d.plan.shapes _ _ Q2 (Ff hpt.2.1)),rfl,rfl,(Acp _),fun h3=>have q3:=Aq h3;?_,fun h3=>have q3:=Ap h3;?_⟩
 refine zE (Li m u) (A3 (⟨(⟨m.d.plan,m.d.mode,m.d.stack,(⟨0,0⟩:Scn),m.d.start,m.d.at_,m.d.field,m.d.wire,m.d.want,m.d.utf,m.d.end_⟩:Dcd),m.out⟩:Mac) 3 m.d.start) (fun hm1=>⟨(Ca (⟨(⟨m.d.plan,m.d.mode,m.d.stack,(⟨0,0⟩:Scn),m.d.start,m.d.at_,m.d.field,m.d.wire,m.d.want,m.d.utf,m.d.end_⟩:Dcd),m.out⟩:Mac) _ _ Q6),rfl,Q7⟩) ?_
 rotate_left
 refine⟨fun h4=>?_,fun h4=>?_⟩
 refine⟨(J5 ((fieldAt m.d.plan.shapes x1.msg (Bh u)).getD fld0) _ Q2),fun h5=>have q5:=Aq h5;?_,fun h5=>have q5:=Ap h5;?_⟩
 refine zE (Li m u) (A3 (⟨(⟨m.d.plan,m.d.mode,m.d.stack,(⟨0,0⟩:Scn),m.d.start,m.d.at_,m.d.field,m.d.wire,m.d.want,m.d.utf,m.d.end_⟩:Dcd),m.out⟩:Mac) 4 m.d.start) (fun hm1=>⟨(Ca (⟨(⟨m.d.plan,m.d.mode,m.d.stack,(⟨0,0⟩:Scn),m.d.start,m.d.at_,m.d.field,m.d.wire,m.d.want,m.d.utf,m.d.end_⟩:Dcd),m.out⟩:Mac) _ _ Q6),rfl,Q7⟩) ?_
 rotate_left
 refine dsp (fun h6 p6=>?_) fun h6 p6=>?_
 refine⟨(Dz (⟨m.d.plan,3,m.d.stack,(⟨0,0⟩:Scn),m.d.start,m.d.at_,((fieldAt m.d.plan.shapes x1.msg (Bh u)).getD fld0),Ah u,m.d.want,m.d.utf,m.d.end_⟩:Dcd) Q6),(Fi _),dsp (fun h7 p7=>?_) fun h7 p7=>?_⟩
 refine zE (Li m u) (A3 (⟨(⟨m.d.plan,3,m.d.stack,(⟨0,0⟩:Scn),m.d.start,m.d.at_,((fieldAt m.d.plan.shapes x1.msg (Bh u)).getD fld0),Ah u,m.d.want,m.d.utf,m.d.end_⟩:Dcd),m.out⟩:Mac) 9 m.d.at_) (fun hm1=>⟨(Ca (⟨(⟨m.d.plan,3,m.d.stack,(⟨0,0⟩:Scn),m.d.start,m.d.at_,((fieldAt m.d.plan.shapes x1.msg (Bh u)).getD fld0),Ah u,m.d.want,m.d.utf,m.d.end_⟩:Dcd),m.out⟩:Mac) _ _ Q6),rfl,Q7⟩) ?_
 rotate_left
 refine zE (Li m u) (⟨(⟨m.d.plan,3,m.d.stack,(⟨0,0⟩:Scn),m.d.start,m.d.at_,((fieldAt m.d.plan.shapes x1.msg (Bh u)).getD fld0),Ah u,m.d.want,m.d.utf,m.d.end_⟩:Dcd),m.out⟩:Mac) (fun hm1=>⟨rfl,Q7⟩) ?_
 rotate_left
 refine dsp (fun h7 p7=>?_) fun h7 p7=>?_
 refine⟨(Dz (⟨m.d.plan,4,m.d.stack,(⟨0,0⟩:Scn),m.d.start,m.d.at_,((fieldAt m.d.plan.shapes x1.msg (Bh u)).getD fld0),Ah u,m.d.want,m.d.utf,m.d.end_⟩:Dcd) Q6),(Fi _),dsp (fun h8 p8=>?_) fun h8 p8=>?_⟩
 refine zE (Li m u) (A3 (⟨(⟨m.d.plan,4,m.d.stack,(⟨0,0⟩:Scn),m.d.start,m.d.at_,((fieldAt m.d.plan.shapes x1.msg (Bh u)).getD fld0),Ah u,m.d.want,m.d.utf,m.d.end_⟩:Dcd),m.out⟩:Mac) 9 m.d.at_) (fun hm1=>⟨(Ca (⟨(⟨m.d.plan,4,m.d.stack,(⟨0,0⟩:Scn),m.d.start,m.d.at_,((fieldAt m.d.plan.shapes x1.msg (Bh u)).getD fld0),Ah u,m.d.want,m.d.utf,m.d.end_⟩:Dcd),m.out⟩:Mac) _ _ Q6),rfl,Q7⟩) ?_
 rotate_left
 refine zE (Li m u) (⟨(⟨m.d.plan,4,m.d.stack,(⟨0,0⟩:Scn),m.d.start,m.d.at_,((fieldAt m.d.plan.shapes x1.msg (Bh u)).getD fld0),Ah u,m.d.want,m.d.utf,m.d.end_⟩:Dcd),m.out⟩:Mac) (fun hm1=>⟨rfl,Q7⟩) ?_
 rotate_left
 refine⟨(Dz (⟨m.d.plan,5,m.d.stack,(⟨0,0⟩:Scn),m.d.start,m.d.at_,((fieldAt m.d.plan.shapes x1.msg (Bh u)).getD fld0),Ah u,m.d.want,m.d.utf,m.d.end_⟩:Dcd) Q6),(Fi _),dsp (fun h8 p8=>?_) fun h8 p8=>?_⟩
 refine zE (Li m u) (A3 (⟨(⟨m.d.plan,5,m.d.stack,(⟨0,0⟩:Scn),m.d.start,m.d.at_,((fieldAt m.d.plan.shapes x1.msg (Bh u)).getD fld0),Ah u,m.d.want,m.d.utf,m.d.end_⟩:Dcd),m.out⟩:Mac) 9 m.d.at_) (fun hm1=>⟨(Ca (⟨(⟨m.d.plan,5,m.d.stack,(⟨0,0⟩:Scn),m.d.start,m.d.at_,((fieldAt m.d.plan.shapes x1.msg (Bh u)).getD fld0),Ah u,m.d.want,m.d.utf,m.d.end_⟩:Dcd),m.out⟩:Mac) _ _ Q6),rfl,Q7⟩) ?_
 rotate_left
 refine zE (Li m u) (⟨(⟨m.d.plan,5,m.d.stack,(⟨0,0⟩:Scn),m.d.start,m.d.at_,((fieldAt m.d.plan.shapes x1.msg (Bh u)).getD fld0),Ah u,m.d.want,m.d.utf,m.d.end_⟩:Dcd),m.out⟩:Mac) (fun hm1=>⟨rfl,Q7⟩) ?_
 rotate_left
 refine dsp (fun h5 p5=>?_) fun h5 p5=>?_
 refine⟨(Dz (⟨m.d.plan,3,m.d.stack,(⟨0,0⟩:Scn),m.d.start,m.d.at_,((fieldAt m.d.plan.shapes x1.msg (Bh u)).getD fld0),Ah u,m.d.want,m.d.utf,m.d.end_⟩:Dcd) Q6),(Fi _),dsp (fun h6 p6=>?_) fun h6 p6=>?_⟩
 refine zE (Li m u) (A3 (⟨(⟨m.d.plan,3,m.d.stack,(⟨0,0⟩:Scn),m.d.start,m.d.at_,((fieldAt m.d.plan.shapes x1.msg (Bh u)).getD fld0),Ah u,m.d.want,m.d.utf,m.d.end_⟩:Dcd),m.out⟩:Mac) 9 m.d.at_) (fun hm1=>⟨(Ca (⟨(⟨m.d.plan,3,m.d.stack,(⟨0,0⟩:Scn),m.d.start,m.d.at_,((fieldAt m.d.plan.shapes x1.msg (Bh u)).getD fld0),Ah u,m.d.want,m.d.utf,m.d.end_⟩:Dcd),m.out⟩:Mac) _ _ Q6),rfl,Q7⟩) ?_
 rotate_left
 refine zE (Li m u) (⟨(⟨m.d.plan,3,m.d.stack,(⟨0,0⟩:Scn),m.d.start,m.d.at_,((fieldAt m.d.plan.shapes x1.msg (Bh u)).getD fld0),Ah u,m.d.want,m.d.utf,m.d.end_⟩:Dcd),m.out⟩:Mac) (fun hm1=>⟨rfl,Q7⟩) ?_
 rotate_left
 refine dsp (fun h6 p6=>?_) fun h6 p6=>?_
 refine⟨(Dz (⟨m.d.plan,4,m.d.stack,(⟨0,0⟩:Scn),m.d.start,m.d.at_,((fieldAt m.d.plan.shapes x1.msg (Bh u)).getD fld0),Ah u,m.d.want,m.d.utf,m.d.end_⟩:Dcd) Q6),(Fi _),dsp (fun h7 p7=>?_) fun h7 p7=>?_⟩
 refine zE (Li m u) (A3 (⟨(⟨m.d.plan,4,m.d.stack,(⟨0,0⟩:Scn),m.d.start,m.d.at_,((fieldAt m.d.plan.shapes x1.msg (Bh u)).getD fld0),Ah u,m.d.want,m.d.utf,m.d.end_⟩:Dcd),m.out⟩:Mac) 9 m.d.at_) (fun hm1=>⟨(Ca (⟨(⟨m.d.plan,4,m.d.stack,(⟨0,0⟩:Scn),m.d.start,m.d.at_,((fieldAt m.d.plan.shapes x1.msg (Bh u)).getD fld0),Ah u,m.d.want,m.d.utf,m.d.end_⟩:Dcd),m.out⟩:Mac) _ _ Q6),rfl,Q7⟩) ?_
 rotate_left
 refine zE (Li m u) (⟨(⟨m.d.plan,4,m.d.stack,(⟨0,0⟩:Scn),m.d.start,m.d.at_,((fieldAt m.d.plan.shapes x1.msg (Bh u)).getD fld0),Ah u,m.d.want,m.d.utf,m.d.end_⟩:Dcd),m.out⟩:Mac) (fun hm1=>⟨rfl,Q7⟩) ?_
 rotate_left
 refine⟨(Dz (⟨m.d.plan,5,m.d.stack,(⟨0,0⟩:Scn),m.d.start,m.d.at_,((fieldAt m.d.plan.shapes x1.msg (Bh u)).getD fld0),Ah u,m.d.want,m.d.utf,m.d.end_⟩:Dcd) Q6),(Fi _),dsp (fun h7 p7=>?_) fun h7 p7=>?_⟩
 refine zE (Li m u) (A3 (⟨(⟨m.d.plan,5,m.d.stack,(⟨0,0⟩:Scn),m.d.start,m.d.at_,((fieldAt m.d.plan.shapes x1.msg (Bh u)).getD fld0),Ah u,m.d.want,m.d.utf,m.d.end_⟩:Dcd),m.out⟩:Mac) 9 m.d.at_) (fun hm1=>⟨(Ca (⟨(⟨m.d.plan,5,m.d.stack,(⟨0,0⟩:Scn),m.d.start,m.d.at_,((fieldAt m.d.plan.shapes x1.msg (Bh u)).getD fld0),Ah u,m.d.want,m.d.utf,m.d.end_⟩:Dcd),m.out⟩:Mac) _ _ Q6),rfl,Q7⟩) ?_
 rotate_left
 refine zE (Li m u) (⟨(⟨m.d.plan,5,m.d.stack,(⟨0,0⟩:Scn),m.d.start,m.d.at_,((fieldAt m.d.plan.shapes x1.msg (Bh u)).getD fld0),Ah u,m.d.want,m.d.utf,m.d.end_⟩:Dcd),m.out⟩:Mac) (fun hm1=>⟨rfl,Q7⟩) ?_
 rotate_left
 all_goals first|(simp_all[Li,A3,Gw,scn0];done)|(grind[Li,A3,Gw,scn0])
theorem Amb (m:Mac) (u:Int) (hp1:Bv (m).d=true) (hp2:List.length (m).out≤100000000) (hp3:(0:Int)≤u∧u≤18446744073709551615) (hp4:((m).d.field=fld0∨known (m).d.plan.shapes (m).d.field=true)):Fun Tryz.prog 267 [vP 0,.c (.int .u64 u)] [.cells (Ab 1 2 3 m),.tree m.d.plan.shapes,.lst .lev m.d.stack,.lst .ev m.out] (.tup []) [.cells (Ab 4 5 6 (Ey m u)),.dead,.dead,.dead,.tree (Ey m u).d.plan.shapes,.lst .lev (Ey m u).d.stack,.lst .ev (Ey m u).out]:=by
 have hN:Bk=274877906944:=rfl
 have hlv:=Co hp1
 have hpt:=B8 hlv.1
 have htb:=No hp1
 have hwm:=Ai5 m
 have hwb:=Df (Ba m.d.field.kind)
 refine Ar Tryz.func267 Q4 Q4 (w:=let zi:Int→C:= .int .i64;let z6:List C:=[.own 1,zi m.d.plan.root,zi m.d.plan.deep,zi m.d.plan.most,zi m.d.mode,.own 2,.int .u64 0,zi 0,zi m.d.start,zi m.d.at_,zi m.d.field.number,zi m.d.field.kind,.bool m.d.field.rep,.bool m.d.field.packed,zi m.d.field.msg,zi m.d.wire,zi u,zi m.d.utf.want,zi m.d.utf.low,zi m.d.utf.high,zi m.d.end_.kind,zi m.d.end_.field,.int .u64 m.d.end_.bits,zi m.d.end_.len,.str m.d.end_.text,zi m.d.end_.code,zi m.d.end_.at_,.own 4];let z7:List C:=[zi m.d.end_.kind,zi m.d.end_.field,.int .u64 m.d.end_.bits,zi m.d.end_.len,.str m.d.end_.text,zi m.d.end_.code,zi m.d.end_.at_,.own 3];let z5:List C:= .own 2:: .int .u64 0::zi 0::zi m.d.start::zi m.d.at_::zi m.d.field.number::zi m.d.field.kind:: .bool m.d.field.rep:: .bool m.d.field.packed::zi m.d.field.msg::zi m.d.wire::zi u::zi m.d.utf.want::zi m.d.utf.low::zi m.d.utf.high::z7;let z8:List C:=[zi m.d.field.number,.int .u64 0,zi u,.str [],zi 0,zi 0];let z15:List Blk:=[.cells (Ab 4 5 6 (Ey m u)),.dead,.dead,.dead,.tree (Ey m u).d.plan.shapes,.lst .lev (Ey m u).d.stack,.lst .ev (Ey m u).out];let z16:=((List.length m.d.stack:Nat):Int);let z18:List Blk:=[.cells (.own 1::zi m.d.plan.root::zi m.d.plan.deep::zi m.d.plan.most::zi m.d.mode::z5),.tree m.d.plan.shapes,.lst .lev m.d.stack,.lst .ev m.out];let z20:List Blk:=[.cells (.own 1::zi m.d.plan.root::zi m.d.plan.deep::zi m.d.plan.most::zi 8::z5),.tree m.d.plan.shapes,.lst .lev m.d.stack,.lst .ev m.out];let z21:List Blk:=[.cells (.own 1::zi m.d.plan.root::zi m.d.plan.deep::zi m.d.plan.most::zi m.d.mode:: .own 2:: .int .u64 0::zi 0::zi m.d.start::zi m.d.at_::zi m.d.field.number::zi m.d.field.kind:: .bool m.d.field.rep:: .bool m.d.field.packed::zi m.d.field.msg::zi m.d.wire::zi m.d.want::zi m.d.utf.want::zi m.d.utf.low::zi m.d.utf.high::z7),.tree m.d.plan.shapes,.lst .lev m.d.stack,.lst .ev m.out];let z26:=(⟨6,m.d.field.number,0,u,[],0,0⟩:Ev);let z27:=Ba m.d.field.kind;let z31:=(⟨3,m.d.field.number,0,u,[],0,0⟩:Ev);let z19:List Blk:=[.cells (.own 1::zi m.d.plan.root::zi m.d.plan.deep::zi m.d.plan.most::zi 6:: .own 2:: .int .u64 0::zi 0::zi m.d.start::zi m.d.at_::zi m.d.field.number::zi m.d.field.kind:: .bool m.d.field.rep:: .bool m.d.field.packed::zi m.d.field.msg::zi m.d.wire::zi u::zi 0::zi 0::zi 0::z7),.tree m.d.plan.shapes,.lst .lev m.d.stack,.lst .ev (m.out++[z31])];let z23:List Blk:=[.cells z6,.tree m.d.plan.shapes,.lst .lev m.d.stack,.dead,.lst .ev (m.out++[z31])];let z33:List Blk:=[.cells z6,.tree m.d.plan.shapes,.lst .lev m.d.stack,.dead,.lst .ev (m.out++[z26])];let z34:=(⟨m.d.field.msg,u⟩:Lev);let z35:=(⟨0,0⟩:Scn);let z10:=Ao (⟨(⟨m.d.plan,6,m.d.stack,z35,m.d.start,m.d.at_,m.d.field,m.d.wire,u,(⟨0,0,0⟩:Utf),m.d.end_⟩:Dcd),m.out++[z31]⟩:Mac);let z11:=A3 (⟨(⟨m.d.plan,m.d.mode,m.d.stack,z35,m.d.start,m.d.at_,m.d.field,m.d.wire,m.d.want,m.d.utf,m.d.end_⟩:Dcd),m.out⟩:Mac) 8 m.d.start;let z12:=A3 (⟨(⟨m.d.plan,m.d.mode,m.d.stack,z35,m.d.start,m.d.at_,m.d.field,m.d.wire,u,m.d.utf,m.d.end_⟩:Dcd),m.out⟩:Mac) 6 m.d.start;let z13:=(⟨m.d.plan,8,m.d.stack,z35,m.d.start,m.d.at_,m.d.field,m.d.wire,u,m.d.utf,m.d.end_⟩:Dcd);let z14:=Ao (⟨(⟨m.d.plan,7,m.d.stack,z35,m.d.start,m.d.at_,m.d.field,m.d.wire,u,m.d.utf,m.d.end_⟩:Dcd),m.out⟩:Mac);let z17:List Blk:=[.cells (Ab 4 5 6 z10),.dead,.dead,.dead,.tree z10.d.plan.shapes,.lst .lev z10.d.stack,.lst .ev z10.out];let z22:=A3 (⟨z13,m.out⟩:Mac) 9 m.d.at_;let z24:List Blk:=[.cells (Ab 1 2 4 z11),.tree z11.d.plan.shapes,.lst .lev z11.d.stack,.dead,.lst .ev z11.out];let z25:List Blk:=[.cells (Ab 4 5 6 z14),.dead,.dead,.dead,.tree z14.d.plan.shapes,.lst .lev z14.d.stack,.lst .ev z14.out];let z28:List Blk:=[.cells (Ab 4 5 6 z11),.dead,.dead,.dead,.tree z11.d.plan.shapes,.lst .lev z11.d.stack,.lst .ev z11.out];let z29:List Blk:=[.cells (Ab 1 2 4 z12),.tree z12.d.plan.shapes,.lst .lev z12.d.stack,.dead,.lst .ev z12.out];let z30:List Blk:=[.cells (Ab 1 2 4 z22),.tree z22.d.plan.shapes,.lst .lev z22.d.stack,.dead,.lst .ev z22.out];let z32:=Ao (⟨z13,m.out⟩:Mac);let z9:List Blk:=[.cells (Ab 4 5 6 z32),.dead,.dead,.dead,.tree z32.d.plan.shapes,.lst .lev z32.d.stack,.lst .ev z32.out];let z36:=(0:Int)≤z16-1;let z37:S:= .v (vI u);let z38:=z16-1<z16;let z39:=m.d.stack[Int.toNat (z16-1)]?;let z40:=Ak z27;(.br (.seg [.call [0,1,2,3] (.tup []) z24,.at 0,.cut 0 0,.cut 0 5] (.leaf () [0,1,2,3,5,6,4])) (.seg [.call [] (.v (vI (Eb m.d))) [],.as 25 (.v (.c (.int .u64 (Eb m.d))))] (.br (.seg [.call [0,1,2,3] (.tup []) z24,.at 0,.cut 0 0,.cut 0 5] (.leaf () [0,1,2,3,5,6,4])) (.seg [.as 42 z37] (.br (.seg [.call [0,1,2,3] (.tup []) z25] (.leaf () [0,1,2,3,5,6,7])) (.br (.seg [.ord (os 13 []) []] (.br (.seg [.call [0,1,2,3] (.tup []) z29,.at 0,.cut 0 0,.cut 0 5] (.leaf () [0,1,2,3,6,7,5])) (.seg [.as 109 z37,.call [0,1,2,3] (.tup []) z33] (.intro (Sx z39) fun x1=>let z1:=Ao (⟨(⟨m.d.plan,2,(List.set m.d.stack (Int.toNat (z16-1)) (⟨x1.msg,x1.left-u⟩:Lev))++[z34],z35,m.d.start,m.d.at_,m.d.field,m.d.wire,0,m.d.utf,m.d.end_⟩:Dcd),m.out++[z26]⟩:Mac);.seg [.ord (os 21 [20]) [],.as 123 (.v (vI (z16-1))),.el .lev x1,.as 128 z37,.as 129 (.v (vI (x1.left-u))),.el .lev x1,.ord (os 17 [11,12,16]) [2],.as 141 z37,.ty .lev,.ty .lev,.call [0,1,7,5] (.tup []) [.cells (Ab 4 5 6 z1),.dead,.dead,.dead,.tree z1.d.plan.shapes,.lst .lev z1.d.stack,.lst .ev z1.out]] (.leaf () [0,1,2,3,8,9,10]))))) (.br (.seg [.as 169 z37,.call [0,1,2,3] (.tup []) z23,.call [0,1,2,5] (.tup []) z17] (.leaf () [0,1,2,3,6,7,8])) (.br (.seg [.as 169 z37,.call [0,1,2,3] (.tup []) z23,.call [0,1,2,5] (.tup []) z17] (.leaf () [0,1,2,3,6,7,8])) (.seg [.call [] (.v (vI z27)) [],.call [] (.v (vI z40)) []] (.br (.br (.seg [.as 63 (.v (.c (.int .u64 z40)))] (.br (.seg [.call [0,1,2,3] (.tup []) z30,.at 0,.cut 0 0,.cut 0 5] (.leaf () [0,1,2,3,6,7,5])) (.seg [.call [0,1,2,3] (.tup []) z9] (.leaf () [0,1,2,3,5,6,7])))) (.seg [.call [0,1,2,3] (.tup []) z9] (.leaf () [0,1,2,3,5,6,7]))) (.seg [.call [0,1,2,3] (.tup []) z9] (.leaf () [0,1,2,3,5,6,7]))))))))))),Bc (decide (z16=0)) ((Fp 101 [vP 0,vI 8,vI m.d.start] z21 (.tup []) z24)∧Lf (.tup []) (.tup []) z28 z15) ((Fp 152 [.agg [.seq .shp m.d.plan.shapes,zi m.d.plan.root,zi m.d.plan.deep,zi m.d.plan.most,zi m.d.mode,.seq .lev m.d.stack,.int .u64 0,zi 0,zi m.d.start,zi m.d.at_,zi m.d.field.number,zi m.d.field.kind,.bool m.d.field.rep,.bool m.d.field.packed,zi m.d.field.msg,zi m.d.wire,zi m.d.want,zi m.d.utf.want,zi m.d.utf.low,zi m.d.utf.high,zi m.d.end_.kind,zi m.d.end_.field,.int .u64 m.d.end_.bits,zi m.d.end_.len,.str m.d.end_.text,zi m.d.end_.code,zi m.d.end_.at_]] [] (.v (vI (Eb m.d))) [])∧(wU (Eb m.d))∧Bc (decide (Eb m.d<u)) ((Fp 101 [vP 0,vI 8,vI m.d.start] z21 (.tup []) z24)∧Lf (.tup []) (.tup []) z28 z15) ((wI (u))∧Bc (decide (m.d.field.number=0)&&(decide (m.d.field.kind=0)&&(decide (m.d.field.rep=false)&&(decide (m.d.field.packed=false)&&decide (m.d.field.msg=0))))) ((Fp 216 [vP 0] [.cells (.own 1::zi m.d.plan.root::zi m.d.plan.deep::zi m.d.plan.most::zi 7::z5),.tree m.d.plan.shapes,.lst .lev m.d.stack,.lst .ev m.out] (.tup []) z25)∧Lf (.tup []) (.tup []) z25 z15) (Bc (decide (m.d.field.kind=8)) (Bc (decide (m.d.plan.deep≤z16)) ((Fp 101 [vP 0,vI 6,vI m.d.start] z18 (.tup []) z29)∧Lf (.tup []) (.tup []) [.cells (Ab 4 5 6 z12),.dead,.dead,.dead,.tree z12.d.plan.shapes,.lst .lev z12.d.stack,.lst .ev z12.out] z15) ((wI (u))∧(Fp 100 [vP 0,.agg (zi 6::z8)] z18 (.tup []) z33)∧El z39 fun x1=>(let z3:=List.set m.d.stack (Int.toNat (z16-1)) (⟨x1.msg,x1.left-u⟩:Lev);let z2:=Ao (⟨(⟨m.d.plan,2,z3++[z34],z35,m.d.start,m.d.at_,m.d.field,m.d.wire,0,m.d.utf,m.d.end_⟩:Dcd),m.out++[z26]⟩:Mac);let z4:=m.d.stack[Int.toNat (z16-1)]? =some x1;(wI (z16-1))∧(wI (z16-1))∧z38∧z36∧z38∧z36∧z4∧z4∧(wI (u))∧(wI (u))∧(wI (x1.left-u))∧(wI (x1.left-u))∧z38∧z36∧z38∧z36∧z4∧(wI (u))∧(wI (u))∧(List.length z3+List.length [z34]≤Bk)∧(Fp 216 [vP 0] [.cells (.own 1::zi m.d.plan.root::zi m.d.plan.deep::zi m.d.plan.most::zi 2:: .own 2:: .int .u64 0::zi 0::zi m.d.start::zi m.d.at_::zi m.d.field.number::zi m.d.field.kind:: .bool m.d.field.rep:: .bool m.d.field.packed::zi m.d.field.msg::zi m.d.wire::zi 0::zi m.d.utf.want::zi m.d.utf.low::zi m.d.utf.high::z7),.tree m.d.plan.shapes,.lst .lev (z3++[z34]),.lst .ev (m.out++[z26])] (.tup []) [.cells (Ab 4 5 6 z2),.dead,.dead,.dead,.tree z2.d.plan.shapes,.lst .lev z2.d.stack,.lst .ev z2.out])∧Lf (.tup []) (.tup []) [.cells (Ab 4 5 6 z2),.dead,.dead,.dead,.tree z2.d.plan.shapes,.lst .lev z2.d.stack,.lst .ev z2.out] z15))) (Bc (decide (m.d.field.kind=6)) ((wI (u))∧(Fp 100 [vP 0,.agg (zi 3::z8)] z18 (.tup []) z23)∧(Fp 216 [vP 0] z19 (.tup []) z17)∧Lf (.tup []) (.tup []) z17 z15) (Bc (decide (m.d.field.kind=7)) ((wI (u))∧(Fp 100 [vP 0,.agg (zi 3::z8)] z18 (.tup []) z23)∧(Fp 216 [vP 0] z19 (.tup []) z17)∧Lf (.tup []) (.tup []) z17 z15) ((Fp 184 [vI m.d.field.kind] [] (.v (vI z27)) [])∧(Fp 189 [vI z27] [] (.v (vI z40)) [])∧Bc (decide (0<Ak z27)) (Bc (decide (0<u)) ((wU z40)∧Bc (decide (u<Ak z27)) ((Fp 101 [vP 0,vI 9,vI m.d.at_] z20 (.tup []) z30)∧Lf (.tup []) (.tup []) [.cells (Ab 4 5 6 z22),.dead,.dead,.dead,.tree z22.d.plan.shapes,.lst .lev z22.d.stack,.lst .ev z22.out] z15) ((Fp 216 [vP 0] z20 (.tup []) z9)∧Lf (.tup []) (.tup []) z9 z15)) ((Fp 216 [vP 0] z20 (.tup []) z9)∧Lf (.tup []) (.tup []) z9 z15)) ((Fp 216 [vP 0] z20 (.tup []) z9)∧Lf (.tup []) (.tup []) z9 z15))))))))) Q4 ?_
 refine dsp (fun h1 p1=>?_) fun h1 p1=>?_
 refine zE (Ey m u) (A3 (⟨(⟨m.d.plan,m.d.mode,m.d.stack,(⟨0,0⟩:Scn),m.d.start,m.d.at_,m.d.field,m.d.wire,m.d.want,m.d.utf,m.d.end_⟩:Dcd),m.out⟩:Mac) 8 m.d.start) (fun hm1=>⟨(Ca (⟨(⟨m.d.plan,m.d.mode,m.d.stack,(⟨0,0⟩:Scn),m.d.start,m.d.at_,m.d.field,m.d.wire,m.d.want,m.d.utf,m.d.end_⟩:Dcd),m.out⟩:Mac) _ _ Q6),rfl,Q7⟩) ?_
 rotate_left
 refine⟨(Dz (⟨m.d.plan,m.d.mode,m.d.stack,(⟨0,0⟩:Scn),m.d.start,m.d.at_,m.d.field,m.d.wire,m.d.want,m.d.utf,m.d.end_⟩:Dcd) Q6),(Bu Q2 Q2),dsp (fun h2 p2=>?_) fun h2 p2=>?_⟩
 refine zE (Ey m u) (A3 (⟨(⟨m.d.plan,m.d.mode,m.d.stack,(⟨0,0⟩:Scn),m.d.start,m.d.at_,m.d.field,m.d.wire,m.d.want,m.d.utf,m.d.end_⟩:Dcd),m.out⟩:Mac) 8 m.d.start) (fun hm1=>⟨(Ca (⟨(⟨m.d.plan,m.d.mode,m.d.stack,(⟨0,0⟩:Scn),m.d.start,m.d.at_,m.d.field,m.d.wire,m.d.want,m.d.utf,m.d.end_⟩:Dcd),m.out⟩:Mac) _ _ Q6),rfl,Q7⟩) ?_
 rotate_left
 refine⟨(Af Q2 Q2),fun h3=>have p3:=(Dg dT (Dg dT (Dg dT (Dg dT dT)))).1 h3;?_,fun h3=>have p3:=(Dh dT (Dh dT (Dh dT (Dh dT dF)))).1 h3;?_⟩
 refine zE (Ey m u) (Ao (⟨(⟨m.d.plan,7,m.d.stack,(⟨0,0⟩:Scn),m.d.start,m.d.at_,m.d.field,m.d.wire,u,m.d.utf,m.d.end_⟩:Dcd),m.out⟩:Mac)) (fun hm1=>⟨(D8 (⟨(⟨m.d.plan,7,m.d.stack,(⟨0,0⟩:Scn),m.d.start,m.d.at_,m.d.field,m.d.wire,u,m.d.utf,m.d.end_⟩:Dcd),m.out⟩:Mac) (Q11) Q6),rfl,Q7⟩) ?_
 rotate_left
 refine dsp (fun h4 p4=>?_) fun h4 p4=>?_
 refine dsp (fun h5 p5=>?_) fun h5 p5=>?_
 refine zE (Ey m u) (A3 (⟨(⟨m.d.plan,m.d.mode,m.d.stack,(⟨0,0⟩:Scn),m.d.start,m.d.at_,m.d.field,m.d.wire,u,m.d.utf,m.d.end_⟩:Dcd),m.out⟩:Mac) 6 m.d.start) (fun hm1=>⟨(Ca (⟨(⟨m.d.plan,m.d.mode,m.d.stack,(⟨0,0⟩:Scn),m.d.start,m.d.at_,m.d.field,m.d.wire,u,m.d.utf,m.d.end_⟩:Dcd),m.out⟩:Mac) _ _ Q6),rfl,Q7⟩) ?_
 rotate_left
 refine⟨(Af Q2 Q2),(Fk (⟨(⟨m.d.plan,m.d.mode,m.d.stack,(⟨0,0⟩:Scn),m.d.start,m.d.at_,m.d.field,m.d.wire,u,m.d.utf,m.d.end_⟩:Dcd),m.out⟩:Mac) (⟨6,m.d.field.number,0,u,[],0,0⟩:Ev) Q6),(Bp (l:=m.d.stack) (i:=Int.toNat (((List.length m.d.stack:Nat):Int)-1)) Q2),fun x1 hx1=>?_⟩
 have hll:=Yh (d:=m.d) (by rw[←hx1];congr 1;omega)
 have hix:Int.toNat ((m.d.stack.length:Int)-1)=m.d.stack.length-1:=by omega
 refine zE (Ey m u) (Ao (⟨(⟨m.d.plan,2,(List.set m.d.stack (Int.toNat (((List.length m.d.stack:Nat):Int)-1)) (⟨x1.msg,x1.left-u⟩:Lev))++[(⟨m.d.field.msg,u⟩:Lev)],(⟨0,0⟩:Scn),m.d.start,m.d.at_,m.d.field,m.d.wire,0,m.d.utf,m.d.end_⟩:Dcd),m.out++[(⟨6,m.d.field.number,0,u,[],0,0⟩:Ev)]⟩:Mac)) (fun hm1=>⟨(Af Q2 Q2),(Af Q2 Q2),Q2,Q2,Q2,Q2,hx1,hx1,(Af Q2 Q2),(Af Q2 Q2),(Af Q2 Q2),(Af Q2 Q2),Q2,Q2,Q2,Q2,hx1,(Af Q2 Q2),(Af Q2 Q2),(by simp only[List.length_set,List.length_cons,List.length_nil];omega),(D8 (⟨(⟨m.d.plan,2,(List.set m.d.stack (Int.toNat (((List.length m.d.stack:Nat):Int)-1)) (⟨x1.msg,x1.left-u⟩:Lev))++[(⟨m.d.field.msg,u⟩:Lev)],(⟨0,0⟩:Scn),m.d.start,m.d.at_,m.d.field,m.d.wire,0,m.d.utf,m.d.end_⟩:Dcd),m.out++[(⟨6,m.d.field.number,0,u,[],0,0⟩:Ev)]⟩:Mac) (Q11) Q16),rfl,Q7⟩) ?_
 rotate_left
 refine dsp (fun h5 p5=>?_) fun h5 p5=>?_
 refine zE (Ey m u) (Ao (⟨(⟨m.d.plan,6,m.d.stack,(⟨0,0⟩:Scn),m.d.start,m.d.at_,m.d.field,m.d.wire,u,(⟨0,0,0⟩:Utf),m.d.end_⟩:Dcd),m.out++[(⟨3,m.d.field.number,0,u,[],0,0⟩:Ev)]⟩:Mac)) (fun hm1=>⟨(Af Q2 Q2),(Fk (⟨(⟨m.d.plan,m.d.mode,m.d.stack,(⟨0,0⟩:Scn),m.d.start,m.d.at_,m.d.field,m.d.wire,u,m.d.utf,m.d.end_⟩:Dcd),m.out⟩:Mac) (⟨3,m.d.field.number,0,u,[],0,0⟩:Ev) Q6),(D8 (⟨(⟨m.d.plan,6,m.d.stack,(⟨0,0⟩:Scn),m.d.start,m.d.at_,m.d.field,m.d.wire,u,(⟨0,0,0⟩:Utf),m.d.end_⟩:Dcd),m.out++[(⟨3,m.d.field.number,0,u,[],0,0⟩:Ev)]⟩:Mac) (Q11) Q16),rfl,Q7⟩) ?_
 rotate_left
 refine dsp (fun h6 p6=>?_) fun h6 p6=>?_
 refine zE (Ey m u) (Ao (⟨(⟨m.d.plan,6,m.d.stack,(⟨0,0⟩:Scn),m.d.start,m.d.at_,m.d.field,m.d.wire,u,(⟨0,0,0⟩:Utf),m.d.end_⟩:Dcd),m.out++[(⟨3,m.d.field.number,0,u,[],0,0⟩:Ev)]⟩:Mac)) (fun hm1=>⟨(Af Q2 Q2),(Fk (⟨(⟨m.d.plan,m.d.mode,m.d.stack,(⟨0,0⟩:Scn),m.d.start,m.d.at_,m.d.field,m.d.wire,u,m.d.utf,m.d.end_⟩:Dcd),m.out⟩:Mac) (⟨3,m.d.field.number,0,u,[],0,0⟩:Ev) Q6),(D8 (⟨(⟨m.d.plan,6,m.d.stack,(⟨0,0⟩:Scn),m.d.start,m.d.at_,m.d.field,m.d.wire,u,(⟨0,0,0⟩:Utf),m.d.end_⟩:Dcd),m.out++[(⟨3,m.d.field.number,0,u,[],0,0⟩:Ev)]⟩:Mac) (Q11) Q16),rfl,Q7⟩) ?_
 rotate_left
 refine⟨(Yk _),(Fi _),dsp (fun h7 p7=>?_) fun h7 p7=>?_⟩
 refine dsp (fun h8 p8=>?_) fun h8 p8=>?_
 refine⟨(Bu Q2 Q2),dsp (fun h9 p9=>?_) fun h9 p9=>?_⟩
 refine zE (Ey m u) (A3 (⟨(⟨m.d.plan,8,m.d.stack,(⟨0,0⟩:Scn),m.d.start,m.d.at_,m.d.field,m.d.wire,u,m.d.utf,m.d.end_⟩:Dcd),m.out⟩:Mac) 9 m.d.at_) (fun hm1=>⟨(Ca (⟨(⟨m.d.plan,8,m.d.stack,(⟨0,0⟩:Scn),m.d.start,m.d.at_,m.d.field,m.d.wire,u,m.d.utf,m.d.end_⟩:Dcd),m.out⟩:Mac) _ _ Q6),rfl,Q7⟩) ?_
 rotate_left
 refine zE (Ey m u) (Ao (⟨(⟨m.d.plan,8,m.d.stack,(⟨0,0⟩:Scn),m.d.start,m.d.at_,m.d.field,m.d.wire,u,m.d.utf,m.d.end_⟩:Dcd),m.out⟩:Mac)) (fun hm1=>⟨(D8 (⟨(⟨m.d.plan,8,m.d.stack,(⟨0,0⟩:Scn),m.d.start,m.d.at_,m.d.field,m.d.wire,u,m.d.utf,m.d.end_⟩:Dcd),m.out⟩:Mac) (Q11) Q6),rfl,Q7⟩) ?_
 rotate_left
 refine zE (Ey m u) (Ao (⟨(⟨m.d.plan,8,m.d.stack,(⟨0,0⟩:Scn),m.d.start,m.d.at_,m.d.field,m.d.wire,u,m.d.utf,m.d.end_⟩:Dcd),m.out⟩:Mac)) (fun hm1=>⟨(D8 (⟨(⟨m.d.plan,8,m.d.stack,(⟨0,0⟩:Scn),m.d.start,m.d.at_,m.d.field,m.d.wire,u,m.d.utf,m.d.end_⟩:Dcd),m.out⟩:Mac) (Q11) Q6),rfl,Q7⟩) ?_
 rotate_left
 refine zE (Ey m u) (Ao (⟨(⟨m.d.plan,8,m.d.stack,(⟨0,0⟩:Scn),m.d.start,m.d.at_,m.d.field,m.d.wire,u,m.d.utf,m.d.end_⟩:Dcd),m.out⟩:Mac)) (fun hm1=>⟨(D8 (⟨(⟨m.d.plan,8,m.d.stack,(⟨0,0⟩:Scn),m.d.start,m.d.at_,m.d.field,m.d.wire,u,m.d.utf,m.d.end_⟩:Dcd),m.out⟩:Mac) (Q11) Q6),rfl,Q7⟩) ?_
 rotate_left
 all_goals first|((have e0:m.d.field≠fld0:=(fun h=>by have:=congrArg Fld.kind h;simp only[fld0] at this;omega);have e1: ¬(m.d.stack.length=0∨Eb m.d<u):=(by omega);have e2: ¬m.d.plan.deep≤(m.d.stack.length:Int):=(by omega);unfold Ey;rw[if_neg e1,if_neg e0,if_pos (by assumption),if_neg e2,hll.1,hll.2,hix];rfl))|(simp_all[Ey,A3,Gw,Yg,Amx,F7,Gh,utf0,scn0];done)|(grind[Ey,A3,Gw,Yg,Amx,F7,Gh,utf0,scn0])
theorem Abf (m:Mac) (u:Int) (hp1:List.length (m).out≤100000000) (hp2:(0:Int)≤u∧u≤18446744073709551615):Fun Tryz.prog 263 [vP 0,.c (.int .u64 u)] [.cells (Ab 1 2 3 m),.tree m.d.plan.shapes,.lst .lev m.d.stack,.lst .ev m.out] (.tup []) [.cells (Ab 1 2 4 (Ce m u)),.tree (Ce m u).d.plan.shapes,.lst .lev (Ce m u).d.stack,.dead,.lst .ev (Ce m u).out]:=by
 have hN:Bk=274877906944:=rfl
 refine Ar Tryz.func263 Q4 Q4 (w:=let zi:Int→C:= .int .i64;let z1:List C:=[.own 1,zi m.d.plan.root,zi m.d.plan.deep,zi m.d.plan.most,zi 2,.own 2,.int .u64 m.d.scan.bits,zi m.d.scan.have_,zi m.d.start,zi m.d.at_,zi m.d.field.number,zi m.d.field.kind,.bool m.d.field.rep,.bool m.d.field.packed,zi m.d.field.msg,zi m.d.wire,zi m.d.want,zi m.d.utf.want,zi m.d.utf.low,zi m.d.utf.high,zi m.d.end_.kind,zi m.d.end_.field,.int .u64 m.d.end_.bits,zi m.d.end_.len,.str m.d.end_.text,zi m.d.end_.code,zi m.d.end_.at_,.own 4];let z2:List Blk:=[.cells (Ab 1 2 4 (Ce m u)),.tree (Ce m u).d.plan.shapes,.lst .lev (Ce m u).d.stack,.dead,.lst .ev (Ce m u).out];let z5:= !(decide (m.d.field.number=0)&&(decide (m.d.field.kind=0)&&(decide (m.d.field.rep=false)&&(decide (m.d.field.packed=false)&&decide (m.d.field.msg=0)))));let z6:=Ew m.d.field u;let z3:List Blk:=[.cells (Ab 1 2 4 m),.tree (m).d.plan.shapes,.lst .lev (m).d.stack,.dead,.lst .ev ((m).out++[z6])];let z4:List Blk:=[.cells z1,.tree m.d.plan.shapes,.lst .lev m.d.stack,.dead,.lst .ev (m.out++[z6])];let z7:S:= .v (.agg (cEv z6));(.br (.br (.seg [.call [] z7 [],.call [0,1,2,3] (.tup []) z4] (.leaf () [0,1,2,3,4])) (.seg [.at 0,.cut 0 27] (.leaf () [0,1,2,3,4]))) (.br (.seg [.call [] z7 [],.call [0,1,2,3] (.tup []) z3] (.leaf () [0,1,2,3,4])) (.seg [.at 0,.cut 0 27] (.leaf () [0,1,2,3,4]))),Bc (!decide (m.d.mode=8)) (Bc z5 ((Fp 126 [.agg (Fw m.d.field),.c (.int .u64 u)] [] z7 [])∧(Fp 100 [vP 0,.agg (cEv z6)] [.cells [.own 1,zi m.d.plan.root,zi m.d.plan.deep,zi m.d.plan.most,zi 2,.own 2,.int .u64 m.d.scan.bits,zi m.d.scan.have_,zi m.d.start,zi m.d.at_,zi m.d.field.number,zi m.d.field.kind,.bool m.d.field.rep,.bool m.d.field.packed,zi m.d.field.msg,zi m.d.wire,zi m.d.want,zi m.d.utf.want,zi m.d.utf.low,zi m.d.utf.high,zi m.d.end_.kind,zi m.d.end_.field,.int .u64 m.d.end_.bits,zi m.d.end_.len,.str m.d.end_.text,zi m.d.end_.code,zi m.d.end_.at_,.own 3],.tree m.d.plan.shapes,.lst .lev m.d.stack,.lst .ev m.out] (.tup []) z4)∧Lf (.tup []) (.tup []) z4 z2) (Lf (.tup []) (.tup []) [.cells z1,.tree m.d.plan.shapes,.lst .lev m.d.stack,.dead,.lst .ev m.out] z2)) (Bc z5 ((Fp 126 [.agg (Fw m.d.field),.c (.int .u64 u)] [] z7 [])∧(Fp 100 [vP 0,.agg (cEv z6)] [.cells (Ab 1 2 3 m),.tree m.d.plan.shapes,.lst .lev m.d.stack,.lst .ev m.out] (.tup []) z3)∧Lf (.tup []) (.tup []) z3 z2) (Lf (.tup []) (.tup []) [.cells (Ab 1 2 4 m),.tree m.d.plan.shapes,.lst .lev m.d.stack,.dead,.lst .ev m.out] z2)))) Q4 ?_
 refine⟨fun h1=>have q1:=Aq h1;have p1:=of_decide_eq_false q1;?_,fun h1=>have q1:=Ap h1;have p1:=of_decide_eq_true q1;?_⟩
 refine⟨fun h2=>have q2:=Aq h2;have p2:=(Dh dT (Dh dT (Dh dT (Dh dT dF)))).1 q2;?_,fun h2=>have q2:=Ap h2;have p2:=(Dg dT (Dg dT (Dg dT (Dg dT dT)))).1 q2;?_⟩
 refine zE (Ce m u) (⟨(⟨m.d.plan,2,m.d.stack,m.d.scan,m.d.start,m.d.at_,m.d.field,m.d.wire,m.d.want,m.d.utf,m.d.end_⟩:Dcd),m.out++[(Ew m.d.field u)]⟩:Mac) (fun hm1=>⟨(Xe m.d.field _ Q2),(Fk (⟨(⟨m.d.plan,2,m.d.stack,m.d.scan,m.d.start,m.d.at_,m.d.field,m.d.wire,m.d.want,m.d.utf,m.d.end_⟩:Dcd),m.out⟩:Mac) (Ew m.d.field u) Q6),rfl,Q7⟩) ?_
 rotate_left
 refine zE (Ce m u) (⟨(⟨m.d.plan,2,m.d.stack,m.d.scan,m.d.start,m.d.at_,m.d.field,m.d.wire,m.d.want,m.d.utf,m.d.end_⟩:Dcd),m.out⟩:Mac) (fun hm1=>⟨rfl,Q7⟩) ?_
 rotate_left
 refine⟨fun h2=>have q2:=Aq h2;have p2:=(Dh dT (Dh dT (Dh dT (Dh dT dF)))).1 q2;?_,fun h2=>have q2:=Ap h2;have p2:=(Dg dT (Dg dT (Dg dT (Dg dT dT)))).1 q2;?_⟩
 refine zE (Ce m u) (⟨(m).d,(m).out++[(Ew m.d.field u)]⟩:Mac) (fun hm1=>⟨(Xe m.d.field _ Q2),(Fk m (Ew m.d.field u) Q2),rfl,Q7⟩) ?_
 rotate_left
 refine zE (Ce m u) m (fun hm1=>⟨rfl,Q7⟩) ?_
 rotate_left
 all_goals first|(simp_all[Ce,F7];done)|((cases m with|mk d o=>cases d;simp_all[Ce,F7];done))|((cases m with|mk d o=>cases d;grind[Ce,F7]))|(grind[Ce,F7])
theorem Ac1 (b:Int):Fun Tryz.prog 290 [vI b] [] (.v (vB (Ai b 0 255))) []:=by
 have hN:Bk=274877906944:=rfl
 refine Ar Tryz.func290 Q4 Q4 (w:=let z1:S:= .v (vB (Ai b 0 255));(.seg [.call [] z1 []] (.leaf () []),(Fp 69 [vI b,vI 0,vI 255] [] z1 [])∧Lf z1 z1 [] [])) Q4 ?_
 exact⟨(Cf _ _ _),rfl,rfl⟩
theorem Lq (s:Scn) (b:Int) (hp1:(0:Int)≤(s).bits∧(s).bits≤18446744073709551615):Fun Tryz.prog 264 [.agg (Zt s),vI b] [] (.tup [.agg (Zt (An s b).1),vI (An s b).2]) []:=by
 have hN:Bk=274877906944:=rfl
 refine Ar Tryz.func264 Q4 Q4 (w:=let z2:S:= .tup [.agg (Zt (An s b).1),vI (An s b).2];let z3:=s.bits+(b % 128)*2 ^ (7*Int.toNat s.have_);let z4:=(b % 128)*2 ^ (7*Int.toNat s.have_);let z5:=Lf (.tup [.agg (Zt s),vI 2]) z2 [] [];let z6:=7*s.have_;let z7:=s.have_+1;let z1:=((.v (vI (IntKind.i64.wrap (((BitVec.ofInt 64 b&&&BitVec.ofInt 64 127).toNat:Nat)))):S)= .v (vI (b % 128)))∧(wU (b % 128))∧(wI z6)∧(wU z6)∧((0:Int)≤7*s.have_)∧((.v (.c (.int .u64 (IntKind.u64.wrap ((b % 128)*2 ^ min (Int.toNat z6) 64)))):S)= .v (.c (.int .u64 z4)))∧((.v (.c (.int .u64 (IntKind.u64.wrap (((BitVec.ofInt 64 s.bits|||BitVec.ofInt 64 z4).toNat:Nat))))):S)= .v (.c (.int .u64 z3)))∧(wI z7)∧Bc (decide (b<128)) (Lf (.tup [.agg [.int .u64 z3,.int .i64 z7],vI 1]) z2 [] []) (Lf (.tup [.agg [.int .u64 z3,.int .i64 z7],vI 0]) z2 [] []);(.seg [.call [] (.v (vB (Ex s))) []] (.br (.leaf () []) (.seg [.call [] (.v (vB (Ai b 0 255))) []] (.br (.leaf () []) (.br (.br (.leaf () []) (.seg [.as 28 (.v (vI (b % 128))),.as 29 (.v (.c (.int .u64 (b % 128)))),.as 32 (.v (vI z6)),.as 33 (.v (.c (.int .u64 z6))),.as 34 (.v (.c (.int .u64 z4))),.as 35 (.v (.c (.int .u64 z3))),.as 38 (.v (vI z7))] (.br (.leaf () []) (.leaf () [])))) (.seg [.as 28 (.v (vI (b % 128))),.as 29 (.v (.c (.int .u64 (b % 128)))),.as 32 (.v (vI z6)),.as 33 (.v (.c (.int .u64 z6))),.as 34 (.v (.c (.int .u64 z4))),.as 35 (.v (.c (.int .u64 z3))),.as 38 (.v (vI z7))] (.br (.leaf () []) (.leaf () []))))))),(Fp 214 [.agg (Zt s)] [] (.v (vB (Ex s))) [])∧Bc (!(Ex s)) z5 ((Fp 290 [vI b] [] (.v (vB (Ai b 0 255))) [])∧Bc (!(Ai b 0 255)) z5 (Bc (decide (s.have_=9)) (Bc (decide (1<b)) z5 z1) z1)))) Q4 ?_
 refine⟨(Acs s),fun h1=>have q1:=Aq h1;?_,fun h1=>have q1:=Ap h1;?_⟩
 refine zE ((An s b).1) s (fun hm1=>⟨(congrArg S.tup (Ac (congrArg V.agg (Ac (congrArg (C.int .u64) ?_) (Ac (congrArg (C.int .i64) ?_) rfl))) (Ac (congrArg V.c (congrArg (C.int .i64) ?_)) rfl))),rfl⟩) ?_
 rotate_left 4
 have hsk:=Yi q1 hp1.1
 refine⟨(Ac1 _),fun h2=>have q2:=Aq h2;have p2:=A7 q2;?_,fun h2=>have q2:=Ap h2;have p2:=Aw q2;?_⟩
 refine zE ((An s b).1) s (fun hm1=>⟨(congrArg S.tup (Ac (congrArg V.agg (Ac (congrArg (C.int .u64) ?_) (Ac (congrArg (C.int .i64) ?_) rfl))) (Ac (congrArg V.c (congrArg (C.int .i64) ?_)) rfl))),rfl⟩) ?_
 rotate_left 4
 refine dsp (fun h3 p3=>?_) fun h3 p3=>?_
 refine dsp (fun h4 p4=>?_) fun h4 p4=>?_
 refine zE ((An s b).1) s (fun hm1=>⟨(congrArg S.tup (Ac (congrArg V.agg (Ac (congrArg (C.int .u64) ?_) (Ac (congrArg (C.int .i64) ?_) rfl))) (Ac (congrArg V.c (congrArg (C.int .i64) ?_)) rfl))),rfl⟩) ?_
 rotate_left 4
 refine⟨(Gf (k:=7) Q18 Q18),(Bu Q2 Q2),(Af Q2 Q2),(Bu Q2 Q2),Q2,(Zx Q2 Q2 Q2 Q2 Q2),(Acm Q2 Q2 Q2 Q2 Q2 Q2 Q2),(Af Q2 Q2),dsp (fun h5 p5=>?_) fun h5 p5=>?_⟩
 refine zE ((An s b).1) (⟨s.bits+(b % 128)*2 ^ (7*Int.toNat s.have_),s.have_+1⟩:Scn) (fun hm1=>⟨(congrArg S.tup (Ac (congrArg V.agg (Ac (congrArg (C.int .u64) ?_) (Ac (congrArg (C.int .i64) ?_) rfl))) (Ac (congrArg V.c (congrArg (C.int .i64) ?_)) rfl))),rfl⟩) ?_
 rotate_left 4
 refine zE ((An s b).1) (⟨s.bits+(b % 128)*2 ^ (7*Int.toNat s.have_),s.have_+1⟩:Scn) (fun hm1=>⟨(congrArg S.tup (Ac (congrArg V.agg (Ac (congrArg (C.int .u64) ?_) (Ac (congrArg (C.int .i64) ?_) rfl))) (Ac (congrArg V.c (congrArg (C.int .i64) ?_)) rfl))),rfl⟩) ?_
 rotate_left 4
 refine⟨(Gf (k:=7) Q18 Q18),(Bu Q2 Q2),(Af Q2 Q2),(Bu Q2 Q2),Q2,(Zx Q2 Q2 Q2 Q2 Q2),(Acm Q2 Q2 Q2 Q2 Q2 Q2 Q2),(Af Q2 Q2),dsp (fun h4 p4=>?_) fun h4 p4=>?_⟩
 refine zE ((An s b).1) (⟨s.bits+(b % 128)*2 ^ (7*Int.toNat s.have_),s.have_+1⟩:Scn) (fun hm1=>⟨(congrArg S.tup (Ac (congrArg V.agg (Ac (congrArg (C.int .u64) ?_) (Ac (congrArg (C.int .i64) ?_) rfl))) (Ac (congrArg V.c (congrArg (C.int .i64) ?_)) rfl))),rfl⟩) ?_
 rotate_left 4
 refine zE ((An s b).1) (⟨s.bits+(b % 128)*2 ^ (7*Int.toNat s.have_),s.have_+1⟩:Scn) (fun hm1=>⟨(congrArg S.tup (Ac (congrArg V.agg (Ac (congrArg (C.int .u64) ?_) (Ac (congrArg (C.int .i64) ?_) rfl))) (Ac (congrArg V.c (congrArg (C.int .i64) ?_)) rfl))),rfl⟩) ?_
 rotate_left 4
 all_goals first|(simp_all[An];done)|(grind[An])
theorem Ag4 (s:Scn) (b:Int):Fun Tryz.prog 262 [.agg (Zt s),vI b] [] (.v (.agg (Zt (B9 s b)))) []:=by
 have hN:Bk=274877906944:=rfl
 refine Ar Tryz.func262 Q4 Q4 (w:=let z1:=Lf (.v (.agg (Zt s))) (.v (.agg (Zt (B9 s b)))) [] [];let z2:=8*s.have_;let z3:=Ai s.have_ 0 7;(.seg [.call [] (.v (vB z3)) []] (.br (.leaf () []) (.seg [.call [] (.v (vB (Ai b 0 255))) []] (.br (.leaf () []) (.seg [.as 18 (.v (.c (.int .u64 b))),.as 21 (.v (vI z2)),.as 22 (.v (.c (.int .u64 z2))),.as 27 (.v (vI (s.have_+1)))] (.leaf () []))))),(Fp 69 [vI s.have_,vI 0,vI 7] [] (.v (vB z3)) [])∧Bc (!z3) z1 ((Fp 290 [vI b] [] (.v (vB (Ai b 0 255))) [])∧Bc (!(Ai b 0 255)) z1 ((wU (b))∧(wI z2)∧(wU z2)∧((0:Int)≤8*s.have_)∧(wI (s.have_+1))∧Lf (.v (.agg [.int .u64 (IntKind.u64.wrap (s.bits+(IntKind.u64.wrap (b*2 ^ min (Int.toNat z2) 64)))),.int .i64 (s.have_+1)])) (.v (.agg (Zt (B9 s b)))) [] [])))) Q4 ?_
 refine⟨(Cf _ _ _),fun h1=>have q1:=Aq h1;have p1:=A7 q1;?_,fun h1=>have q1:=Ap h1;have p1:=Aw q1;?_⟩
 refine zE (B9 s b) s (fun hm1=>⟨Q7,rfl⟩) ?_
 rotate_left
 refine⟨(Ac1 _),fun h2=>have q2:=Aq h2;have p2:=A7 q2;?_,fun h2=>have q2:=Ap h2;have p2:=Aw q2;?_⟩
 refine zE (B9 s b) s (fun hm1=>⟨Q7,rfl⟩) ?_
 rotate_left
 refine zE (B9 s b) (⟨IntKind.u64.wrap (s.bits+(IntKind.u64.wrap (b*2 ^ min (Int.toNat (8*s.have_)) 64))),s.have_+1⟩:Scn) (fun hm1=>⟨(Bu Q2 Q2),(Af Q2 Q2),(Bu Q2 Q2),Q2,(Af Q2 Q2),Q7,rfl⟩) ?_
 rotate_left
 all_goals first|(simp_all[B9];done)|(grind[B9])
end Go.Proofs.YtijacopaadmncaaGreat.Ax
