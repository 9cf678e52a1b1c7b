/- Chunks. Chunks. Chunks of an input. Chunks of an input. Decoders that are the same. Draws of numbers, bytes, scripts. Drawn descriptions: checks. What drawn descriptions compile to. Drawn descriptions. -/
import Derived.Test.YtijacopaadmncaaGreatKFnFeedCut4
import Derived.Test.YtijacopaadmncaaGreatKFnFeedCut5
import Derived.Test.YtijacopaadmncaaGreatKFnFeedCut2
import Derived.Test.YtijacopaadmncaaGreatKFnFeedCut1
set_option linter.unusedSimpArgs false
set_option linter.unusedVariables false
namespace Go.Proofs.YtijacopaadmncaaGreat.Ax
open Go.RowKit
def Us (l:List Ev):Prop:= ∀e∈l,e.text.length≤1
theorem Yq:Us []:=fun _ h=>by cases h
theorem Ach {a b:List Ev} (ha:Us a) (hb:Us b):Us (a++b):=fun e h=>(List.mem_append.1 h).elim (ha e) (hb e)
theorem Ah9 {e:Ev} (h:e.text.length≤1):Us [e]:=fun x hx=>by simp at hx;rw[hx];exact h
theorem Gt {a:List Ev} {e:Ev} (ha:Us a) (h:e.text.length≤1):Us (a++[e]):=Ach ha (Ah9 h)
theorem Agc: ∀ {l:List Ev},Us l→tx l≤l.length
 |[],_=>Nat.le_refl _
 |e::r,h=>by
  have h1:=h e (List.mem_cons_self ..)
  have h2:=Agc (l:=r) fun x hx=>h x (List.mem_cons_of_mem _ hx)
  rw[tx,List.length_cons];omega
theorem Dr {m:Mac} {c a:Int} (h:Us m.out):Us (A0 m c a).out:=Gt h (Nat.zero_le _)
theorem Aa3 {m q:Mac} (h:Us m.out) (hc:Ay m=some q):Us q.out:=by
 unfold Ay at hc
 split at hc
 ·split at hc
  ·cases hc;exact Dr h
  ·cases hc;exact Gt h (Nat.zero_le _)
 ·split at hc
  ·cases hc;exact h
  ·split at hc
   ·split at hc<;>(cases hc;exact Gt h (Nat.zero_le _))
   ·cases hc
theorem Dq {m:Mac} (h:Us m.out):Us (Ae m).out:=by
 suffices ∀(k:Nat) (m:Mac),wM m≤k→Us m.out→Us (Ae m).out from this _ m (Nat.le_refl _) h
 intro k
 induction k with
 |zero=>
  intro m hk h
  cases hc:Ay m with
  |none=>rw[Bw hc];exact h
  |some q=>have:=(B2 hc).1;omega
 |succ k ih=>
  intro m hk h
  cases hc:Ay m with
  |none=>rw[Bw hc];exact h
  |some q=>rw[Cf hc];exact ih q (by have:=(B2 hc).1;omega) (Aa3 h hc)
theorem Rm {m:Mac} {u:Int} (h:Us m.out):Us (Bm m u).out:=by
 unfold Bm
 simp only
 split
 ·exact h
 ·exact Gt h (Nat.zero_le _)
theorem Ado {m:Mac} {b:Int} (h:Us m.out):Us (Eb m b).out:=by
 unfold Eb
 split
 ·unfold Eg
  split
  ·split
   ·exact Dr h
   ·exact Dq (Gt h (Nat.le_refl _))
  ·exact Dq (Gt h (Nat.le_refl _))
 ·split
  ·exact Dq h
  ·split
   ·unfold Dp
    split
    ·exact h
    ·split
     ·exact Dr (Rm h)
     ·exact Dq (Rm h)
   ·unfold Bp
    split
    ·exact Dr h
    ·split
     ·unfold Vo
      split
      ·exact Dr h
      ·exact h
     ·split
      ·unfold Cu
       split
       ·exact Dr h
       ·exact Dq (Gt h (Nat.zero_le _))
      ·split
       ·unfold Ea
        split
        ·exact Dr h
        ·split
         ·exact Dr h
         ·split
          ·exact Dr h
          ·split
           ·exact Dr h
           ·exact h
       ·split
        ·unfold Cn
         split
         ·exact Dr h
         ·split
          ·exact Dq h
          ·split
           ·split
            ·exact Dr h
            ·exact Dq (Gt h (Nat.zero_le _))
           ·split
            ·exact Dq (Gt h (Nat.zero_le _))
            ·split
             ·exact Dr h
             ·exact Dq h
        ·exact Dq (Rm h)
theorem Adp {m:Mac} {b:Int} (h:Us m.out):Us (Pi m b).out:=by
 unfold Pi
 refine Ach h ?_
 unfold B8
 split
 ·exact Ado Yq
 ·exact Yq
theorem Xq: ∀(s:List UInt8) (m:Mac),Us m.out→Us (Ce m s).out
 |[],m,h=>h
 |b::r,m,h=>by rw[Fh];exact Xq r _ (Adp h)
theorem Agd (d:Dcd) (s:List UInt8):(Ce ⟨d,[]⟩ s).out.length≤14*s.length∧tx (Ce ⟨d,[]⟩ s).out≤14*s.length:=by
 have h1:=(Sp s ⟨d,[]⟩).2.2.1
 have h2:=Agc (Xq s ⟨d,[]⟩ Yq)
 simp only[List.length_nil] at h1
 omega
def Cj (d:Dcd) (s:List UInt8):Mac:=⟨(Ce ⟨d,[]⟩ s).d,B9 (Ce ⟨d,[]⟩ s).out⟩
theorem Pk (d:Dcd) (s:List UInt8):(Cj d s).d.plan=d.plan∧((Cj d s).d.stack.length:Int)≤max (d.stack.length:Int) 8∧(Cj d s).out.length≤14*s.length∧((0≤d.scan.bits∧d.scan.bits≤18446744073709551615)→0≤(Cj d s).d.scan.bits∧(Cj d s).d.scan.bits≤18446744073709551615):=by
 have h:=Sp s ⟨d,[]⟩
 have h2:=Agd d s
 have h3:=Qa (Ce ⟨d,[]⟩ s).out
 exact⟨h.1,h.2.1,Nat.le_trans h3 h2.1,h.2.2.2⟩
theorem Aci (d:Dcd) (s:List UInt8) (hp1:List.length (d).plan.shapes≤1048576) (hp2: ∀e∈(d).plan.shapes,List.length e.fields≤1048576) (hp3:List.length (d).stack≤1048576) (hp4:(0:Int)≤(d).scan.bits∧(d).scan.bits≤18446744073709551615) (hp5:List.length s≤1048576):Fun Tryz.prog 35 [.agg (Bu d),vT s] [] (.tup [.agg (Ad 0 1 (Cj d s).d),vO 2]) [.tree (Cj d s).d.plan.shapes,.lst .lev (Cj d s).d.stack,.lst .ev (Cj d s).out]:=by
 have hN:Bb=274877906944:=rfl
 have hfb:=Agd d s
 refine Ap Tryz.func35 Q4 Q4 (w:=let z1:=Ce ⟨d,[]⟩ s;let z2:S:= .tup [.agg (Ad 0 1 z1.d),vO 2];(.seg [.call [] z2 (Ls z1.d z1.out),.tree (.first 0 (.first 1 (.one 2 (.one 3 (.first 4 (.done)))))) 3 [],.call [] (.v (vO 0)) [.lst .ev (B9 z1.out)]] (.leaf () [2,3,6]),(Fp 47 [.agg (Bu d),vT s] [] z2 (Ls z1.d z1.out))∧(Fp 86 [.c (.seq .ev z1.out)] [] (.v (vO 0)) [.lst .ev (B9 z1.out)])∧Lf z2 (.tup [.agg (Ad 0 1 (Cj d s).d),vO 2]) (Ls z1.d (B9 z1.out)) (Ls (Cj d s).d (Cj d s).out))) Q4 ?_
 refine⟨(Af6 d _ Q2 (hp2) Q2 Q2 Q2),(Ah8 _ Q2 Q2),?_⟩
 have hm1:(Cj d s).d=(Ce ⟨d,[]⟩ s).d:=by rfl
 have hm2:(Cj d s).out=B9 (Ce ⟨d,[]⟩ s).out:=by rfl
 exact⟨Q6,Q10⟩
theorem Ajd (d:Dcd) (s:List UInt8) (hp1:List.length (d).plan.shapes≤1048576) (hp2: ∀e∈(d).plan.shapes,List.length e.fields≤1048576) (hp3:List.length (d).stack≤1048576) (hp4:(0:Int)≤(d).scan.bits∧(d).scan.bits≤18446744073709551615) (hp5:List.length s≤1048576):Fun Tryz.prog 84 [.agg (Bu d),vT s] [] (.tup [.agg (Ad 0 1 (Cj d s).d),vO 2]) [.tree (Cj d s).d.plan.shapes,.lst .lev (Cj d s).d.stack,.lst .ev (Cj d s).out]:=by
 have hN:Bb=274877906944:=rfl
 have hfb:=Agd d s
 refine Ap Tryz.func84 Q4 Q4 (w:=let z1:=Ce ⟨d,[]⟩ s;let z2:S:= .tup [.agg (Ad 0 1 z1.d),vO 2];(.seg [.call [] z2 (Ls z1.d z1.out),.tree (.first 0 (.first 1 (.one 2 (.one 3 (.first 4 (.done)))))) 3 [],.call [] (.v (vO 0)) [.lst .ev (B9 z1.out)]] (.leaf () [2,3,6]),(Fp 140 [.agg (Bu d),vT s] [] z2 (Ls z1.d z1.out))∧(Fp 40 [.c (.seq .ev z1.out)] [] (.v (vO 0)) [.lst .ev (B9 z1.out)])∧Lf z2 (.tup [.agg (Ad 0 1 (Cj d s).d),vO 2]) (Ls z1.d (B9 z1.out)) (Ls (Cj d s).d (Cj d s).out))) Q4 ?_
 refine⟨(Af8 d _ Q2 (hp2) Q2 Q2 Q2),(Yp _ Q2 Q2),?_⟩
 have hm1:(Cj d s).d=(Ce ⟨d,[]⟩ s).d:=by rfl
 have hm2:(Cj d s).out=B9 (Ce ⟨d,[]⟩ s).out:=by rfl
 exact⟨Q6,Q10⟩
def Te:List (List UInt8)→Nat
 |[]=>0
 |c::r=>c.length+Te r
theorem Vz: ∀(l:List (List UInt8)) (i:Nat),Te (l.drop i)≤Te l
 |[],i=>by simp[Te]
 |e::r,0=>Nat.le_refl _
 |e::r,i+1=>by have:=Vz r i;rw[List.drop_succ_cons,Te];omega
def Bx (m:Mac) (cs:List (List UInt8)):Mac:=cs.foldl (fun m c=>⟨(Cj m.d c).d,m.out++(Cj m.d c).out⟩) m
theorem Rn (m:Mac):Bx m []=m:=rfl
theorem Gb (m:Mac) (c:List UInt8) (r:List (List UInt8)):Bx m (c::r)=Bx ⟨(Cj m.d c).d,m.out++(Cj m.d c).out⟩ r:=List.foldl_cons ..
theorem Qb: ∀(cs:List (List UInt8)) (m:Mac),(Bx m cs).d.plan=m.d.plan∧((Bx m cs).d.stack.length:Int)≤max (m.d.stack.length:Int) 8∧(Bx m cs).out.length≤m.out.length+14*Te cs∧((0≤m.d.scan.bits∧m.d.scan.bits≤18446744073709551615)→0≤(Bx m cs).d.scan.bits∧(Bx m cs).d.scan.bits≤18446744073709551615)
 |[],m=>⟨rfl,by show (m.d.stack.length:Int)≤_;omega,Nat.le_refl _,fun h=>h⟩
 |c::r,m=>by
  have h1:=Pk m.d c
  have h2:=Qb r ⟨(Cj m.d c).d,m.out++(Cj m.d c).out⟩
  simp only[List.length_append] at h2
  rw[Gb,Te]
  exact⟨h2.1.trans h1.1,by omega,by omega,fun h=>h2.2.2.2 (h1.2.2.2 h)⟩
structure La where
 next:Dcd
 out:List Ev
 v:Nat
def Lb (d:Dcd) (l:List (List UInt8)):Fam:=⟨La,fun q1=>[(4,.v (vP 0)),(6,.v (vP 1)),(7,.v (vO 4)),(15,.v (.c (.seq .str l))),(16,.v (vI ((List.length l:Nat):Int))),(17,.v (vI ((q1.v:Nat):Int)))],fun q1=>[.cells [.nil,.int .i64 0,.int .i64 0,.int .i64 0,.int .i64 0,.nil,.int .u64 0,.int .i64 0,.int .i64 0,.int .i64 0,.int .i64 0,.int .i64 0,.bool false,.bool false,.int .i64 0,.int .i64 0,.int .i64 0,.int .i64 0,.int .i64 0,.int .i64 0,.int .i64 0,.int .i64 0,.int .u64 0,.int .i64 0,.str [],.int .i64 0,.int .i64 0],.cells (Ad 2 3 q1.next),.tree q1.next.plan.shapes,.lst .lev q1.next.stack,.lst .ev q1.out],fun q1=>q1.v≤List.length l∧Bx ⟨q1.next,q1.out⟩ (List.drop q1.v l)=Bx ⟨d,[]⟩ l∧(q1.next).plan=d.plan∧List.length (q1.next).stack≤1048576∧((0:Int)≤(q1.next).scan.bits∧(q1.next).scan.bits≤18446744073709551615)∧List.length q1.out+14*Te (List.drop q1.v l)≤14*Te l,fun q1=>List.length l-q1.v⟩
theorem Z2 (d:Dcd) (l:List (List UInt8)) (hp1:List.length (d).plan.shapes≤1048576) (hp2: ∀e∈(d).plan.shapes,List.length e.fields≤1048576) (hp3:List.length (d).stack≤1048576) (hp4:(0:Int)≤(d).scan.bits∧(d).scan.bits≤18446744073709551615) (hp5:List.length l≤1048576) (hp6:Te l≤1048576):Fun Tryz.prog 32 [.agg (Bu d),.c (.seq .str l)] [] (.tup [.agg (Ad 0 1 (Bx ⟨d,[]⟩ l).d),vO 2]) [.tree (Bx ⟨d,[]⟩ l).d.plan.shapes,.lst .lev (Bx ⟨d,[]⟩ l).d.stack,.lst .ev (Bx ⟨d,[]⟩ l).out]:=by
 have hN:Bb=274877906944:=rfl
 refine Ap Tryz.func32 Q4 Q4 (w:=let zi:Int→C:= .int .i64;let z4:List C:=[.nil,zi 0,zi 0,zi 0,zi 0,.nil,.int .u64 0,zi 0,zi 0,zi 0,zi 0,zi 0,.bool false,.bool false,zi 0,zi 0,zi 0,zi 0,zi 0,zi 0,zi 0,zi 0,.int .u64 0,zi 0,.str [],zi 0,zi 0];let z5:=((List.length l:Nat):Int);let z6:=Lb d l;let z7:=Bx ⟨d,[]⟩ l;(.seg [.call [] (.v (.agg (Ad 0 1 d))) (L2 d),.ty .ev,.at 0,.keep [4,6,7,15,16,17],.sel [1,5,2,3,4]] (.loop z6 fun q1=> .br (.intro (Sx (l[q1.v]?)) fun x1=>let z1:=Cj q1.next x1;.seg [.el .str x1,.call [] (.tup [.agg (Ad 0 1 z1.d),vO 2]) (Ls z1.d z1.out),.tree (fr (.one 3 (.one 4 (.first 5 (.done)))) 0 3) 4 [4,7],.ty .ev,.as 31 (.v (vI (((q1.v:Nat):Int)+1))),.at 0,.keep [4,6,7,15,16,17],.sel [0,1,5,6,9]] (.next)) (.leaf () [2,3,4])),(Fp 82 [.agg (Bu d)] [] (.v (.agg (Ad 0 1 d))) (L2 d))∧z6.Has [(4,.v (vP 0)),(6,.v (vP 1)),(7,.v (vO 4)),(15,.v (.c (.seq .str l))),(16,.v (vI z5)),(17,.v (vI 0))] [.cells z4,.cells (Ad 2 3 d),.tree d.plan.shapes,.lst .lev d.stack,.lst .ev ([]:List Ev)]∧∀q1,z6.inv q1→(let z3:=((q1.v:Nat):Int);Bc (decide (z3<z5)) (El (l[q1.v]?) fun x1=>(let z2:=Cj q1.next x1;(l[q1.v]? =some x1)∧((0:Int)≤z3)∧(Fp 35 [.agg (Bu q1.next),vT x1] [] (.tup [.agg (Ad 0 1 z2.d),vO 2]) (Ls z2.d z2.out))∧(List.length q1.out+List.length z2.out≤Bb)∧(wI (z3+1))∧z6.Nxt q1 [(4,.v (vP 0)),(6,.v (vP 1)),(7,.v (vO 4)),(15,.v (.c (.seq .str l))),(16,.v (vI z5)),(17,.v (vI (z3+1)))] [.cells z4,.cells (Ad 2 3 z2.d),.tree z2.d.plan.shapes,.lst .lev z2.d.stack,.lst .ev (q1.out++z2.out)])) (Lf (.tup [.agg (Ad 0 1 q1.next),vO 2]) (.tup [.agg (Ad 0 1 z7.d),vO 2]) (Ls q1.next q1.out) (Ls z7.d z7.out))))) Q4 ?_
 refine⟨(Zz d Q2 (Q61) Q2),Bf (j:=(⟨d,([]:List Ev),0⟩:La)) Q9 rfl (by dsimp only[Lb];exact⟨by omega,rfl,rfl,hp3,hp4,by simp⟩),fun (q1:La) hq_q1=>?_⟩
 have hi_q1:q1.v≤List.length l∧Bx ⟨q1.next,q1.out⟩ (List.drop q1.v l)=Bx ⟨d,[]⟩ l∧(q1.next).plan=d.plan∧List.length (q1.next).stack≤1048576∧((0:Int)≤(q1.next).scan.bits∧(q1.next).scan.bits≤18446744073709551615)∧List.length q1.out+14*Te (List.drop q1.v l)≤14*Te l:=hq_q1
 obtain ⟨v1,v2,v3,v4,v5,v6⟩:=hi_q1
 have hsl:List.length q1.next.plan.shapes=List.length d.plan.shapes:=by rw[v3]
 have hsf: ∀e∈q1.next.plan.shapes,List.length e.fields≤1048576:=by rw[v3];exact hp2
 have hbd:=Vz l q1.v
 refine dsp (fun h1 p1=>?_) fun h1 p1=>?_
 refine⟨(Bh (l:=l) (i:=q1.v) Q2),fun x1 hx1=>?_⟩
 rw[C2 hx1,Gb] at v2
 have hdb:Te (List.drop q1.v l)=x1.length+Te (List.drop (q1.v+1) l):=by rw[C2 hx1,Te]
 have hl:=Pk q1.next x1
 exact⟨hx1,Q2,(Aci q1.next _ Q2 (Q61) Q2 Q2 Q2),Q2,(Ac Q2 Q2),A3 (j:=(⟨(Cj q1.next x1).d,q1.out++(Cj q1.next x1).out,q1.v+1⟩:La)) Q9 rfl (by dsimp only[Lb];exact⟨by omega,v2,hl.1.trans v3,by omega,hl.2.2.2 v5,by rw[List.length_append];omega⟩) (by dsimp only[Lb];omega)⟩
 rw[List.drop_eq_nil_of_le (by omega),Rn] at v2
 refine zD ((Bx ⟨d,[]⟩ l).d) q1.next ((Bx ⟨d,[]⟩ l).out) q1.out (fun hm1 hm2=>⟨Q6,Q10⟩) ?_ ?_
 rotate_left 2
 all_goals first|((rw[←v2];done))|(rfl)|(grind)
structure Lc where
 d:Dcd
 out:List Ev
 i:Nat
def Ld (d:Dcd) (l:List (List UInt8)):Fam:=⟨Lc,fun q1=>[(1,.v (.c (.seq .str l))),(2,.v (vP 0)),(4,.v (vP 3)),(6,.v (vO 4)),(7,.v (vI ((q1.i:Nat):Int)))],fun q1=>[.cells (Ad 1 2 q1.d),.tree q1.d.plan.shapes,.lst .lev q1.d.stack,.cells [.nil,.int .i64 0,.int .i64 0,.int .i64 0,.int .i64 0,.nil,.int .u64 0,.int .i64 0,.int .i64 0,.int .i64 0,.int .i64 0,.int .i64 0,.bool false,.bool false,.int .i64 0,.int .i64 0,.int .i64 0,.int .i64 0,.int .i64 0,.int .i64 0,.int .i64 0,.int .i64 0,.int .u64 0,.int .i64 0,.str [],.int .i64 0,.int .i64 0],.lst .ev q1.out],fun q1=>q1.i≤List.length l∧Bx ⟨q1.d,q1.out⟩ (List.drop q1.i l)=Bx ⟨d,[]⟩ l∧(q1.d).plan=d.plan∧List.length (q1.d).stack≤1048576∧((0:Int)≤(q1.d).scan.bits∧(q1.d).scan.bits≤18446744073709551615)∧List.length q1.out+14*Te (List.drop q1.i l)≤14*Te l,fun q1=>List.length l-q1.i⟩
theorem Age (d:Dcd) (l:List (List UInt8)) (hp1:List.length (d).plan.shapes≤1048576) (hp2: ∀e∈(d).plan.shapes,List.length e.fields≤1048576) (hp3:List.length (d).stack≤1048576) (hp4:(0:Int)≤(d).scan.bits∧(d).scan.bits≤18446744073709551615) (hp5:List.length l≤1048576) (hp6:Te l≤1048576):Fun Tryz.prog 33 [.agg (Bu d),.c (.seq .str l)] [] (.tup [.agg (Ad 0 1 (Bx ⟨d,[]⟩ l).d),vO 2]) [.tree (Bx ⟨d,[]⟩ l).d.plan.shapes,.lst .lev (Bx ⟨d,[]⟩ l).d.stack,.lst .ev (Bx ⟨d,[]⟩ l).out]:=by
 have hN:Bb=274877906944:=rfl
 refine Ap Tryz.func33 Q4 Q4 (w:=let zi:Int→C:= .int .i64;let z5:List C:=[.nil,zi 0,zi 0,zi 0,zi 0,.nil,.int .u64 0,zi 0,zi 0,zi 0,zi 0,zi 0,.bool false,.bool false,zi 0,zi 0,zi 0,zi 0,zi 0,zi 0,zi 0,zi 0,.int .u64 0,zi 0,.str [],zi 0,zi 0];let z6:=Ld d l;let z7:=Bx ⟨d,[]⟩ l;(.seg [.call [] (.v (.agg (Ad 0 1 d))) (L2 d),.ty .ev,.at 0,.keep [1,2,4,6,7],.sel [0,2,3,1,4]] (.loop z6 fun q1=> .br (.intro (Sx (l[q1.i]?)) fun x1=>let z1:=Cj q1.d x1;.seg [.tree (fr (.two 5 (fr (.one 9 (.one 10 (.first 11 (.done)))) 6 3) 9 (.one 5 (fr (.one 10 (.first 11 (.done))) 6 3))) 0 5) 12 [],.el .str x1,.call [] (.tup [.agg (Ad 0 1 z1.d),vO 2]) (Ls z1.d z1.out),.at 0,.keep [1,2,4,6,7,8,9],.sel [0,1,2,3,4,8,5,6,7],.call [] (.tup [.agg (Ad 0 1 z1.d),vO 2]) (Ls z1.d z1.out),.at 0,.keep [1,2,4,6,7,8,9],.sel [0,1,2,3,4,5,6,7,8],.ty .ev,.as 18 (.v (vI (((q1.i:Nat):Int)+1))),.at 0,.keep [1,2,4,6,7],.sel [0,6,7,3,9]] (.next)) (.leaf () [1,2,4])),(Fp 83 [.agg (Bu d)] [] (.v (.agg (Ad 0 1 d))) (L2 d))∧z6.Has [(1,.v (.c (.seq .str l))),(2,.v (vP 0)),(4,.v (vP 3)),(6,.v (vO 4)),(7,.v (vI 0))] [.cells (Ad 1 2 d),.tree d.plan.shapes,.lst .lev d.stack,.cells z5,.lst .ev ([]:List Ev)]∧∀q1,z6.inv q1→(let z4:=((q1.i:Nat):Int);Bc (decide (z4<((List.length l:Nat):Int))) (El (l[q1.i]?) fun x1=>(let z3:=Cj q1.d x1;let z2:List Blk:=[.cells (Ad 1 2 q1.d),.tree q1.d.plan.shapes,.lst .lev q1.d.stack,.cells z5,.lst .ev q1.out,.cells (Ad 6 7 z3.d),.tree z3.d.plan.shapes,.lst .lev z3.d.stack,.lst .ev z3.out];(l[q1.i]? =some x1)∧((0:Int)≤z4)∧(l[q1.i]? =some x1)∧((0:Int)≤z4)∧(Fp 84 [.agg (Bu q1.d),vT x1] [] (.tup [.agg (Ad 0 1 z3.d),vO 2]) (Ls z3.d z3.out))∧(Fp 84 [.agg (Bu q1.d),vT x1] [] (.tup [.agg (Ad 0 1 z3.d),vO 2]) (Ls z3.d z3.out))∧((z2:List Blk)=z2)∧(([(1,.v (.c (.seq .str l))),(2,.v (vP 0)),(4,.v (vP 3)),(6,.v (vO 4)),(7,.v (vI z4)),(8,.v (vP 5)),(9,.v (vO 8))]:List (Nat×S))=[(1,.v (.c (.seq .str l))),(2,.v (vP 0)),(4,.v (vP 3)),(6,.v (vO 4)),(7,.v (vI z4)),(8,.v (vP 5)),(9,.v (vO 8))])∧(List.length q1.out+List.length z3.out≤Bb)∧(wI (z4+1))∧z6.Nxt q1 [(1,.v (.c (.seq .str l))),(2,.v (vP 0)),(4,.v (vP 3)),(6,.v (vO 4)),(7,.v (vI (z4+1)))] [.cells (Ad 1 2 z3.d),.tree z3.d.plan.shapes,.lst .lev z3.d.stack,.cells z5,.lst .ev (q1.out++z3.out)])) (Lf (.tup [.agg (Ad 0 1 q1.d),vO 2]) (.tup [.agg (Ad 0 1 z7.d),vO 2]) (Ls q1.d q1.out) (Ls z7.d z7.out))))) Q4 ?_
 refine⟨(Lw d Q2 (Q61) Q2),Bf (j:=(⟨d,([]:List Ev),0⟩:Lc)) Q9 rfl (by dsimp only[Ld];exact⟨by omega,rfl,rfl,hp3,hp4,by simp⟩),fun (q1:Lc) hq_q1=>?_⟩
 have hi_q1:q1.i≤List.length l∧Bx ⟨q1.d,q1.out⟩ (List.drop q1.i l)=Bx ⟨d,[]⟩ l∧(q1.d).plan=d.plan∧List.length (q1.d).stack≤1048576∧((0:Int)≤(q1.d).scan.bits∧(q1.d).scan.bits≤18446744073709551615)∧List.length q1.out+14*Te (List.drop q1.i l)≤14*Te l:=hq_q1
 obtain ⟨v1,v2,v3,v4,v5,v6⟩:=hi_q1
 have hsl:List.length q1.d.plan.shapes=List.length d.plan.shapes:=by rw[v3]
 have hsf: ∀e∈q1.d.plan.shapes,List.length e.fields≤1048576:=by rw[v3];exact hp2
 have hbd:=Vz l q1.i
 refine dsp (fun h1 p1=>?_) fun h1 p1=>?_
 refine⟨(Bh (l:=l) (i:=q1.i) Q2),fun x1 hx1=>?_⟩
 rw[C2 hx1,Gb] at v2
 have hdb:Te (List.drop q1.i l)=x1.length+Te (List.drop (q1.i+1) l):=by rw[C2 hx1,Te]
 have hl:=Pk q1.d x1
 exact⟨hx1,Q2,hx1,Q2,(Ajd q1.d _ Q2 (Q61) Q2 Q2 Q2),(Ajd q1.d _ Q2 (Q61) Q2 Q2 Q2),rfl,rfl,Q2,(Ac Q2 Q2),A3 (j:=(⟨(Cj q1.d x1).d,q1.out++(Cj q1.d x1).out,q1.i+1⟩:Lc)) Q9 rfl (by dsimp only[Ld];exact⟨by omega,v2,hl.1.trans v3,by omega,hl.2.2.2 v5,by rw[List.length_append];omega⟩) (by dsimp only[Ld];omega)⟩
 rw[List.drop_eq_nil_of_le (by omega),Rn] at v2
 refine zD ((Bx ⟨d,[]⟩ l).d) q1.d ((Bx ⟨d,[]⟩ l).out) q1.out (fun hm1 hm2=>⟨Q6,Q10⟩) ?_ ?_
 rotate_left 2
 all_goals first|((rw[←v2];done))|(rfl)|(grind)
structure Gu where
 i:Nat
def Jj (l:List Shp):Fam:=⟨Gu,fun q1=>[(2,.v (vP 0)),(3,.v (vP 1)),(5,.v (vI ((q1.i:Nat):Int)))],fun _=>[.cells [.seq .shp l],.cells [.seq .shp l]],fun q1=>q1.i≤List.length l,fun q1=>List.length l-q1.i⟩
structure Jk where
 k:Nat
def Gv (l:List Shp) (q1:Gu) (x1:Shp):Fam:=⟨Jk,fun q2=>[(2,.v (vP 0)),(3,.v (vP 1)),(5,.v (vI ((q1.i:Nat):Int))),(6,.v (vP 2)),(7,.v (vP 3)),(8,.v (vI ((q2.k:Nat):Int)))],fun _=>[.cells [.seq .shp l],.cells [.seq .shp l],.cells (Ai4 x1),.cells (Ai4 x1)],fun q2=>q2.k≤List.length x1.fields,fun q2=>List.length x1.fields-q2.k⟩
theorem Adq (l:List Shp) (hp1:List.length l≤Bb) (hp2: ∀e∈l,List.length e.fields≤Bb):Fun Tryz.prog 85 [.agg [.seq .shp l],.agg [.seq .shp l]] [] (.v (vB true)) []:=by
 have hN:Bb=274877906944:=rfl
 refine Ap Tryz.func85 Q4 Q4 (w:=let z7:=((List.length l:Nat):Int);let z8:=Jj l;let z9:List Blk:=[.cells [.seq .shp l],.cells [.seq .shp l]];(.seg [.br false,.at 0,.keep [2,3,5],.sel [0,1]] (.loop z8 fun q1=> .br (.intro (Sx (l[q1.i]?)) fun x1=> .seg [.el .shp x1,.el .shp x1,.br false,.br false,.at 0,.keep [2,3,5,6,7,8],.sel [0,1,2,3]] (.loop (Gv l q1 x1) fun q2=> .br (.intro (Sx (x1.fields[q2.k]?)) fun x2=> .seg [.ord (os 11 []) [],.el .fld x2,.el .fld x2] (.br (.leaf () []) (.seg [.as 53 (.v (vI (((q2.k:Nat):Int)+1))),.at 0,.keep [2,3,5,6,7,8],.sel [0,1,2,3]] (.next)))) (.seg [.as 22 (.v (vI (((q1.i:Nat):Int)+1))),.at 0,.keep [2,3,5],.sel [0,1]] (.next)))) (.leaf () [])),((!decide (z7=z7))=false)∧z8.Has [(2,.v (vP 0)),(3,.v (vP 1)),(5,.v (vI 0))] z9∧∀q1,z8.inv q1→(let z6:=((q1.i:Nat):Int);Bc (decide (z6<z7)) (El (l[q1.i]?) fun x1=>(let z3:List Blk:=[.cells [.seq .shp l],.cells [.seq .shp l],.cells (Ai4 x1),.cells (Ai4 x1)];let z4:=((List.length x1.fields:Nat):Int);let z5:=Gv l q1 x1;(l[q1.i]? =some x1)∧((0:Int)≤z6)∧(l[q1.i]? =some x1)∧((0:Int)≤z6)∧((!decide (x1.id=x1.id))=false)∧((!decide (z4=z4))=false)∧z5.Has [(2,.v (vP 0)),(3,.v (vP 1)),(5,.v (vI z6)),(6,.v (vP 2)),(7,.v (vP 3)),(8,.v (vI 0))] z3∧∀q2,z5.inv q2→(let z2:=((q2.k:Nat):Int);Bc (decide (z2<z4)) (El (x1.fields[q2.k]?) fun x2=>(let z1:=x1.fields[q2.k]? =some x2;z1∧((0:Int)≤z2)∧z1∧((0:Int)≤z2)∧z1∧((0:Int)≤z2)∧z1∧((0:Int)≤z2)∧Bc (!(decide (x2.number=x2.number)&&(decide (x2.kind=x2.kind)&&(decide (x2.rep=x2.rep)&&(decide (x2.packed=x2.packed)&&decide (x2.msg=x2.msg)))))) (Lf (.v (vB false)) (.v (vB true)) [] []) ((wI (z2+1))∧z5.Nxt q2 [(2,.v (vP 0)),(3,.v (vP 1)),(5,.v (vI z6)),(6,.v (vP 2)),(7,.v (vP 3)),(8,.v (vI (z2+1)))] z3))) ((wI (z6+1))∧z8.Nxt q1 [(2,.v (vP 0)),(3,.v (vP 1)),(5,.v (vI (z6+1)))] z9)))) (Lf (.v (vB true)) (.v (vB true)) [] [])))) Q4 ?_
 refine⟨Q84,Bf (j:=(⟨0⟩:Gu)) Q9 rfl (by dsimp only[Jj];omega),fun (q1:Gu) hq_q1=>?_⟩
 have hi_q1:q1.i≤List.length l:=hq_q1
 refine dsp (fun h1 p1=>?_) fun h1 p1=>?_
 refine⟨(Bh (l:=l) (i:=q1.i) Q2),fun x1 hx1=>?_⟩
 have hfx:=hp2 x1 (List.mem_of_getElem? hx1)
 refine⟨hx1,Q2,hx1,Q2,Q84,Q84,Bf (j:=(⟨0⟩:Jk)) Q9 rfl (by dsimp only[Gv];omega),fun (q2:Jk) hq_q2=>?_⟩
 have hi_q2:q2.k≤List.length x1.fields:=hq_q2
 refine dsp (fun h2 p2=>?_) fun h2 p2=>?_
 refine⟨(Bh (l:=x1.fields) (i:=q2.k) Q2),fun x2 hx2=>?_⟩
 refine⟨hx2,Q2,hx2,Q2,hx2,Q2,hx2,Q2,fun h3=>have q3:=Ao h3;have p3:=(Ci dT (Ci dT (Ci dT (Ci dT dF)))).1 q3;?_,fun h3=>have q3:=An h3;have p3:=(Ch dT (Ch dT (Ch dT (Ch dT dT)))).1 q3;?_⟩
 refine⟨(sB ?_),rfl⟩
 rotate_left
 exact⟨(Ac Q2 Q2),A3 (j:=(⟨q2.k+1⟩:Jk)) Q9 rfl (by dsimp only[Gv];omega) (by dsimp only[Gv];omega)⟩
 exact⟨(Ac Q2 Q2),A3 (j:=(⟨q1.i+1⟩:Gu)) Q9 rfl (by dsimp only[Jj];omega) (by dsimp only[Jj];omega)⟩
 exact⟨rfl,rfl⟩
 all_goals first|(rfl)|((simp;done))|((exfalso;simp_all;done))
structure Jm where
 i:Nat
def Jn (d:Dcd):Fam:=⟨Jm,fun q1=>[(2,.v (vP 0)),(3,.v (vP 1)),(5,.v (vI ((q1.i:Nat):Int)))],fun _=>[.cells (Bu d),.cells (Bu d)],fun q1=>q1.i≤List.length d.stack,fun q1=>List.length d.stack-q1.i⟩
theorem Adr (d:Dcd) (hp1:List.length (d).plan.shapes≤Bb) (hp2: ∀e∈(d).plan.shapes,List.length e.fields≤Bb) (hp3:List.length (d).stack≤Bb):Fun Tryz.prog 34 [.agg (Bu d),.agg (Bu d)] [] (.v (vB true)) []:=by
 have hN:Bb=274877906944:=rfl
 refine Ap Tryz.func34 Q4 Q4 (w:=let z4:=((List.length d.stack:Nat):Int);let z5:=Jn d;let z6:S:= .v (vB true);let z3:=Lf (.v (vB false)) z6 [] [];(.seg [.call [] z6 [],.br false,.br false,.br false,.br false,.br false,.at 0,.keep [2,3,5],.sel [0,1]] (.loop z5 fun q1=> .br (.intro (Sx (d.stack[q1.i]?)) fun x1=> .seg [.ord (os 11 []) [],.el .lev x1,.el .lev x1] (.br (.leaf () []) (.seg [.as 56 (.v (vI (((q1.i:Nat):Int)+1))),.at 0,.keep [2,3,5],.sel [0,1]] (.next)))) (.seg [.br true] (.br (.seg [.br true,.br true] (.br (.seg [.br true,.br true] (.br (.leaf () []) (.leaf () []))) (.leaf () []))) (.leaf () [])))),(Fp 85 [.agg [.seq .shp d.plan.shapes],.agg [.seq .shp d.plan.shapes]] [] z6 [])∧((!true)=false)∧((!decide (d.plan.root=d.plan.root))=false)∧((!decide (d.plan.deep=d.plan.deep))=false)∧((!decide (d.plan.most=d.plan.most))=false)∧((!decide (z4=z4))=false)∧z5.Has [(2,.v (vP 0)),(3,.v (vP 1)),(5,.v (vI 0))] [.cells (Bu d),.cells (Bu d)]∧∀q1,z5.inv q1→(let z2:=((q1.i:Nat):Int);Bc (decide (z2<z4)) (El (d.stack[q1.i]?) fun x1=>(let z1:=d.stack[q1.i]? =some x1;z1∧((0:Int)≤z2)∧z1∧((0:Int)≤z2)∧z1∧((0:Int)≤z2)∧z1∧((0:Int)≤z2)∧Bc (!(decide (x1.msg=x1.msg)&&decide (x1.left=x1.left))) z3 ((wI (z2+1))∧z5.Nxt q1 [(2,.v (vP 0)),(3,.v (vP 1)),(5,.v (vI (z2+1)))] [.cells (Bu d),.cells (Bu d)]))) (((decide (d.mode=d.mode))=true)∧Bc (decide (d.scan.bits=d.scan.bits)&&decide (d.scan.have_=d.scan.have_)) (((decide (d.start=d.start))=true)∧((decide (d.at_=d.at_))=true)∧Bc (decide (d.field.number=d.field.number)&&(decide (d.field.kind=d.field.kind)&&(decide (d.field.rep=d.field.rep)&&(decide (d.field.packed=d.field.packed)&&decide (d.field.msg=d.field.msg))))) (((decide (d.wire=d.wire))=true)∧((decide (d.want=d.want))=true)∧Bc (decide (d.utf.want=d.utf.want)&&(decide (d.utf.low=d.utf.low)&&decide (d.utf.high=d.utf.high))) (Lf (.v (vB (decide (d.end_.kind=d.end_.kind)&&(decide (d.end_.field=d.end_.field)&&(decide (d.end_.bits=d.end_.bits)&&(decide (d.end_.len=d.end_.len)&&(decide (d.end_.text=d.end_.text)&&(decide (d.end_.code=d.end_.code)&&decide (d.end_.at_=d.end_.at_))))))))) z6 [] []) z3) z3) z3)))) Q4 ?_
 refine⟨(Adq d.plan.shapes Q2 (hp2)),Q28,Q84,Q84,Q84,Q84,Bf (j:=(⟨0⟩:Jm)) Q9 rfl (by dsimp only[Jn];omega),fun (q1:Jm) hq_q1=>?_⟩
 have hi_q1:q1.i≤List.length d.stack:=hq_q1
 refine dsp (fun h1 p1=>?_) fun h1 p1=>?_
 refine⟨(Bh (l:=d.stack) (i:=q1.i) Q2),fun x1 hx1=>?_⟩
 refine⟨hx1,Q2,hx1,Q2,hx1,Q2,hx1,Q2,fun h2=>have q2:=Ao h2;have p2:=(Ci dT dF).1 q2;?_,fun h2=>have q2:=An h2;have p2:=(Ch dT dT).1 q2;?_⟩
 refine⟨(sB ?_),rfl⟩
 rotate_left
 exact⟨(Ac Q2 Q2),A3 (j:=(⟨q1.i+1⟩:Jm)) Q9 rfl (by dsimp only[Jn];omega) (by dsimp only[Jn];omega)⟩
 refine⟨Q84,fun h2=>have p2:=(Ch dT dT).1 h2;?_,fun h2=>have p2:=(Ci dT dF).1 h2;?_⟩
 refine⟨Q84,Q84,fun h3=>have p3:=(Ch dT (Ch dT (Ch dT (Ch dT dT)))).1 h3;?_,fun h3=>have p3:=(Ci dT (Ci dT (Ci dT (Ci dT dF)))).1 h3;?_⟩
 refine⟨Q84,Q84,fun h4=>have p4:=(Ch dT (Ch dT dT)).1 h4;?_,fun h4=>have p4:=(Ci dT (Ci dT dF)).1 h4;?_⟩
 refine⟨(sB ?_),rfl⟩
 rotate_left
 refine⟨(sB ?_),rfl⟩
 rotate_left
 refine⟨(sB ?_),rfl⟩
 rotate_left
 refine⟨(sB ?_),rfl⟩
 rotate_left
 all_goals first|(rfl)|((simp;done))|((exfalso;simp_all;done))
theorem V0 (a:Dcd) (b:Dcd) (hp1:a=b) (hp2:List.length (a).plan.shapes≤Bb) (hp3: ∀e∈(a).plan.shapes,List.length e.fields≤Bb) (hp4:List.length (a).stack≤Bb):Fun Tryz.prog 34 [.agg (Bu a),.agg (Bu b)] [] (.v (vB true)) []:=by subst hp1;exact Adr a hp2 hp3 hp4
theorem Amo {x y:Ev} (h:x.kind=y.kind∧x.field=y.field∧x.bits=y.bits∧x.len=y.len∧x.text=y.text∧x.code=y.code∧x.at_=y.at_):x=y:=by
 cases x;cases y;simp at h ⊢;exact h
theorem Agf {a b:List Ev} {i:Nat} {x y:Ev} (h:a.take i=b.take i) (hx:a[i]? =some x) (hy:b[i]? =some y) (e:x=y):a.take (i+1)=b.take (i+1):=by
 rw[List.take_add_one,List.take_add_one,h,hx,hy,e]
theorem Aia {a b:List Ev} {i:Nat} (h:a.take i=b.take i) (hl:a.length=b.length) (hi:a.length≤i):a=b:=by
 rwa [List.take_of_length_le hi,List.take_of_length_le (by omega)] at h
structure Le where
 i:Nat
def Lg (a:List Ev) (b:List Ev):Fam:=⟨Le,fun q1=>[(0,.v (.c (.seq .ev a))),(1,.v (.c (.seq .ev b))),(5,.v (vI ((q1.i:Nat):Int)))],fun _=>[],fun q1=>q1.i≤List.length a∧List.length a=List.length b∧List.take q1.i a=List.take q1.i b,fun q1=>List.length a-q1.i⟩
theorem V2 (a:List Ev) (b:List Ev) (hp1:List.length a≤Bb) (hp2:List.length b≤Bb):Fun Tryz.prog 22 [.c (.seq .ev a),.c (.seq .ev b)] [] (.v (vB (decide (a=b)))) []:=by
 have hN:Bb=274877906944:=rfl
 refine Ap Tryz.func22 Q4 Q4 (w:=let z2:=Lf (.v (vB false)) (.v (vB (decide (a=b)))) [] [];let z3:=Lg a b;(.br (.leaf () []) (.seg [.at 0,.keep [0,1,5],.sel []] (.loop z3 fun q1=> .br (.intro (Sx (a[q1.i]?)) fun x1=> .intro (Sx (b[q1.i]?)) fun x2=> .seg [.ord (os 9 []) [],.el .ev x1,.el .ev x2] (.br (.leaf () []) (.seg [.as 16 (.v (vI (((q1.i:Nat):Int)+1))),.at 0,.keep [0,1,5],.sel []] (.next)))) (.leaf () []))),Bc (!decide (((List.length a:Nat):Int)=((List.length b:Nat):Int))) z2 (z3.Has [(0,.v (.c (.seq .ev a))),(1,.v (.c (.seq .ev b))),(5,.v (vI 0))] []∧∀q1,z3.inv q1→(let z1:=((q1.i:Nat):Int);Bc (decide (z1<((List.length a:Nat):Int))) (El (a[q1.i]?) fun x1=>(El (b[q1.i]?) fun x2=>((a[q1.i]? =some x1)∧((0:Int)≤z1)∧(a[q1.i]? =some x1)∧((0:Int)≤z1)∧(b[q1.i]? =some x2)∧((0:Int)≤z1)∧(b[q1.i]? =some x2)∧((0:Int)≤z1)∧Bc (!(decide (x1.kind=x2.kind)&&(decide (x1.field=x2.field)&&(decide (x1.bits=x2.bits)&&(decide (x1.len=x2.len)&&(decide (x1.text=x2.text)&&(decide (x1.code=x2.code)&&decide (x1.at_=x2.at_)))))))) z2 ((wI (z1+1))∧z3.Nxt q1 [(0,.v (.c (.seq .ev a))),(1,.v (.c (.seq .ev b))),(5,.v (vI (z1+1)))] [])))) (Lf (.v (vB true)) (.v (vB (decide (a=b)))) [] []))))) Q4 ?_
 refine⟨fun h1=>have q1:=Ao h1;have p1:=of_decide_eq_false q1;?_,fun h1=>have q1:=An h1;have p1:=of_decide_eq_true q1;?_⟩
 refine⟨(sB ?_),rfl⟩
 rotate_left
 refine⟨Bf (j:=(⟨0⟩:Le)) Q9 rfl (by dsimp only[Lg];exact⟨by omega,by omega,by simp⟩),fun (q1:Le) hq_q1=>?_⟩
 have hi_q1:q1.i≤List.length a∧List.length a=List.length b∧List.take q1.i a=List.take q1.i b:=hq_q1
 obtain ⟨v1,v2,v3⟩:=hi_q1
 refine dsp (fun h2 p2=>?_) fun h2 p2=>?_
 refine⟨(Bh (l:=a) (i:=q1.i) Q2),fun x1 hx1=>?_⟩
 refine⟨(Bh (l:=b) (i:=q1.i) Q2),fun x2 hx2=>?_⟩
 refine⟨hx1,Q2,hx1,Q2,hx2,Q2,hx2,Q2,fun h3=>have q3:=Ao h3;have p3:=(Ci dT (Ci dT (Ci dT (Ci dT (Ci dT (Ci dT dF)))))).1 q3;?_,fun h3=>have q3:=An h3;have p3:=(Ch dT (Ch dT (Ch dT (Ch dT (Ch dT (Ch dT dT)))))).1 q3;?_⟩
 refine⟨(sB ?_),rfl⟩
 rotate_left
 exact⟨(Ac Q2 Q2),A3 (j:=(⟨q1.i+1⟩:Le)) Q9 rfl (by dsimp only[Lg];exact⟨by omega,v2,Agf v3 hx1 hx2 (Amo p3)⟩) (by dsimp only[Lg];omega)⟩
 refine⟨(sB ?_),rfl⟩
 rotate_left
 all_goals first|(exact(decide_eq_true (Aia v3 v2 (by omega))).symm)|(exact(decide_eq_false (fun h=>by subst h;omega)).symm)|(exact(decide_eq_false (fun h=>by subst h;rw[hx1] at hx2;cases hx2;simp at p3)).symm)
structure Cur where
 b:List Int
 i:Int
 h:Int
def Av (c:Cur):Prop:=0≤c.i∧c.b.length≤1048576
def Bz (x:Cur):List C:=[.seq .u8 x.b,.int .i64 x.i,.int .i64 x.h]
abbrev Kc (c:Cur):List Blk:=[.cells (Bz c)]
structure L3 where
 x:Int
 c1:Cur
def Gc (c:Cur) (o:L3):Prop:=Fun Tryz.prog 115 [vP 0] [.cells (Bz c)] (.v (vI o.x)) [.cells (Bz o.c1)]
def D1 (c:Cur) (o:L3):Prop:=(((0:Int)≤o.x∧o.x≤255)∧(Av o.c1))∧Gc c o
theorem M3 (c:Cur) (hp1:Av c): ∃o:L3,D1 c o:=by
 have hN:Bb=274877906944:=rfl
 have hcb:=hp1.1
 have hcl:=hp1.2
 refine Br Tryz.func115 Q4 Q4 (w:=let z5:=(IntKind.i64.wrap (c.h*6364136223846793005))+1442695040888963407;let z3:=IntKind.i64.wrap z5;let z8:=(.v (vI (Int.fdiv z3 (2 ^ 33))):S)= .v (vI (z3 / 8589934592));let z10:List Blk:=[.cells [.seq .u8 c.b,.int .i64 (c.i+1),.int .i64 z3]];let z11:List Blk:=[.cells [.seq .u8 c.b,.int .i64 c.i,.int .i64 z3]];let z12:=z3 / 35184372088832;let z4:=IntKind.i64.wrap (((BitVec.ofInt 64 (z3 / 8589934592) ^^^ BitVec.ofInt 64 z12).toNat:Nat));let z7:=(.v (vI (Int.fdiv z3 (2 ^ 45))):S)= .v (vI z12);let z9:=z4 % 256;let z6:=(.v (vI (IntKind.i64.wrap (((BitVec.ofInt 64 z4&&&BitVec.ofInt 64 255).toNat:Nat)))):S)= .v (vI z9);(.seg [.ord (os 13 []) [],.as 17 (.v (vI (z3 / 8589934592))),.as 22 (.v (vI z12)),.as 24 (.v (vI z9)),.ord (os 10 []) []] (.br (.intro (Sx (c.b[Int.toNat c.i]?)) fun x1=>let z1:=IntKind.i64.wrap (z9+(IntKind.i64.wrap (x1)));.seg [.ord (os 15 []) [],.el .u8 x1,.as 48 (.v (vI (z1 % 256))),.as 54 (.v (vI (c.i+1)))] (.leaf (⟨z1 % 256,(⟨c.b,c.i+1,IntKind.i64.wrap z5⟩:Cur)⟩:L3) [0])) (.leaf (⟨z4 % 256,(⟨c.b,c.i,IntKind.i64.wrap z5⟩:Cur)⟩:L3) [0])),((0:Int)≤33)∧((0:Int)≤33)∧z8∧z8∧((0:Int)≤45)∧((0:Int)≤45)∧z7∧z7∧z6∧z6∧Bc (decide (c.i<((List.length c.b:Nat):Int))) (El (c.b[Int.toNat c.i]?) fun x1=>(let z2:=IntKind.i64.wrap (z9+(IntKind.i64.wrap (x1)));(c.b[Int.toNat c.i]? =some x1)∧((0:Int)≤c.i)∧(c.b[Int.toNat c.i]? =some x1)∧((0:Int)≤c.i)∧((.v (vI (IntKind.i64.wrap (((BitVec.ofInt 64 z2&&&BitVec.ofInt 64 255).toNat:Nat)))):S)= .v (vI (z2 % 256)))∧((.v (vI (IntKind.i64.wrap (((BitVec.ofInt 64 z2&&&BitVec.ofInt 64 255).toNat:Nat)))):S)= .v (vI (z2 % 256)))∧(wI (c.i+1))∧(((0:Int)≤(z2 % 256)∧(z2 % 256)≤255)∧(Av (⟨c.b,c.i+1,IntKind.i64.wrap z5⟩:Cur)))∧Lf (.v (vI (z2 % 256))) (.v (vI (z2 % 256))) z10 z10)) ((((0:Int)≤z9∧z9≤255)∧(Av (⟨c.b,c.i,IntKind.i64.wrap z5⟩:Cur)))∧Lf (.v (vI z9)) (.v (vI z9)) z11 z11))) Q4 ?_
 refine⟨Q28,Q28,(W9 (k:=33) Q28 Q28),(W9 (k:=33) Q28 Q28),Q28,Q28,(W9 (k:=45) Q28 Q28),(W9 (k:=45) Q28 Q28),(F0 (k:=8) Q28 Q28),(F0 (k:=8) Q28 Q28),dsp (fun h1 p1=>?_) fun h1 p1=>?_⟩
 refine⟨(Bh (l:=c.b) (i:=Int.toNat c.i) Q2),fun x1 hx1=>?_⟩
 exact⟨hx1,Q2,hx1,Q2,(F0 (k:=8) Q28 Q28),(F0 (k:=8) Q28 Q28),(Ac Q2 Q2),⟨Q2,Q0⟩,rfl,rfl⟩
 exact⟨⟨Q2,Q0⟩,rfl,rfl⟩
structure Co where
 x:Int
 c1:Cur
def Ai (c:Cur) (n:Int) (o:Co):Prop:=Fun Tryz.prog 63 [vP 0,vI n] [.cells (Bz c)] (.v (vI o.x)) [.cells (Bz o.c1)]
def Aa (c:Cur) (n:Int) (o:Co):Prop:=(((0:Int)≤o.x)∧((1:Int)≤n→o.x<n)∧(n≤(0:Int)→o.x=(0:Int))∧(Av o.c1))∧Ai c n o
theorem Am (c:Cur) (n:Int) (hp1:Av c): ∃o:Co,Aa c n o:=by
 have hN:Bb=274877906944:=rfl
 refine Br Tryz.func63 Q4 Q4 (w:=let z8:=D1 c;(.br (.leaf (⟨0,c⟩:Co) [0]) (.br (.intro z8 fun o1=> .seg [.call [0] (.v (vI o1.x)) (Kc o1.c1)] (.leaf (⟨Int.tmod o1.x n,o1.c1⟩:Co) [0])) (.intro z8 fun o1=> .seg [.call [0] (.v (vI o1.x)) (Kc o1.c1)] (.intro (D1 o1.c1) fun o2=>let z6:=(o1.x*16777216)+(o2.x*65536);.seg [.call [0] (.v (vI o2.x)) (Kc o2.c1)] (.intro (D1 o2.c1) fun o3=>let z4:=z6+(o3.x*256);.seg [.call [0] (.v (vI o3.x)) (Kc o3.c1)] (.intro (D1 o3.c1) fun o4=>let z2:=z4+o4.x;.seg [.call [0] (.v (vI o4.x)) (Kc o4.c1),.as 26 (.v (vI (o1.x*16777216))),.as 28 (.v (vI (o2.x*65536))),.as 29 (.v (vI z6)),.as 31 (.v (vI (o3.x*256))),.as 32 (.v (vI z4)),.as 34 (.v (vI z2))] (.leaf (⟨Int.tmod z2 n,o4.c1⟩:Co) [0])))))),Bc (decide (n≤0)) ((((0:Int)≤0)∧((1:Int)≤n→0<n)∧(n≤(0:Int)→0=(0:Int))∧(Av c))∧Lf (.v (vI 0)) (.v (vI 0)) (Kc c) (Kc c)) (Bc (decide (n≤256)) (In z8 fun o1=>(let z1:=Int.tmod o1.x n;(Gc c o1)∧(n≠0)∧(((0:Int)≤z1)∧((1:Int)≤n→z1<n)∧(n≤(0:Int)→z1=(0:Int))∧(Av o1.c1))∧Lf (.v (vI z1)) (.v (vI z1)) (Kc o1.c1) (Kc o1.c1))) (In z8 fun o1=>((Gc c o1)∧In (D1 o1.c1) fun o2=>(let z7:=(o1.x*16777216)+(o2.x*65536);(Gc o1.c1 o2)∧In (D1 o2.c1) fun o3=>(let z5:=z7+(o3.x*256);(Gc o2.c1 o3)∧In (D1 o3.c1) fun o4=>(let z3:=z5+o4.x;(Gc o3.c1 o4)∧(wI (o1.x*16777216))∧(wI (o2.x*65536))∧(wI z7)∧(wI (o3.x*256))∧(wI z5)∧(wI z3)∧(n≠0)∧(((0:Int)≤(Int.tmod z3 n))∧((1:Int)≤n→(Int.tmod z3 n)<n)∧(n≤(0:Int)→(Int.tmod z3 n)=(0:Int))∧(Av o4.c1))∧Lf (.v (vI (Int.tmod z3 n))) (.v (vI (Int.tmod z3 n))) (Kc o4.c1) (Kc o4.c1))))))))) Q4 ?_
 refine dsp (fun h1 p1=>?_) fun h1 p1=>?_
 exact⟨⟨Q2,Q2,Q2,Q0⟩,rfl,rfl⟩
 refine dsp (fun h2 p2=>?_) fun h2 p2=>?_
 refine⟨(M3 c Q0),fun o1 ho_o1=>?_⟩
 obtain ⟨⟨hp_o1_0,hp_o1_1⟩,hf_o1⟩:=ho_o1
 exact⟨hf_o1,Q2,⟨(by have:=Pd o1.x n;omega),(by have:=Pd o1.x n;omega),(by have:=Pd o1.x n;omega),Q0⟩,rfl,rfl⟩
 refine⟨(M3 c Q0),fun o1 ho_o1=>?_⟩
 obtain ⟨⟨hp_o1_0,hp_o1_1⟩,hf_o1⟩:=ho_o1
 refine⟨hf_o1,(M3 o1.c1 Q0),fun o2 ho_o2=>?_⟩
 obtain ⟨⟨hp_o2_0,hp_o2_1⟩,hf_o2⟩:=ho_o2
 refine⟨hf_o2,(M3 o2.c1 Q0),fun o3 ho_o3=>?_⟩
 obtain ⟨⟨hp_o3_0,hp_o3_1⟩,hf_o3⟩:=ho_o3
 refine⟨hf_o3,(M3 o3.c1 Q0),fun o4 ho_o4=>?_⟩
 obtain ⟨⟨hp_o4_0,hp_o4_1⟩,hf_o4⟩:=ho_o4
 exact⟨hf_o4,(Ac Q2 Q2),(Ac Q2 Q2),(Ac Q2 Q2),(Ac Q2 Q2),(Ac Q2 Q2),(Ac Q2 Q2),Q2,⟨Q70,Q70,Q70,Q0⟩,rfl,rfl⟩
structure Qc where
 p:Bool
 c1:Cur
def Bg (c:Cur) (n:Int) (o:Qc):Prop:=Fun Tryz.prog 73 [vP 0,vI n] [.cells (Bz c)] (.v (vB o.p)) [.cells (Bz o.c1)]
def Aq (c:Cur) (n:Int) (o:Qc):Prop:=((Av o.c1))∧Bg c n o
theorem By (c:Cur) (n:Int) (hp1:Av c): ∃o:Qc,Aq c n o:=by
 have hN:Bb=274877906944:=rfl
 refine Br Tryz.func73 Q4 Q4 (w:=(.intro (Aa c n) fun o1=> .seg [.call [0] (.v (vI o1.x)) (Kc o1.c1)] (.leaf (⟨decide (o1.x=0),o1.c1⟩:Qc) [0]),In (Aa c n) fun o1=>((Ai c n o1)∧((Av o1.c1))∧Lf (.v (vB (decide (o1.x=0)))) (.v (vB (decide (o1.x=0)))) (Kc o1.c1) (Kc o1.c1)))) Q4 ?_
 refine⟨(Am c n Q0),fun o1 ho_o1=>?_⟩
 obtain ⟨⟨hp_o1_0,hp_o1_1,hp_o1_2,hp_o1_3⟩,hf_o1⟩:=ho_o1
 exact⟨hf_o1,Q0,rfl,rfl⟩
structure Jo where
 x:Int
 c1:Cur
def B5 (c:Cur) (l:List Int) (o:Jo):Prop:=Fun Tryz.prog 67 [vP 0,.c (.seq .int l)] [.cells (Bz c)] (.v (vI o.x)) [.cells (Bz o.c1)]
def A4 (c:Cur) (l:List Int) (o:Jo):Prop:=((o.x∈l)∧(Av o.c1))∧B5 c l o
theorem Cv (c:Cur) (l:List Int) (hp1:Av c) (hp2:1≤List.length l) (hp3:List.length l≤1000): ∃o:Jo,A4 c l o:=by
 have hN:Bb=274877906944:=rfl
 refine Br Tryz.func67 Q4 Q4 (w:=let z1:=((List.length l:Nat):Int);(.intro (Aa c z1) fun o1=> .seg [.call [0] (.v (vI o1.x)) (Kc o1.c1)] (.intro (Sx (l[Int.toNat o1.x]?)) fun x1=> .seg [.el .int x1] (.leaf (⟨x1,o1.c1⟩:Jo) [0])),In (Aa c z1) fun o1=>((Ai c z1 o1)∧El (l[Int.toNat o1.x]?) fun x1=>((l[Int.toNat o1.x]? =some x1)∧((0:Int)≤o1.x)∧((x1∈l)∧(Av o1.c1))∧Lf (.v (vI x1)) (.v (vI x1)) (Kc o1.c1) (Kc o1.c1))))) Q4 ?_
 refine⟨(Am c ((List.length l:Nat):Int) Q0),fun o1 ho_o1=>?_⟩
 obtain ⟨⟨hp_o1_0,hp_o1_1,hp_o1_2,hp_o1_3⟩,hf_o1⟩:=ho_o1
 refine⟨hf_o1,(Bh (l:=l) (i:=Int.toNat o1.x) Q2),fun x1 hx1=>?_⟩
 exact⟨hx1,Q2,⟨(List.mem_of_getElem? hx1),Q0⟩,rfl,rfl⟩
structure He where
 x:Int
 c1:Cur
def Ro (c:Cur) (o:He):Prop:=Fun Tryz.prog 247 [vP 0] [.cells (Bz c)] (.v (vI o.x)) [.cells (Bz o.c1)]
def Ke (c:Cur) (o:He):Prop:=((Av o.c1))∧Ro c o
theorem Z3 (c:Cur) (hp1:Av c): ∃o:He,Ke c o:=by
 have hN:Bb=274877906944:=rfl
 refine Br Tryz.func247 Q4 Q4 (w:=let z1:= -9223372036854775808;(.intro (Aa c 3) fun o1=> .seg [.call [0] (.v (vI o1.x)) (Kc o1.c1)] (.br (.seg [.ty .int,.pubS 8] (.intro (A4 o1.c1 [0,1,(-1),9,10,127,128,999999999,1000000000,9223372036854775807,z1]) fun o2=> .seg [.call [0] (.v (vI o2.x)) (Kc o2.c1)] (.leaf (⟨o2.x,o2.c1⟩:He) [0]))) (.br (.intro (Aa o1.c1 1000000) fun o2=> .seg [.call [0] (.v (vI o2.x)) (Kc o2.c1),.as 14 (.v (vI (o2.x-500000)))] (.leaf (⟨o2.x-500000,o2.c1⟩:He) [0])) (.intro (Aa o1.c1 20) fun o2=> .seg [.call [0] (.v (vI o2.x)) (Kc o2.c1)] (.leaf (⟨o2.x,o2.c1⟩:He) [0])))),In (Aa c 3) fun o1=>((Ai c 3 o1)∧Bc (decide (o1.x=0)) (In (A4 o1.c1 [0,1,(-1),9,10,127,128,999999999,1000000000,9223372036854775807,z1]) fun o2=>((B5 o1.c1 [0,1,(-1),9,10,127,128,999999999,1000000000,9223372036854775807,z1] o2)∧((Av o2.c1))∧Lf (.v (vI o2.x)) (.v (vI o2.x)) (Kc o2.c1) (Kc o2.c1))) (Bc (decide (o1.x=1)) (In (Aa o1.c1 1000000) fun o2=>((Ai o1.c1 1000000 o2)∧(wI (o2.x-500000))∧((Av o2.c1))∧Lf (.v (vI (o2.x-500000))) (.v (vI (o2.x-500000))) (Kc o2.c1) (Kc o2.c1))) (In (Aa o1.c1 20) fun o2=>((Ai o1.c1 20 o2)∧((Av o2.c1))∧Lf (.v (vI o2.x)) (.v (vI o2.x)) (Kc o2.c1) (Kc o2.c1))))))) Q4 ?_
 refine⟨(Am c 3 Q0),fun o1 ho_o1=>?_⟩
 obtain ⟨⟨hp_o1_0,hp_o1_1,hp_o1_2,hp_o1_3⟩,hf_o1⟩:=ho_o1
 refine⟨hf_o1,dsp (fun h1 p1=>?_) fun h1 p1=>?_⟩
 refine⟨(Cv o1.c1 [0,1,(-1),9,10,127,128,999999999,1000000000,9223372036854775807,(-9223372036854775808)] Q0 Q5 Q5),fun o2 ho_o2=>?_⟩
 obtain ⟨⟨hp_o2_0,hp_o2_1⟩,hf_o2⟩:=ho_o2
 exact⟨hf_o2,Q0,rfl,rfl⟩
 refine dsp (fun h2 p2=>?_) fun h2 p2=>?_
 refine⟨(Am o1.c1 1000000 Q0),fun o2 ho_o2=>?_⟩
 obtain ⟨⟨hp_o2_0,hp_o2_1,hp_o2_2,hp_o2_3⟩,hf_o2⟩:=ho_o2
 exact⟨hf_o2,(Ac Q2 Q2),Q0,rfl,rfl⟩
 refine⟨(Am o1.c1 20 Q0),fun o2 ho_o2=>?_⟩
 obtain ⟨⟨hp_o2_0,hp_o2_1,hp_o2_2,hp_o2_3⟩,hf_o2⟩:=ho_o2
 exact⟨hf_o2,Q0,rfl,rfl⟩
structure Pm where
 c1:Cur
def V3 (b:List Int) (o:Pm):Prop:=Fun Tryz.prog 61 [.c (.seq .u8 b)] [] (.v (vP 0)) [.cells (Bz o.c1)]
def Pn (b:List Int) (o:Pm):Prop:=((Av o.c1))∧V3 b o
structure Qd where
 h:Int
 i:Nat
def Qe (b:List Int):Fam:=⟨Qd,fun q1=>[(0,.v (.c (.seq .u8 b))),(3,.v (vI q1.h)),(4,.v (vI ((q1.i:Nat):Int)))],fun _=>[],fun q1=>q1.i≤List.length b∧(0:Int)≤q1.h∧q1.h≤1073741823,fun q1=>List.length b-q1.i⟩
theorem Agg (b:List Int) (hp1:List.length b≤1048576): ∃o:Pm,Pn b o:=by
 have hN:Bb=274877906944:=rfl
 refine Br Tryz.func61 Q4 Q4 (w:=let z5:=((List.length b:Nat):Int);let z6:=Qe b;(.seg [.as 7 (.v (vI (28433+z5))),.at 0,.keep [0,3,4],.sel []] (.loop z6 fun q1=> .br (.br (.seg [.as 19 (.v (vI (q1.h*131)))] (.intro (Sx (b[q1.i]?)) fun x1=> .seg [.el .u8 x1,.as 27 (.v (vI ((IntKind.i64.wrap ((IntKind.i64.wrap ((q1.h*131)+(IntKind.i64.wrap (x1))))+7)) % 1073741824))),.as 17 (.v (vI (((q1.i:Nat):Int)+1))),.at 0,.keep [0,3,4],.sel []] (.next))) (.leaf (⟨(⟨b,0,q1.h⟩:Cur)⟩:Pm) [0])) (.leaf (⟨(⟨b,0,q1.h⟩:Cur)⟩:Pm) [0])),(wI (28433+z5))∧z6.Has [(0,.v (.c (.seq .u8 b))),(3,.v (vI (28433+z5))),(4,.v (vI 0))] []∧∀q1,z6.inv q1→(let z3:=((q1.i:Nat):Int);let z4:List Blk:=[.cells [.seq .u8 b,.int .i64 0,.int .i64 q1.h]];let z2:=((Av (⟨b,0,q1.h⟩:Cur)))∧Lf (.v (vP 0)) (.v (vP 0)) z4 z4;Bc (decide (z3<z5)) (Bc (decide (z3<4000)) ((wI (q1.h*131))∧El (b[q1.i]?) fun x1=>(let z1:=IntKind.i64.wrap ((IntKind.i64.wrap ((q1.h*131)+(IntKind.i64.wrap (x1))))+7);(b[q1.i]? =some x1)∧((0:Int)≤z3)∧((.v (vI (IntKind.i64.wrap (((BitVec.ofInt 64 z1&&&BitVec.ofInt 64 1073741823).toNat:Nat)))):S)= .v (vI (z1 % 1073741824)))∧(wI (z3+1))∧z6.Nxt q1 [(0,.v (.c (.seq .u8 b))),(3,.v (vI (z1 % 1073741824))),(4,.v (vI (z3+1)))] [])) z2) z2))) Q4 ?_
 refine⟨(Ac Q2 Q2),Bf (j:=(⟨28433+((List.length b:Nat):Int),0⟩:Qd)) Q9 rfl (by dsimp only[Qe];exact⟨by omega,by omega,by omega⟩),fun (q1:Qd) hq_q1=>?_⟩
 have hi_q1:q1.i≤List.length b∧(0:Int)≤q1.h∧q1.h≤1073741823:=hq_q1
 obtain ⟨v1,v2,v3⟩:=hi_q1
 refine dsp (fun h1 p1=>?_) fun h1 p1=>?_
 refine dsp (fun h2 p2=>?_) fun h2 p2=>?_
 refine⟨(Ac Q2 Q2),(Bh (l:=b) (i:=q1.i) Q2),fun x1 hx1=>?_⟩
 exact⟨hx1,Q2,(F0 (k:=30) Q28 Q28),(Ac Q2 Q2),A3 (j:=(⟨(IntKind.i64.wrap ((IntKind.i64.wrap ((q1.h*131)+(IntKind.i64.wrap (x1))))+7)) % 1073741824,q1.i+1⟩:Qd)) Q9 rfl (by dsimp only[Qe];exact⟨by omega,by omega,by omega⟩) (by dsimp only[Qe];omega)⟩
 exact⟨(⟨by dsimp only;omega,hp1⟩),rfl,rfl⟩
 exact⟨(⟨by dsimp only;omega,hp1⟩),rfl,rfl⟩
structure M4 where
 l:List Int
 c1:Cur
def Cp (c:Cur) (n:Int) (o:M4):Prop:=Fun Tryz.prog 65 [vP 0,vI n] [.cells (Bz c)] (.v (vO 1)) [.cells (Bz o.c1),.lst .u8 o.l]
def Bj (c:Cur) (n:Int) (o:M4):Prop:=((List.length o.l≤Int.toNat n)∧(Av o.c1))∧Cp c n o
structure Lh where
 c:Cur
 b:List Int
 i:Nat
def Li (n:Int):Fam:=⟨Lh,fun q1=>[(0,.v (vP 0)),(1,.v (vI n)),(5,.v (vO 1)),(6,.v (vI ((q1.i:Nat):Int)))],fun q1=>[.cells (Bz q1.c),.lst .u8 q1.b],fun q1=>Av q1.c∧List.length q1.b=q1.i∧(q1.i=0∨((q1.i:Nat):Int)≤n),fun q1=>Int.toNat n-q1.i⟩
theorem Dv (c:Cur) (n:Int) (hp1:Av c) (hp2:n≤100000): ∃o:M4,Bj c n o:=by
 have hN:Bb=274877906944:=rfl
 refine Br Tryz.func65 Q4 Q4 (w:=let z2:=Li n;(.seg [.ty .u8,.at 0,.keep [0,1,5,6],.sel [0,1]] (.loop z2 fun q1=> .br (.intro (D1 q1.c) fun o1=> .seg [.call [0] (.v (vI o1.x)) (Kc o1.c1),.as 16 (.v (.c (.int .u8 o1.x))),.ty .u8,.ty .u8,.as 12 (.v (vI (((q1.i:Nat):Int)+1))),.at 0,.keep [0,1,5,6],.sel [0,3]] (.next)) (.leaf (⟨q1.b,q1.c⟩:M4) [0,1])),z2.Has [(0,.v (vP 0)),(1,.v (vI n)),(5,.v (vO 1)),(6,.v (vI 0))] [.cells (Bz c),.lst .u8 ([]:List Int)]∧∀q1,z2.inv q1→(let z1:=((q1.i:Nat):Int);Bc (decide (z1<n)) (In (D1 q1.c) fun o1=>((Gc q1.c o1)∧((.v (.c (.int .u8 (IntKind.u8.wrap (o1.x)))):S)= .v (.c (.int .u8 o1.x)))∧(List.length q1.b+List.length [o1.x]≤Bb)∧(wI (z1+1))∧z2.Nxt q1 [(0,.v (vP 0)),(1,.v (vI n)),(5,.v (vO 1)),(6,.v (vI (z1+1)))] [.cells (Bz o1.c1),.lst .u8 (q1.b++[o1.x])])) (((List.length q1.b≤Int.toNat n)∧(Av q1.c))∧Lf (.v (vO 1)) (.v (vO 1)) [.cells (Bz q1.c),.lst .u8 q1.b] [.cells (Bz q1.c),.lst .u8 q1.b])))) Q4 ?_
 refine⟨Bf (j:=(⟨c,([]:List Int),0⟩:Lh)) Q9 rfl (by dsimp only[Li];exact⟨hp1,rfl,.inl rfl⟩),fun (q1:Lh) hq_q1=>?_⟩
 have hi_q1:Av q1.c∧List.length q1.b=q1.i∧(q1.i=0∨((q1.i:Nat):Int)≤n):=hq_q1
 obtain ⟨v1,v2,v3⟩:=hi_q1
 refine dsp (fun h1 p1=>?_) fun h1 p1=>?_
 refine⟨(M3 q1.c Q0),fun o1 ho_o1=>?_⟩
 obtain ⟨⟨hp_o1_0,hp_o1_1⟩,hf_o1⟩:=ho_o1
 exact⟨hf_o1,(Lr Q2 Q2),Q5,(Ac Q2 Q2),A3 (j:=(⟨o1.c1,q1.b++[o1.x],q1.i+1⟩:Lh)) Q9 rfl (by dsimp only[Li];exact⟨by assumption,by simp;omega,by omega⟩) (by dsimp only[Li];omega)⟩
 exact⟨⟨Q2,Q0⟩,rfl,rfl⟩
structure Raw where
 msgs:List Shp
structure Vio where
 code:Int
 msg:Int
 field:Int
structure Anq (ids:List Int) (f:Fld):Prop where
 num:Dc f.number=true
 kd:1≤f.kind∧f.kind≤8
 pk:f.packed=true→f.rep=true∧f.kind≤5
 ref:f.kind=8→f.msg∈ids
 no:f.kind≠8→f.msg=0
def Ag8 (fs:List Fld):List Int:=fs.map fun f=>f.number
def Gw (l:List Shp):List Int:=l.map fun m=>m.id
def Po (l:List Shp) (id:Int):Bool:=l.any fun m=>decide (m.id=id)
def Ca (l:List Fld) (n:Int):Bool:=l.any fun f=>decide (f.number=n)
structure FldsG (ids:List Int) (fs:List Fld):Prop where
 len:fs.length≤5
 num:(Ag8 fs).Nodup
 all: ∀f∈fs,Anq ids f
structure RawK (n:Nat) (l:List Shp):Prop where
 len:l.length=n
 pos:1≤n∧n≤3
 ids:Gw l=[5,1,99].take n
 flds: ∀m∈l,FldsG (Gw l) m.fields
theorem Acj {l:List Fld} {n:Int} :Ca l n=false↔∀f∈l,f.number≠n:=by
 simp[Ca]
theorem Aa4 {l:List Shp} {x:Int} :Po l x=true↔x∈Gw l:=by
 simp[Po,Gw]
theorem Xr {l:List Int} (h:l.Nodup) {i:Nat} {x:Int} (hx:l[i]? =some x):x ∉ l.take i:=by
 intro hm
 obtain ⟨j,hj,he⟩:=List.mem_take_iff_getElem.1 hm
 have hi:=(List.getElem?_eq_some_iff.1 hx)
 obtain ⟨hi1,hi2⟩:=hi
 exact List.pairwise_iff_getElem.1 h j i Q2 hi1 Q2 (by rw[hi2,he])
theorem RawK.nodup {n:Nat} {l:List Shp} (h:RawK n l):(Gw l).Nodup:=by
 rw[h.ids]
 have h2:=h.pos
 have:n=1∨n=2∨n=3:=by omega
 rcases this with rfl|rfl|rfl<;>decide
theorem RawK.noId {n:Nat} {l:List Shp} (h:RawK n l) {i:Nat} {m:Shp} (hm:l[i]? =some m):Po (l.take i) m.id=false:=by
 cases hc:Po (l.take i) m.id with
 |false=>rfl
 |true=>
  have:=Aa4.1 hc
  unfold Gw at this
  rw[List.map_take] at this
  exact absurd this (Xr (l:=Gw l) h.nodup (by unfold Gw;rw[List.getElem?_map,hm];rfl))
theorem FldsG.noNum {ids:List Int} {fs:List Fld} (h:FldsG ids fs) {i:Nat} {f:Fld} (hf:fs[i]? =some f):Ca (fs.take i) f.number=false:=by
 rw[Acj]
 intro g hg he
 have:f.number∈(Ag8 fs).take i:=by
  unfold Ag8
  rw[←List.map_take]
  exact List.mem_map.2 ⟨g,hg,he⟩
 exact absurd this (Xr (l:=Ag8 fs) h.num (by unfold Ag8;rw[List.getElem?_map,hf];rfl))
theorem RawK.id_ok {n:Nat} {l:List Shp} (h:RawK n l) {m:Shp} (hm:m∈l):1≤m.id∧m.id≤99:=by
 have hx:m.id∈Gw l:=List.mem_map.2 ⟨m,hm,rfl⟩
 rw[h.ids] at hx
 have:=List.mem_of_mem_take hx
 simp at this
 omega
theorem Agh {l:List Shp} {i:Nat} {m:Shp} {fs:List Fld} (h:l[i]? =some m):Gw (l.set i ⟨m.id,fs⟩)=Gw l:=by
 unfold Gw
 apply List.ext_getElem?
 intro j
 rw[List.getElem?_map,List.getElem?_map,List.getElem?_set]
 split
 ·rename_i hij
  subst hij
  have hl:=(List.getElem?_eq_some_iff.1 h).1
  rw[if_pos hl,h]
  rfl
 ·rfl
theorem Aib (fs:List Fld) (f:Fld):Ag8 (fs++[f])=Ag8 fs++[f.number]:=by simp[Ag8]
theorem RawK.add {n:Nat} {l:List Shp} (h:RawK n l) {i:Nat} {m:Shp} {f:Fld} (hm:l[i]? =some m) (hf:Anq (Gw l) f) (hn:Ca m.fields f.number=false) (hk:m.fields.length≤4):RawK n (l.set i ⟨m.id,m.fields++[f]⟩):=by
 have hM:=h.flds m (List.mem_of_getElem? hm)
 refine⟨by rw[List.length_set];exact h.len,h.pos,by rw[Agh hm];exact h.ids,fun x hx=>?_⟩
 rw[Agh hm]
 rcases List.mem_or_eq_of_mem_set hx with hx|rfl
 ·exact h.flds x hx
 ·refine⟨by rw[List.length_append];simp;omega,?_,fun g hg=>?_⟩
  ·show (Ag8 (m.fields++[f])).Nodup
   rw[Aib,List.nodup_append]
   refine⟨hM.num,by simp,fun a ha b hb=>?_⟩
   simp at hb
   subst hb
   intro e
   subst e
   obtain ⟨g,hg,he⟩:=List.mem_map.1 ha
   exact Acj.1 hn g hg he
  ·rcases List.mem_append.1 hg with hg|hg
   ·exact hM.all g hg
   ·simp at hg;subst hg;exact hf
def V4 (l:List Shp) (id:Int):Nat:=(l.filter fun m=>decide (m.id<id)).length
theorem Z4 {l:List Shp} {i:Nat} {m:Shp} {id:Int} (h:l[i]? =some m):V4 (l.take (i+1)) id=V4 (l.take i) id+(if m.id<id then 1 else 0):=by
 have ht:l.take (i+1)=l.take i++[m]:=by rw[List.take_add_one,h];rfl
 unfold V4
 rw[ht,List.filter_append,List.length_append]
 split<;>simp[*]
theorem Akh (l:List Shp) (id:Int):V4 l id≤l.length:=List.length_filter_le _ _
theorem Agi {l:List Shp} {id:Int} (h:id∈Gw l):V4 l id<l.length:=by
 obtain ⟨m,hm,rfl⟩:=List.mem_map.1 h
 unfold V4
 rcases Nat.lt_or_ge (l.filter fun x=>decide (x.id<m.id)).length l.length with h|h
 ·exact h
 ·have:=List.length_filter_eq_length_iff.1 (Nat.le_antisymm (List.length_filter_le _ _) h) m hm
  simp at this
def Aje (n:Nat) (fs:List Fld):Prop:=fs.length≤5∧∀f∈fs,1≤f.kind∧f.kind≤8∧(f.kind=8→0≤f.msg∧f.msg<(n:Int))
def SchG (l:List Shp):Prop:=(1≤l.length∧l.length≤3)∧∀e∈l,Aje l.length e.fields
structure PlnG (p:Pln):Prop where
 sch:SchG p.shapes
 root:0≤p.root∧p.root<(p.shapes.length:Int)
 deep:1≤p.deep∧p.deep≤4
 most:0≤p.most∧p.most≤2000
def Anz (p:Pln):Prop:=p.shapes.length≤7∧∀e∈p.shapes,e.fields.length≤6
theorem PlnG.b {p:Pln} (h:PlnG p):Anz p:=⟨by have:=h.sch.1;omega,fun e he=>by have:=(h.sch.2 e he).1;omega⟩
theorem Z5 {α:Type} {l:List α} {i:Nat} {x:α} (h:l[i]? =some x):l.take (i+1)=l.take i++[x]:=by rw[List.take_add_one,h];rfl
theorem Ads {l:List Shp} {i:Nat} {m:Shp} {id:Int} (h:l[i]? =some m):Po (l.take (i+1)) id=(Po (l.take i) id||decide (m.id=id)):=by
 rw[Z5 h];simp[Po]
theorem Aa5 {l:List Fld} {i:Nat} {f:Fld} {n:Int} (h:l[i]? =some f):Ca (l.take (i+1)) n=(Ca (l.take i) n||decide (f.number=n)):=by
 rw[Z5 h];simp[Ca]
theorem Adt {l:List Shp} {i:Nat} {m:Shp} {id:Int} {k:Nat} (h:l[i]? =some m) (hi:i<k) (he:m.id=id):Po (l.take k) id=true:=by
 rw[Po,List.any_eq_true]
 exact⟨m,List.mem_of_getElem? (by rw[List.getElem?_take,if_pos hi];exact h),by simpa using he⟩
theorem Aa6 {l:List Fld} {i:Nat} {f:Fld} {n:Int} (h:l[i]? =some f) (he:f.number=n):Ca l n=true:=by
 rw[Ca,List.any_eq_true]
 exact⟨f,List.mem_of_getElem? h,by simpa using he⟩
structure Qf where
 i:Nat
def Qg (r:Raw) (id:Int) (n:Int):Fam:=⟨Qf,fun q1=>[(1,.v (vI id)),(2,.v (vI n)),(3,.v (vP 0)),(7,.v (vI ((q1.i:Nat):Int)))],fun _=>[.cells [.seq .shp r.msgs]],fun q1=>((q1.i:Nat):Int)≤n∧Po (List.take q1.i r.msgs) id=false,fun q1=>Int.toNat n-q1.i⟩
theorem Aa7 (r:Raw) (id:Int) (n:Int) (hp1:(0:Int)≤n∧n≤((List.length (r).msgs:Nat):Int)) (hp2:List.length (r).msgs≤1000):Fun Tryz.prog 291 [.agg [.seq .shp r.msgs],vI id,vI n] [] (.v (vB (Po (List.take (Int.toNat n) (r).msgs) id))) []:=by
 have hN:Bb=274877906944:=rfl
 refine Ap Tryz.func291 Q4 Q4 (w:=let z2:S:= .v (vB (Po (List.take (Int.toNat n) (r).msgs) id));let z3:=Qg r id n;(.seg [.at 0,.keep [1,2,3,7],.sel [0]] (.loop z3 fun q1=> .br (.intro (Sx (r.msgs[q1.i]?)) fun x1=> .seg [.el .shp x1] (.br (.leaf () []) (.seg [.as 12 (.v (vI (((q1.i:Nat):Int)+1))),.at 0,.keep [1,2,3,7],.sel [0]] (.next)))) (.leaf () [])),z3.Has [(1,.v (vI id)),(2,.v (vI n)),(3,.v (vP 0)),(7,.v (vI 0))] [.cells [.seq .shp r.msgs]]∧∀q1,z3.inv q1→(let z1:=((q1.i:Nat):Int);Bc (decide (z1<n)) (El (r.msgs[q1.i]?) fun x1=>((r.msgs[q1.i]? =some x1)∧((0:Int)≤z1)∧Bc (decide (x1.id=id)) (Lf (.v (vB true)) z2 [] []) ((wI (z1+1))∧z3.Nxt q1 [(1,.v (vI id)),(2,.v (vI n)),(3,.v (vP 0)),(7,.v (vI (z1+1)))] [.cells [.seq .shp r.msgs]]))) (Lf (.v (vB false)) z2 [] [])))) Q4 ?_
 refine⟨Bf (j:=(⟨0⟩:Qf)) Q9 rfl (by dsimp only[Qg];exact⟨by omega,rfl⟩),fun (q1:Qf) hq_q1=>?_⟩
 have hi_q1:((q1.i:Nat):Int)≤n∧Po (List.take q1.i r.msgs) id=false:=hq_q1
 obtain ⟨v1,v2⟩:=hi_q1
 refine dsp (fun h1 p1=>?_) fun h1 p1=>?_
 refine⟨(Bh (l:=r.msgs) (i:=q1.i) Q2),fun x1 hx1=>?_⟩
 refine⟨hx1,Q2,dsp (fun h2 p2=>?_) fun h2 p2=>?_⟩
 refine⟨(sB ?_),rfl⟩
 rotate_left
 exact⟨(Ac Q2 Q2),A3 (j:=(⟨q1.i+1⟩:Qf)) Q9 rfl (by dsimp only[Qg];exact⟨by omega,by rw[Ads hx1,v2];simpa using by assumption⟩) (by dsimp only[Qg];omega)⟩
 have hin:Int.toNat n=q1.i:=by omega
 refine⟨(sB ?_),rfl⟩
 rotate_left
 all_goals first|((rw[hin,v2];done))|((rw[Adt hx1 (by omega) (by assumption)];done))|(grind)
structure M5 where
 i:Nat
def M6 (l:List Fld) (n:Int):Fam:=⟨M5,fun q1=>[(0,.v (.c (.seq .fld l))),(1,.v (vI n)),(5,.v (vI ((q1.i:Nat):Int)))],fun _=>[],fun q1=>q1.i≤List.length l∧Ca (List.take q1.i l) n=false,fun q1=>List.length l-q1.i⟩
theorem Fi (l:List Fld) (n:Int) (hp1:List.length l≤1000):Fun Tryz.prog 237 [.c (.seq .fld l),vI n] [] (.v (vB (Ca l n))) []:=by
 have hN:Bb=274877906944:=rfl
 refine Ap Tryz.func237 Q4 Q4 (w:=let z2:=M6 l n;(.seg [.at 0,.keep [0,1,5],.sel []] (.loop z2 fun q1=> .br (.intro (Sx (l[q1.i]?)) fun x1=> .seg [.el .fld x1] (.br (.leaf () []) (.seg [.as 11 (.v (vI (((q1.i:Nat):Int)+1))),.at 0,.keep [0,1,5],.sel []] (.next)))) (.leaf () [])),z2.Has [(0,.v (.c (.seq .fld l))),(1,.v (vI n)),(5,.v (vI 0))] []∧∀q1,z2.inv q1→(let z1:=((q1.i:Nat):Int);Bc (decide (z1<((List.length l:Nat):Int))) (El (l[q1.i]?) fun x1=>((l[q1.i]? =some x1)∧((0:Int)≤z1)∧Bc (decide (x1.number=n)) (Lf (.v (vB true)) (.v (vB (Ca l n))) [] []) ((wI (z1+1))∧z2.Nxt q1 [(0,.v (.c (.seq .fld l))),(1,.v (vI n)),(5,.v (vI (z1+1)))] []))) (Lf (.v (vB false)) (.v (vB (Ca l n))) [] [])))) Q4 ?_
 refine⟨Bf (j:=(⟨0⟩:M5)) Q9 rfl (by dsimp only[M6];exact⟨by omega,rfl⟩),fun (q1:M5) hq_q1=>?_⟩
 have hi_q1:q1.i≤List.length l∧Ca (List.take q1.i l) n=false:=hq_q1
 obtain ⟨v1,v2⟩:=hi_q1
 refine dsp (fun h1 p1=>?_) fun h1 p1=>?_
 refine⟨(Bh (l:=l) (i:=q1.i) Q2),fun x1 hx1=>?_⟩
 refine⟨hx1,Q2,dsp (fun h2 p2=>?_) fun h2 p2=>?_⟩
 refine⟨(sB ?_),rfl⟩
 rotate_left
 exact⟨(Ac Q2 Q2),A3 (j:=(⟨q1.i+1⟩:M5)) Q9 rfl (by dsimp only[M6];exact⟨by omega,by rw[Aa5 hx1,v2];simpa using by assumption⟩) (by dsimp only[M6];omega)⟩
 have hin:List.take q1.i l=l:=List.take_of_length_le (by omega)
 rw[hin] at v2
 refine⟨(sB ?_),rfl⟩
 rotate_left
 all_goals first|((rw[v2];done))|((rw[Aa6 hx1 (by assumption)];done))|(grind)
theorem Agj (r:Raw) (msg:Int) (hp1:RawK (List.length (r).msgs) (r).msgs) (hp2:(0:Int)≤msg∧msg<((List.length (r).msgs:Nat):Int)):Fun Tryz.prog 272 [.agg [.seq .shp r.msgs],vI msg] [] (.v (vI 0)) []:=by
 have hN:Bb=274877906944:=rfl
 have hpos:=hp1.pos
 refine Ap Tryz.func272 Q4 Q4 (w:=let z2:=((List.length r.msgs:Nat):Int)-1;let z3:=List.take (Int.toNat msg) (r).msgs;let z4:S:= .v (vI 0);(.seg [.as 10 (.v (vI z2)),.call [] (.v (vB (Ak msg 0 z2))) []] (.br (.leaf () []) (.intro (Sx (r.msgs[Int.toNat msg]?)) fun x1=> .seg [.el .shp x1,.call [] (.v (vB (Ak x1.id 1 99))) []] (.br (.leaf () []) (.seg [.call [] (.v (vB (Po z3 x1.id))) [],.br false,.br false] (.leaf () []))))),(wI z2)∧(Fp 71 [vI msg,vI 0,vI z2] [] (.v (vB (Ak msg 0 z2))) [])∧Bc (!(Ak msg 0 z2)) (Lf z4 z4 [] []) (El (r.msgs[Int.toNat msg]?) fun x1=>(let z1:=Po z3 x1.id;(r.msgs[Int.toNat msg]? =some x1)∧((0:Int)≤msg)∧(Fp 71 [vI x1.id,vI 1,vI 99] [] (.v (vB (Ak x1.id 1 99))) [])∧Bc (!(Ak x1.id 1 99)) (Lf (.v (vI 2)) z4 [] []) ((Fp 291 [.agg [.seq .shp r.msgs],vI x1.id,vI msg] [] (.v (vB z1)) [])∧(z1=false)∧((decide (8<((List.length x1.fields:Nat):Int)))=false)∧Lf z4 z4 [] []))))) Q4 ?_
 refine⟨(Ac Q2 Q2),(Be _ _ _),fun h1=>have q1:=Ao h1;have p1:=Aw q1;?_,fun h1=>have q1:=An h1;have p1:=Ar q1;?_⟩
 exact⟨rfl,rfl⟩
 refine⟨(Bh (l:=r.msgs) (i:=Int.toNat msg) Q2),fun x1 hx1=>?_⟩
 have hid:=hp1.id_ok (List.mem_of_getElem? hx1)
 have hfl:=(hp1.flds _ (List.mem_of_getElem? hx1)).len
 have hno:=hp1.noId hx1
 refine⟨hx1,Q2,(Be _ _ _),fun h2=>have q2:=Ao h2;have p2:=Aw q2;?_,fun h2=>have q2:=An h2;have p2:=Ar q2;?_⟩
 refine⟨(sI ?_),rfl⟩
 rotate_left
 exact⟨(Aa7 r _ _ Q2 Q2),hno,(decide_eq_false Q2),rfl,rfl⟩
 all_goals first|(rfl)|((exfalso;omega))|((exfalso;simp_all;done))|(grind)
theorem Aa8 (r:Raw) (msg:Int) (field:Int) (hp1:RawK (List.length (r).msgs) (r).msgs) (hp2:(0:Int)≤msg∧msg<((List.length (r).msgs:Nat):Int)) (hp3: ∀m,(r).msgs[Int.toNat msg]? =some m→(0:Int)≤field∧field<((List.length m.fields:Nat):Int)):Fun Tryz.prog 273 [.agg [.seq .shp r.msgs],vI msg,vI field] [] (.v (vI 0)) []:=by
 have hN:Bb=274877906944:=rfl
 have hpos:=hp1.pos
 refine Ap Tryz.func273 Q4 Q4 (w:=let z9:=((List.length r.msgs:Nat):Int);let z10:S:= .v (vI 0);let z11:=Lf (.v (vI 9)) z10 [] [];let z12:=Lf z10 z10 [] [];let z13:=Ak msg 0 (z9-1);let z14:=List.take (Int.toNat z9) (r).msgs;let z15:=(0:Int)≤field;(.seg [.as 13 (.v (vI (z9-1))),.call [] (.v (vB z13)) []] (.br (.leaf () []) (.intro (Sx (r.msgs[Int.toNat msg]?)) fun x1=>let z5:=((List.length x1.fields:Nat):Int)-1;.seg [.el .shp x1,.as 25 (.v (vI z5)),.call [] (.v (vB (Ak field 0 z5))) []] (.br (.leaf () []) (.seg [.el .shp x1] (.intro (Sx (x1.fields[Int.toNat field]?)) fun x2=>let z1:S:= .v (vB (Po z14 x2.msg));.seg [.el .fld x2,.call [] (.v (vB (Dc x2.number))) []] (.br (.leaf () []) (.seg [.ord (os 7 [5]) [],.call [] (.v (vB (Ca (List.take (Int.toNat field) x1.fields) x2.number))) [],.br false,.call [] (.v (vB (Ed x2.kind))) []] (.br (.leaf () []) (.br (.br (.leaf () []) (.seg [.call [] (.v (vB (C3 x2.kind))) []] (.br (.leaf () []) (.br (.seg [.call [] z1 []] (.br (.leaf () []) (.br (.br (.leaf () []) (.leaf () [])) (.leaf () [])))) (.br (.br (.leaf () []) (.leaf () [])) (.leaf () [])))))) (.br (.seg [.call [] z1 []] (.br (.leaf () []) (.br (.br (.leaf () []) (.leaf () [])) (.leaf () [])))) (.br (.br (.leaf () []) (.leaf () [])) (.leaf () [])))))))))))),(wI (z9-1))∧(Fp 71 [vI msg,vI 0,vI (z9-1)] [] (.v (vB z13)) [])∧Bc (!z13) z12 (El (r.msgs[Int.toNat msg]?) fun x1=>(let z6:=((List.length x1.fields:Nat):Int);let z7:=List.take (Int.toNat field) x1.fields;let z8:=r.msgs[Int.toNat msg]? =some x1;z8∧((0:Int)≤msg)∧(wI (z6-1))∧(Fp 71 [vI field,vI 0,vI (z6-1)] [] (.v (vB (Ak field 0 (z6-1)))) [])∧Bc (!(Ak field 0 (z6-1))) z12 (z8∧((0:Int)≤msg)∧El (x1.fields[Int.toNat field]?) fun x2=>(let z2:=Bc (!decide (x2.kind=8)) (Bc (!decide (x2.msg=0)) z11 z12) z12;let z3:=Po z14 x2.msg;let z4:=Ca z7 x2.number;(x1.fields[Int.toNat field]? =some x2)∧z15∧(Fp 206 [vI x2.number] [] (.v (vB (Dc x2.number))) [])∧Bc (!(Dc x2.number)) (Lf (.v (vI 5)) z10 [] []) ((field≤z6)∧z15∧(field≤z6)∧z15∧(Fp 237 [.c (.seq .fld z7),vI x2.number] [] (.v (vB z4)) [])∧(z4=false)∧(Fp 191 [vI x2.kind] [] (.v (vB (Ed x2.kind))) [])∧Bc (!(Ed x2.kind)) (Lf (.v (vI 7)) z10 [] []) (Bc x2.packed (Bc (!x2.rep) (Lf (.v (vI 8)) z10 [] []) ((Fp 207 [vI x2.kind] [] (.v (vB (C3 x2.kind))) [])∧Bc (!(C3 x2.kind)) (Lf (.v (vI 8)) z10 [] []) (Bc (decide (x2.kind=8)) ((Fp 291 [.agg [.seq .shp r.msgs],vI x2.msg,vI z9] [] (.v (vB z3)) [])∧Bc (!z3) z11 z2) z2))) (Bc (decide (x2.kind=8)) ((Fp 291 [.agg [.seq .shp r.msgs],vI x2.msg,vI z9] [] (.v (vB z3)) [])∧Bc (!z3) z11 z2) z2))))))))) Q4 ?_
 refine⟨(Ac Q2 Q2),(Be _ _ _),fun h1=>have q1:=Ao h1;have p1:=Aw q1;?_,fun h1=>have q1:=An h1;have p1:=Ar q1;?_⟩
 exact⟨rfl,rfl⟩
 refine⟨(Bh (l:=r.msgs) (i:=Int.toNat msg) Q2),fun x1 hx1=>?_⟩
 have hfb:=hp3 _ hx1
 have hfg:=hp1.flds _ (List.mem_of_getElem? hx1)
 have hfl:=hfg.len
 refine⟨hx1,Q2,(Ac Q2 Q2),(Be _ _ _),fun h2=>have q2:=Ao h2;have p2:=Aw q2;?_,fun h2=>have q2:=An h2;have p2:=Ar q2;?_⟩
 exact⟨rfl,rfl⟩
 refine⟨hx1,Q2,(Bh (l:=x1.fields) (i:=Int.toNat field) Q2),fun x2 hx2=>?_⟩
 have hg:=hfg.all _ (List.mem_of_getElem? hx2)
 have hnn:=hfg.noNum hx2
 have hgk:=hg.kd
 have hgm:=hg.num
 have hgo:Ed x2.kind=true:=by simp only[Ed,Ak,Bool.and_eq_true,decide_eq_true_eq];omega
 have hgp:=hg.pk
 have hgn:=hg.no
 refine⟨hx2,Q2,(Xh _),fun h3=>have q3:=Ao h3;?_,fun h3=>have q3:=An h3;?_⟩
 refine⟨(sI ?_),rfl⟩
 rotate_left
 refine⟨Q2,Q2,Q2,Q2,(Fi _ _ (by simp only[List.length_take];omega)),hnn,(Uk _),fun h4=>have q4:=Ao h4;have p4:=Aw q4;?_,fun h4=>have q4:=An h4;have p4:=Ar q4;?_⟩
 refine⟨(sI ?_),rfl⟩
 rotate_left
 refine⟨fun h5=>?_,fun h5=>?_⟩
 refine⟨fun h6=>have q6:=Ao h6;?_,fun h6=>have q6:=An h6;?_⟩
 refine⟨(sI ?_),rfl⟩
 rotate_left
 refine⟨(Lu _),fun h7=>have q7:=Ao h7;have p7:=Aw q7;?_,fun h7=>have q7:=An h7;have p7:=Ar q7;?_⟩
 refine⟨(sI ?_),rfl⟩
 rotate_left
 refine dsp (fun h8 p8=>?_) fun h8 p8=>?_
 have hir:=(Aa4 (l:=r.msgs)).2 (hg.ref (by omega))
 refine⟨(Aa7 r _ _ Q2 Q2),fun h9=>have q9:=Ao h9;?_,fun h9=>have q9:=An h9;?_⟩
 refine⟨(sI ?_),rfl⟩
 rotate_left
 refine⟨fun h10=>have q10:=Ao h10;have p10:=of_decide_eq_false q10;?_,fun h10=>have q10:=An h10;have p10:=of_decide_eq_true q10;?_⟩
 refine⟨fun h11=>have q11:=Ao h11;have p11:=of_decide_eq_false q11;?_,fun h11=>have q11:=An h11;have p11:=of_decide_eq_true q11;?_⟩
 refine⟨(sI ?_),rfl⟩
 rotate_left
 exact⟨rfl,rfl⟩
 exact⟨rfl,rfl⟩
 refine⟨fun h9=>have q9:=Ao h9;have p9:=of_decide_eq_false q9;?_,fun h9=>have q9:=An h9;have p9:=of_decide_eq_true q9;?_⟩
 refine⟨fun h10=>have q10:=Ao h10;have p10:=of_decide_eq_false q10;?_,fun h10=>have q10:=An h10;have p10:=of_decide_eq_true q10;?_⟩
 refine⟨(sI ?_),rfl⟩
 rotate_left
 exact⟨rfl,rfl⟩
 exact⟨rfl,rfl⟩
 refine dsp (fun h6 p6=>?_) fun h6 p6=>?_
 have hir:=(Aa4 (l:=r.msgs)).2 (hg.ref (by omega))
 refine⟨(Aa7 r _ _ Q2 Q2),fun h7=>have q7:=Ao h7;?_,fun h7=>have q7:=An h7;?_⟩
 refine⟨(sI ?_),rfl⟩
 rotate_left
 refine⟨fun h8=>have q8:=Ao h8;have p8:=of_decide_eq_false q8;?_,fun h8=>have q8:=An h8;have p8:=of_decide_eq_true q8;?_⟩
 refine⟨fun h9=>have q9:=Ao h9;have p9:=of_decide_eq_false q9;?_,fun h9=>have q9:=An h9;have p9:=of_decide_eq_true q9;?_⟩
 refine⟨(sI ?_),rfl⟩
 rotate_left
 exact⟨rfl,rfl⟩
 exact⟨rfl,rfl⟩
 refine⟨fun h7=>have q7:=Ao h7;have p7:=of_decide_eq_false q7;?_,fun h7=>have q7:=An h7;have p7:=of_decide_eq_true q7;?_⟩
 refine⟨fun h8=>have q8:=Ao h8;have p8:=of_decide_eq_false q8;?_,fun h8=>have q8:=An h8;have p8:=of_decide_eq_true q8;?_⟩
 refine⟨(sI ?_),rfl⟩
 rotate_left
 exact⟨rfl,rfl⟩
 exact⟨rfl,rfl⟩
 all_goals first|(rfl)|((exfalso;simp_all[C3,Ak];omega))|((exfalso;simp_all[C3,Ak];done))|((exfalso;omega))|(grind)
structure L4 where
 i:Nat
def Qh (r:Raw):Fam:=⟨L4,fun q1=>[(1,.v (vP 0)),(2,.v (vP 1)),(3,.v (vI ((q1.i:Nat):Int)))],fun _=>[.cells [.seq .shp r.msgs],.cells [.int .i64 0,.int .i64 0,.int .i64 0]],fun q1=>q1.i≤List.length r.msgs,fun q1=>List.length r.msgs-q1.i⟩
structure Qi where
 k:Nat
def Hf (r:Raw) (q1:L4):Fam:=⟨Qi,fun q2=>[(1,.v (vP 0)),(2,.v (vP 1)),(3,.v (vI ((q1.i:Nat):Int))),(5,.v (vI ((q2.k:Nat):Int)))],fun _=>[.cells [.seq .shp r.msgs],.cells [.int .i64 0,.int .i64 0,.int .i64 0]],fun q2=>q2.k≤5,fun q2=>5-q2.k⟩
theorem Aki (r:Raw) (hp1:RawK (List.length (r).msgs) (r).msgs):Fun Tryz.prog 234 [.agg [.seq .shp r.msgs]] [] (.v (.agg [.int .i64 0,.int .i64 0,.int .i64 0])) []:=by
 have hN:Bb=274877906944:=rfl
 have hpos:=hp1.pos
 refine Ap Tryz.func234 Q4 Q4 (w:=let zi:Int→C:= .int .i64;let z3:List Blk:=[.cells [.seq .shp r.msgs],.cells [zi 0,zi 0,zi 0]];let z4:S:= .v (.agg [zi 0,zi 0,zi 0]);let z5:=Qh r;let z6:=((List.length r.msgs:Nat):Int);(.br (.leaf () []) (.seg [.at 0,.keep [1,2,3],.sel [0,1]] (.loop z5 fun q1=> .br (.seg [.call [] (.v (vI 0)) [],.br false,.at 0,.keep [1,2,3,5],.sel [0,1]] (.loop (Hf r q1) fun q2=> .intro (Sx (r.msgs[q1.i]?)) fun x1=> .seg [.el .shp x1] (.br (.seg [.call [] (.v (vI 0)) [],.br false,.as 36 (.v (vI (((q2.k:Nat):Int)+1))),.at 0,.keep [1,2,3,5],.sel [0,1]] (.next)) (.seg [.as 17 (.v (vI (((q1.i:Nat):Int)+1))),.at 0,.keep [1,2,3],.sel [0,1]] (.next))))) (.leaf () []))),Bc (decide (6<z6)) (Lf (.v (.agg [zi 1,zi 6,zi (-1)])) z4 [] []) (z5.Has [(1,.v (vP 0)),(2,.v (vP 1)),(3,.v (vI 0))] z3∧∀q1,z5.inv q1→(let z2:=((q1.i:Nat):Int);Bc (decide (z2<z6)) ((Fp 272 [.agg [.seq .shp r.msgs],vI z2] [] (.v (vI 0)) [])∧((!decide (0=0))=false)∧(Hf r q1).Has [(1,.v (vP 0)),(2,.v (vP 1)),(3,.v (vI z2)),(5,.v (vI 0))] z3∧∀q2,(Hf r q1).inv q2→(let z1:=((q2.k:Nat):Int);El (r.msgs[q1.i]?) fun x1=>((r.msgs[q1.i]? =some x1)∧((0:Int)≤z2)∧Bc (decide (z1<((List.length x1.fields:Nat):Int))) ((Fp 273 [.agg [.seq .shp r.msgs],vI z2,vI z1] [] (.v (vI 0)) [])∧((!decide (0=0))=false)∧(wI (z1+1))∧(Hf r q1).Nxt q2 [(1,.v (vP 0)),(2,.v (vP 1)),(3,.v (vI z2)),(5,.v (vI (z1+1)))] z3) ((wI (z2+1))∧z5.Nxt q1 [(1,.v (vP 0)),(2,.v (vP 1)),(3,.v (vI (z2+1)))] z3)))) (Lf z4 z4 [] []))))) Q4 ?_
 refine dsp (fun h1 p1=>?_) fun h1 p1=>?_
 refine⟨(congrArg S.v (congrArg V.agg (Ah (congrArg (C.int .i64) ?_) (Ah (congrArg (C.int .i64) ?_) (Ah (congrArg (C.int .i64) ?_) rfl))))),rfl⟩
 rotate_left 3
 refine⟨Bf (j:=(⟨0⟩:L4)) Q9 rfl (by dsimp only[Qh];omega),fun (q1:L4) hq_q1=>?_⟩
 have hi_q1:q1.i≤List.length r.msgs:=hq_q1
 have v1:=hi_q1
 refine dsp (fun h2 p2=>?_) fun h2 p2=>?_
 refine⟨(Agj r _ Q2 Q2),Q28,Bf (j:=(⟨0⟩:Qi)) Q9 rfl (by dsimp only[Hf];omega),fun (q2:Qi) hq_q2=>?_⟩
 have hi_q2:q2.k≤5:=hq_q2
 have w1:=hi_q2
 refine⟨(Bh (l:=r.msgs) (i:=q1.i) Q2),fun x1 hx1=>?_⟩
 have hfl:=(hp1.flds _ (List.mem_of_getElem? hx1)).len
 refine⟨hx1,Q2,dsp (fun h3 p3=>?_) fun h3 p3=>?_⟩
 exact⟨(Aa8 r _ _ Q2 Q2 (fun m hm=>by (try simp only[Int.toNat_natCast] at hm);rw[hx1] at hm;cases hm;omega)),Q28,(Ac Q2 Q2),A3 (j:=(⟨q2.k+1⟩:Qi)) Q9 rfl (by dsimp only[Hf];omega) (by dsimp only[Hf];omega)⟩
 exact⟨(Ac Q2 Q2),A3 (j:=(⟨q1.i+1⟩:L4)) Q9 rfl (by dsimp only[Qh];omega) (by dsimp only[Qh];omega)⟩
 exact⟨rfl,rfl⟩
 all_goals first|(rfl)|((exfalso;simp_all[C3,Ak];omega))|((exfalso;simp_all[C3,Ak];done))|((exfalso;omega))|(grind)
structure Pp where
 n:Int
 i:Nat
def L5 (r:Raw) (id:Int):Fam:=⟨Pp,fun q1=>[(1,.v (vI id)),(2,.v (vP 0)),(5,.v (vI q1.n)),(6,.v (vI ((q1.i:Nat):Int)))],fun _=>[.cells [.seq .shp r.msgs]],fun q1=>q1.i≤List.length r.msgs∧q1.n=((V4 (List.take q1.i r.msgs) id:Nat):Int),fun q1=>List.length r.msgs-q1.i⟩
theorem Ajf (r:Raw) (id:Int) (hp1:List.length (r).msgs≤1000):Fun Tryz.prog 235 [.agg [.seq .shp r.msgs],vI id] [] (.v (vI ((V4 (r).msgs id:Nat):Int))) []:=by
 have hN:Bb=274877906944:=rfl
 refine Ap Tryz.func235 Q4 Q4 (w:=let z3:=L5 r id;let z4:List Blk:=[.cells [.seq .shp r.msgs]];(.seg [.at 0,.keep [1,2,5,6],.sel [0]] (.loop z3 fun q1=>let z1:S:= .v (vI (((q1.i:Nat):Int)+1));.br (.intro (Sx (r.msgs[q1.i]?)) fun x1=> .seg [.el .shp x1] (.br (.seg [.as 23 (.v (vI (q1.n+1))),.as 13 z1,.at 0,.keep [1,2,5,6],.sel [0]] (.next)) (.seg [.as 13 z1,.at 0,.keep [1,2,5,6],.sel [0]] (.next)))) (.leaf () [])),z3.Has [(1,.v (vI id)),(2,.v (vP 0)),(5,.v (vI 0)),(6,.v (vI 0))] z4∧∀q1,z3.inv q1→(let z2:=((q1.i:Nat):Int);Bc (decide (z2<((List.length r.msgs:Nat):Int))) (El (r.msgs[q1.i]?) fun x1=>((r.msgs[q1.i]? =some x1)∧((0:Int)≤z2)∧Bc (decide (x1.id<id)) ((wI (q1.n+1))∧(wI (z2+1))∧z3.Nxt q1 [(1,.v (vI id)),(2,.v (vP 0)),(5,.v (vI (q1.n+1))),(6,.v (vI (z2+1)))] z4) ((wI (z2+1))∧z3.Nxt q1 [(1,.v (vI id)),(2,.v (vP 0)),(5,.v (vI q1.n)),(6,.v (vI (z2+1)))] z4))) (Lf (.v (vI q1.n)) (.v (vI ((V4 (r).msgs id:Nat):Int))) [] [])))) Q4 ?_
 refine⟨Bf (j:=(⟨0,0⟩:Pp)) Q9 rfl (by dsimp only[L5];exact⟨by omega,by simp[V4]⟩),fun (q1:Pp) hq_q1=>?_⟩
 have hi_q1:q1.i≤List.length r.msgs∧q1.n=((V4 (List.take q1.i r.msgs) id:Nat):Int):=hq_q1
 obtain ⟨v1,v2⟩:=hi_q1
 refine dsp (fun h1 p1=>?_) fun h1 p1=>?_
 refine⟨(Bh (l:=r.msgs) (i:=q1.i) Q2),fun x1 hx1=>?_⟩
 have hrk:=Akh (List.take q1.i r.msgs) id
 have hrl:(List.take q1.i r.msgs).length≤q1.i:=by rw[List.length_take];omega
 refine⟨hx1,Q2,dsp (fun h2 p2=>?_) fun h2 p2=>?_⟩
 exact⟨(Ac Q2 Q2),(Ac Q2 Q2),A3 (j:=(⟨q1.n+1,q1.i+1⟩:Pp)) Q9 rfl (by dsimp only[L5];exact⟨by omega,by rw[Z4 hx1];split<;>omega⟩) (by dsimp only[L5];omega)⟩
 exact⟨(Ac Q2 Q2),A3 (j:=(⟨q1.n,q1.i+1⟩:Pp)) Q9 rfl (by dsimp only[L5];exact⟨by omega,by rw[Z4 hx1];split<;>omega⟩) (by dsimp only[L5];omega)⟩
 have hin:List.take q1.i r.msgs=r.msgs:=List.take_of_length_le (by omega)
 rw[hin] at v2
 refine⟨(sI ?_),rfl⟩
 rotate_left
 all_goals first|((rw[v2];done))|((exact v2))|(omega)
theorem Agk {l:List Fld} {f g:Fld} {k:Nat} (h:g∈(([]++List.take k l)++[f])++List.drop k l):g=f∨g∈l:=by
 simp only[List.nil_append,List.mem_append,List.mem_singleton] at h
 rcases h with (h|h)|h
 ·exact .inr (List.mem_of_mem_take h)
 ·exact .inl h
 ·exact .inr (List.mem_of_mem_drop h)
structure V5 where
 o:List Fld
def Aa9 (l:List Fld) (f:Fld) (o:V5):Prop:=Fun Tryz.prog 236 [.c (.seq .fld l),.agg (Fr f)] [] (.v (vO 0)) [.lst .fld o.o]
def V6 (l:List Fld) (f:Fld) (o:V5):Prop:=((List.length o.o=List.length l+1)∧(∀g∈o.o,g=f∨g∈l))∧Aa9 l f o
structure Ut where
 k:Nat
def Uu (l:List Fld) (f:Fld):Fam:=⟨Ut,fun q1=>[(0,.v (.c (.seq .fld l))),(3,.v (vP 0)),(5,.v (vI ((q1.k:Nat):Int)))],fun _=>[.cells (Fr f)],fun q1=>q1.k≤List.length l,fun q1=>List.length l-q1.k⟩
theorem Amp (l:List Fld) (f:Fld) (hp1:List.length l≤1000): ∃o:V5,V6 l f o:=by
 have hN:Bb=274877906944:=rfl
 refine Br Tryz.func236 Q4 Q4 (w:=let z7:=((List.length l:Nat):Int);let z8:=Uu l f;(.seg [.at 0,.keep [0,3,5],.sel [0]] (.loop z8 fun q1=>let z1:=(([]:List Fld)++(List.take q1.k l))++[f];.case (decide (((q1.k:Nat):Int)<z7)) (.intro (Sx (l[q1.k]?)) fun x1=> .seg [.ord (os 14 []) [],.br true,.el .fld x1] (.br (.seg [.as 22 (.v (vI (((q1.k:Nat):Int)+1))),.at 0,.keep [0,3,5],.sel [0]] (.next)) (.seg [.ty .fld,.ty .fld,.ord [(0,true),(1,true),(4,true),(5,true),(6,true),(2,false),(3,false),(7,false),(8,true)] [2],.ty .fld,.ty .fld,.ty .fld] (.leaf (⟨z1++(List.drop q1.k l)⟩:V5) [5])))) (.seg [.ord (os 14 []) [],.br false,.ty .fld,.ty .fld,.ord [(0,true),(1,true),(4,true),(5,true),(6,true),(2,false),(3,false),(7,false),(8,true)] [2],.ty .fld,.ty .fld,.ty .fld] (.leaf (⟨z1++(List.drop q1.k l)⟩:V5) [5]))),z8.Has [(0,.v (.c (.seq .fld l))),(3,.v (vP 0)),(5,.v (vI 0))] [.cells (Fr f)]∧∀q1,z8.inv q1→(let z3:=((q1.k:Nat):Int);let z4:=([]:List Fld)++(List.take q1.k l);let z2:=(z4++[f])++(List.drop q1.k l);let z5:=List.length ([]:List Fld)+List.length (List.take q1.k l)≤Bb;let z6:=List.length (z4++[f])+List.length (List.drop q1.k l)≤Bb;Bc (decide (z3<z7)) (El (l[q1.k]?) fun x1=>(((decide (z3<z7))=true)∧(l[q1.k]? =some x1)∧((0:Int)≤z3)∧(l[q1.k]? =some x1)∧((0:Int)≤z3)∧Bc (decide (x1.number<f.number)) ((wI (z3+1))∧z8.Nxt q1 [(0,.v (.c (.seq .fld l))),(3,.v (vP 0)),(5,.v (vI (z3+1)))] [.cells (Fr f)]) ((z3≤z7)∧((0:Int)≤z3)∧z5∧(z3≤z7)∧((0:Int)≤z3)∧(z3≤z7)∧((0:Int)≤z3)∧(List.length z4+List.length [f]≤Bb)∧z6∧((List.length z2=List.length l+1)∧(∀g∈z2,g=f∨g∈l))∧Lf (.v (vO 0)) (.v (vO 0)) [.lst .fld z2] [.lst .fld z2]))) (((decide (z3<z7))=false)∧(z3≤z7)∧((0:Int)≤z3)∧z5∧(z3≤z7)∧((0:Int)≤z3)∧(z3≤z7)∧((0:Int)≤z3)∧(List.length z4+List.length [f]≤Bb)∧z6∧((List.length z2=List.length l+1)∧(∀g∈z2,g=f∨g∈l))∧Lf (.v (vO 0)) (.v (vO 0)) [.lst .fld z2] [.lst .fld z2])))) Q4 ?_
 refine⟨Bf (j:=(⟨0⟩:Ut)) Q9 rfl (by dsimp only[Uu];omega),fun (q1:Ut) hq_q1=>?_⟩
 have hi_q1:q1.k≤List.length l:=hq_q1
 have v1:=hi_q1
 refine dsp (fun h1 p1=>?_) fun h1 p1=>?_
 refine⟨(Bh (l:=l) (i:=q1.k) Q2),fun x1 hx1=>?_⟩
 refine⟨h1,hx1,Q2,hx1,Q2,dsp (fun h2 p2=>?_) fun h2 p2=>?_⟩
 exact⟨(Ac Q2 Q2),A3 (j:=(⟨q1.k+1⟩:Ut)) Q9 rfl (by dsimp only[Uu];omega) (by dsimp only[Uu];omega)⟩
 exact⟨Q2,Q2,(by simp only[List.length_take,List.length_cons,List.length_nil];omega),Q2,Q2,Q2,Q2,(by simp;omega),(by simp;omega),⟨(by simp;omega),(fun g hg=>Agk hg)⟩,rfl,rfl⟩
 exact⟨h1,Q2,Q2,(by simp only[List.length_take,List.length_cons,List.length_nil];omega),Q2,Q2,Q2,Q2,(by simp;omega),(by simp;omega),⟨(by simp;omega),(fun g hg=>Agk hg)⟩,rfl,rfl⟩
def Anr (n:Nat) (f:Fld):Prop:=1≤f.kind∧f.kind≤8∧(f.kind=8→0≤f.msg∧f.msg<(n:Int))
theorem Aic {n m:Nat} {e:Shp} (h:e∈List.replicate m (⟨0,[]⟩:Shp)):Aje n e.fields:=by
 rw[List.eq_of_mem_replicate h]
 exact⟨by simp,fun f hf=>by cases hf⟩
theorem Aid {n k:Nat} {l:List Shp} {x e:Shp} (h: ∀e∈l,Aje n e.fields) (hx:Aje n x.fields) (he:e∈l.set k x):Aje n e.fields:=by
 rcases List.mem_or_eq_of_mem_set he with he|rfl
 ·exact h e he
 ·exact hx
theorem Fz {l:List Shp} {i:Nat} {x:Shp} (h:l[i]? =some x):l.set i ⟨x.id,x.fields⟩=l:=by
 apply List.ext_getElem?
 intro j
 rw[List.getElem?_set]
 split
 ·rename_i hij
  subst hij
  rw[if_pos (List.getElem?_eq_some_iff.1 h).1,h]
 ·rfl
theorem Agm {l:List Shp} {i:Nat} {x:Int} (hl:Gw l=List.take i [5,1,99]) (hi:i<3) (hx:([5,1,99,7]:List Int)[i]? =some x):Gw (l++[⟨x,[]⟩])=List.take (i+1) [5,1,99]:=by
 have:Gw (l++[⟨x,[]⟩])=Gw l++[x]:=by simp[Gw]
 rw[this,hl]
 have h3:i=0∨i=1∨i=2:=by omega
 rcases h3 with rfl|rfl|rfl<;>simp at hx<;>subst hx<;>rfl
theorem Agn {n:Nat} {l:List Shp} (h1:l.length=n) (h2:1≤n∧n≤3) (h3:Gw l=List.take n [5,1,99]) (h4: ∀m∈l,m.fields=[]):RawK n l:=
 ⟨h1,h2,h3,fun m hm=>by rw[h4 m hm];exact⟨by simp,by simp[Ag8],fun f hf=>by cases hf⟩⟩
theorem Akj {l:List Shp} {i j:Nat} {x m:Shp} (h: ∀j m,i<j→l[j]? =some m→m.fields=[]) (hj:i<j) (hm:(l.set i x)[j]? =some m):m.fields=[]:=by
 rw[List.getElem?_set_ne (by omega)] at hm
 exact h j m hj hm
structure M7 where
 l:List Shp
def V7 (r:Raw) (o:M7):Prop:=Fun Tryz.prog 174 [.agg [.seq .shp r.msgs]] [] (.tup [.agg [.own 0],.agg [.int .i64 0,.int .i64 0,.int .i64 0]]) [.tree o.l]
def Rp (r:Raw) (o:M7):Prop:=((SchG o.l))∧V7 r o
structure Hr where
 shapes:List Shp
 i:Nat
def Lj (r:Raw):Fam:=⟨Hr,fun q1=>[(1,.v (vP 0)),(2,.v (vP 1)),(3,.v (vP 2)),(4,.v (vP 3)),(5,.v (vP 4)),(6,.v (vI ((q1.i:Nat):Int)))],fun q1=>[.cells [.seq .shp r.msgs],.cells [.nil],.cells [.int .i64 0,.int .i64 0,.int .i64 0],.cells [.int .i64 0,.int .i64 0,.int .i64 0],.cells [.own 5],.tree q1.shapes],fun q1=>q1.i≤List.length r.msgs∧List.length q1.shapes=List.length r.msgs∧∀e∈q1.shapes,Aje (List.length r.msgs) e.fields,fun q1=>List.length r.msgs-q1.i⟩
structure Hs where
 x:Shp
 k:Nat
def E9 (r:Raw) (q1:Hr) (x1:Shp):Fam:=⟨Hs,fun q2=>[(1,.v (vP 0)),(2,.v (vP 1)),(3,.v (vP 2)),(4,.v (vP 3)),(5,.v (vP 4)),(6,.v (vI ((q1.i:Nat):Int))),(7,.v (vP 6)),(8,.v (vI ((q2.k:Nat):Int)))],fun q2=>[.cells [.seq .shp r.msgs],.cells [.nil],.cells [.int .i64 0,.int .i64 0,.int .i64 0],.cells [.int .i64 0,.int .i64 0,.int .i64 0],.cells [.own 5],.tree q1.shapes,.cells [.int .i64 q2.x.id,.own 7],.lst .fld q2.x.fields],fun q2=>q2.k≤List.length x1.fields∧(q2.x).id=x1.id∧List.length (q2.x).fields=q2.k∧∀f∈(q2.x).fields,Anr (List.length r.msgs) f,fun q2=>List.length x1.fields-q2.k⟩
theorem Ago (r:Raw) (hp1:RawK (List.length (r).msgs) (r).msgs): ∃o:M7,Rp r o:=by
 have hN:Bb=274877906944:=rfl
 have hpos:=hp1.pos
 refine Br Tryz.func174 Q4 Q4 (w:=let zi:Int→C:= .int .i64;let z11:=((List.length r.msgs:Nat):Int);let z12:S:= .tup [.agg [.own 0],.agg [zi 0,zi 0,zi 0]];let z13:S:= .v (.agg [zi 0,zi 0,zi 0]);let z14:=Lj r;(.seg [.call [] z13 [],.br false,.tyT,.at 0,.keep [1,2,3,4,5,6],.sel [0,1,2,3,5,4]] (.loop z14 fun q1=> .br (.intro (Sx (r.msgs[q1.i]?)) fun x1=> .seg [.el .shp x1,.at 0,.mk 6 1 .fld,.keep [1,2,3,4,5,6,7,8],.sel [0,1,2,3,4,5,6,7]] (.loop (E9 r q1 x1) fun q2=>let z5:S:= .v (vI (((q2.k:Nat):Int)+1));.seg [.el .shp x1] (.br (.seg [.el .shp x1] (.intro (Sx (x1.fields[q2.k]?)) fun x2=>let z1:=((V4 (r).msgs x2.msg:Nat):Int);.seg [.el .fld x2] (.br (.seg [.call [] (.v (vI z1)) []] (.intro (V6 q2.x.fields (⟨x2.number,x2.kind,x2.rep,x2.packed,z1⟩:Fld)) fun o1=> .seg [.call [] (.v (vO 0)) [.lst .fld o1.o],.as 47 z5,.at 0,.keep [1,2,3,4,5,6,7,8],.sel [0,1,2,3,4,5,6,10]] (.next))) (.intro (V6 q2.x.fields (⟨x2.number,x2.kind,x2.rep,x2.packed,(-1)⟩:Fld)) fun o1=> .seg [.call [] (.v (vO 0)) [.lst .fld o1.o],.as 47 z5,.at 0,.keep [1,2,3,4,5,6,7,8],.sel [0,1,2,3,4,5,6,10]] (.next))))) (.intro (Sx (q1.shapes[V4 (r).msgs q2.x.id]?)) fun x2=> .seg [.ord [(0,true),(1,true),(2,true),(3,true),(4,true),(6,true),(5,false),(7,true),(8,false)] [],.call [] (.v (vI ((V4 (r).msgs q2.x.id:Nat):Int))) [],.el .shp x2,.as 29 (.v (vI (((q1.i:Nat):Int)+1))),.at 0,.keep [1,2,3,4,5,6],.sel [0,1,2,3,4,5]] (.next))))) (.seg [.ord (os 4 [2,3]) [1]] (.leaf (⟨q1.shapes⟩:M7) [5]))),(Fp 234 [.agg [.seq .shp r.msgs]] [] z13 [])∧((!decide (0=0))=false)∧(z11≤9223372036854775807)∧(((32:Nat):Int)*z11≤281474976710656)∧(z11≤z11)∧((0:Int)≤z11)∧z14.Has [(1,.v (vP 0)),(2,.v (vP 1)),(3,.v (vP 2)),(4,.v (vP 3)),(5,.v (vP 4)),(6,.v (vI 0))] [.cells [.seq .shp r.msgs],.cells [.nil],.cells [zi 0,zi 0,zi 0],.cells [zi 0,zi 0,zi 0],.cells [.own 5],.tree (List.replicate (List.length r.msgs) (⟨0,([]:List Fld)⟩:Shp))]∧∀q1,z14.inv q1→(let z10:=((q1.i:Nat):Int);Bc (decide (z10<z11)) (El (r.msgs[q1.i]?) fun x1=>(let z8:=E9 r q1 x1;let z9:=r.msgs[q1.i]? =some x1;z9∧((0:Int)≤z10)∧z8.Has [(1,.v (vP 0)),(2,.v (vP 1)),(3,.v (vP 2)),(4,.v (vP 3)),(5,.v (vP 4)),(6,.v (vI z10)),(7,.v (vP 6)),(8,.v (vI 0))] [.cells [.seq .shp r.msgs],.cells [.nil],.cells [zi 0,zi 0,zi 0],.cells [zi 0,zi 0,zi 0],.cells [.own 5],.tree q1.shapes,.cells [zi x1.id,.own 7],.lst .fld ([]:List Fld)]∧∀q2,z8.inv q2→(let z6:=((q2.k:Nat):Int);let z7:=((V4 (r).msgs q2.x.id:Nat):Int);z9∧((0:Int)≤z10)∧Bc (decide (z6<((List.length x1.fields:Nat):Int))) (z9∧((0:Int)≤z10)∧El (x1.fields[q2.k]?) fun x2=>(let z3:=(⟨x2.number,x2.kind,x2.rep,x2.packed,(-1)⟩:Fld);let z4:=((V4 (r).msgs x2.msg:Nat):Int);let z2:=(⟨x2.number,x2.kind,x2.rep,x2.packed,z4⟩:Fld);(x1.fields[q2.k]? =some x2)∧((0:Int)≤z6)∧Bc (decide (x2.kind=8)) ((Fp 235 [.agg [.seq .shp r.msgs],vI x2.msg] [] (.v (vI z4)) [])∧In (V6 q2.x.fields z2) fun o1=>((Aa9 q2.x.fields z2 o1)∧(wI (z6+1))∧z8.Nxt q2 [(1,.v (vP 0)),(2,.v (vP 1)),(3,.v (vP 2)),(4,.v (vP 3)),(5,.v (vP 4)),(6,.v (vI z10)),(7,.v (vP 6)),(8,.v (vI (z6+1)))] [.cells [.seq .shp r.msgs],.cells [.nil],.cells [zi 0,zi 0,zi 0],.cells [zi 0,zi 0,zi 0],.cells [.own 5],.tree q1.shapes,.cells [zi q2.x.id,.own 7],.lst .fld o1.o])) (In (V6 q2.x.fields z3) fun o1=>((Aa9 q2.x.fields z3 o1)∧(wI (z6+1))∧z8.Nxt q2 [(1,.v (vP 0)),(2,.v (vP 1)),(3,.v (vP 2)),(4,.v (vP 3)),(5,.v (vP 4)),(6,.v (vI z10)),(7,.v (vP 6)),(8,.v (vI (z6+1)))] [.cells [.seq .shp r.msgs],.cells [.nil],.cells [zi 0,zi 0,zi 0],.cells [zi 0,zi 0,zi 0],.cells [.own 5],.tree q1.shapes,.cells [zi q2.x.id,.own 7],.lst .fld o1.o])))) (El (q1.shapes[V4 (r).msgs q2.x.id]?) fun x2=>((Fp 235 [.agg [.seq .shp r.msgs],vI q2.x.id] [] (.v (vI z7)) [])∧(z7<((List.length q1.shapes:Nat):Int))∧((0:Int)≤z7)∧(q1.shapes[V4 (r).msgs q2.x.id]? =some x2)∧(wI (z10+1))∧z14.Nxt q1 [(1,.v (vP 0)),(2,.v (vP 1)),(3,.v (vP 2)),(4,.v (vP 3)),(5,.v (vP 4)),(6,.v (vI (z10+1)))] [.cells [.seq .shp r.msgs],.cells [.nil],.cells [zi 0,zi 0,zi 0],.cells [zi 0,zi 0,zi 0],.cells [.own 5],.tree (List.set q1.shapes (V4 (r).msgs q2.x.id) (⟨q2.x.id,q2.x.fields⟩:Shp))]))))) (((SchG q1.shapes))∧Lf z12 z12 [.tree q1.shapes] [.tree q1.shapes])))) Q4 ?_
 refine⟨(Aki r Q2),Q28,Q2,Q2,Q2,Q2,Bf (j:=(⟨List.replicate (List.length r.msgs) (⟨0,([]:List Fld)⟩:Shp),0⟩:Hr)) Q9 rfl (by dsimp only[Lj];exact⟨by omega,by simp,fun e he=>Aic he⟩),fun (q1:Hr) hq_q1=>?_⟩
 have hi_q1:q1.i≤List.length r.msgs∧List.length q1.shapes=List.length r.msgs∧∀e∈q1.shapes,Aje (List.length r.msgs) e.fields:=hq_q1
 obtain ⟨v1,v2,v3⟩:=hi_q1
 refine dsp (fun h1 p1=>?_) fun h1 p1=>?_
 refine⟨(Bh (l:=r.msgs) (i:=q1.i) Q2),fun x1 hx1=>?_⟩
 have hfg:=hp1.flds _ (List.mem_of_getElem? hx1)
 have hfl:=hfg.len
 have hmi:x1.id∈Gw r.msgs:=List.mem_map.2 ⟨_,List.mem_of_getElem? hx1,rfl⟩
 have hrl:=Agi hmi
 refine⟨hx1,Q2,Bf (j:=(⟨(⟨x1.id,([]:List Fld)⟩:Shp),0⟩:Hs)) Q9 Q9 (by dsimp only[E9];exact⟨by omega,rfl,rfl,fun f hf=>by cases hf⟩),fun (q2:Hs) hq_q2=>?_⟩
 have hi_q2:q2.k≤List.length x1.fields∧(q2.x).id=x1.id∧List.length (q2.x).fields=q2.k∧∀f∈(q2.x).fields,Anr (List.length r.msgs) f:=hq_q2
 obtain ⟨w1,w2,w3,w4⟩:=hi_q2
 refine⟨hx1,Q2,dsp (fun h2 p2=>?_) fun h2 p2=>?_⟩
 refine⟨hx1,Q2,(Bh (l:=x1.fields) (i:=q2.k) Q2),fun x2 hx2=>?_⟩
 have hg:=hfg.all _ (List.mem_of_getElem? hx2)
 have hgk:=hg.kd
 refine⟨hx2,Q2,dsp (fun h3 p3=>?_) fun h3 p3=>?_⟩
 have hir:=Agi (hg.ref (by omega))
 refine⟨(Ajf r _ Q2),(Amp q2.x.fields (⟨x2.number,x2.kind,x2.rep,x2.packed,((V4 (r).msgs x2.msg:Nat):Int)⟩:Fld) Q2),fun o1 ho_o1=>?_⟩
 obtain ⟨⟨hp_o1_0,hp_o1_1⟩,hf_o1⟩:=ho_o1
 exact⟨hf_o1,(Ac Q2 Q2),A3 (j:=(⟨(⟨q2.x.id,o1.o⟩:Shp),q2.k+1⟩:Hs)) Q9 Q9 (by dsimp only[E9];exact⟨by omega,w2,by omega,fun f hf=>by
          rcases hp_o1_1 f hf with rfl|hf
          ·exact⟨by dsimp only;omega,by dsimp only;omega,fun h8=>by dsimp only at h8 ⊢;omega⟩
          ·exact w4 f hf⟩) (by dsimp only[E9];omega)⟩
 refine⟨(Amp q2.x.fields (⟨x2.number,x2.kind,x2.rep,x2.packed,(-1)⟩:Fld) Q2),fun o1 ho_o1=>?_⟩
 obtain ⟨⟨hp_o1_0,hp_o1_1⟩,hf_o1⟩:=ho_o1
 exact⟨hf_o1,(Ac Q2 Q2),A3 (j:=(⟨(⟨q2.x.id,o1.o⟩:Shp),q2.k+1⟩:Hs)) Q9 Q9 (by dsimp only[E9];exact⟨by omega,w2,by omega,fun f hf=>by
          rcases hp_o1_1 f hf with rfl|hf
          ·exact⟨by dsimp only;omega,by dsimp only;omega,fun h8=>by dsimp only at h8 ⊢;omega⟩
          ·exact w4 f hf⟩) (by dsimp only[E9];omega)⟩
 have hxg:Aje (List.length r.msgs) q2.x.fields:=⟨by omega,w4⟩
 have hrx:V4 r.msgs q2.x.id<List.length r.msgs:=by rw[w2];exact hrl
 refine⟨(Bh (l:=q1.shapes) (i:=V4 (r).msgs q2.x.id) Q2),fun x2 hx2=>?_⟩
 exact⟨(Ajf r _ Q2),Q2,Q2,hx2,(Ac Q2 Q2),A3 (j:=(⟨List.set q1.shapes (V4 (r).msgs q2.x.id) (⟨q2.x.id,q2.x.fields⟩:Shp),q1.i+1⟩:Hr)) Q9 rfl (by dsimp only[Lj];exact⟨by omega,by rw[List.length_set];exact v2,fun e he=>Aid v3 hxg he⟩) (by dsimp only[Lj];omega)⟩
 have hsg:SchG q1.shapes:=⟨by omega,fun e he=>by rw[v2];exact v3 e he⟩
 exact⟨(hsg),rfl,rfl⟩
theorem Z6 {n:Int} (h:1≤n∧n≤18999∨20000≤n∧n≤536870911):Dc n=true:=by
 simp only[Dc,Ak,Bool.and_eq_true,Bool.not_eq_true',Bool.and_eq_false_iff,decide_eq_true_eq,decide_eq_false_iff_not]
 omega
theorem Anc {x:Int} (h:x∈([16,2047,2048,18999,20000,536870911]:List Int)):1≤x∧x≤18999∨20000≤x∧x≤536870911:=by
 simp at h
 omega
theorem Adu {k:Int} (h:C3 k=true):k≤5:=by
 simp only[C3,Ak,Bool.and_eq_true,decide_eq_true_eq] at h
 omega
theorem Aie {l:List Shp} {i:Nat} {x m:Shp} {k:Nat} (hx:x.fields.length≤k) (hm:(l.set i x)[i]? =some m):m.fields.length≤k:=by
 rw[List.getElem?_set] at hm
 simp at hm
 obtain ⟨_,rfl⟩:=hm
 exact hx
structure M8 where
 r:Raw
 c1:Cur
def V8 (c:Cur) (o:M8):Prop:=Fun Tryz.prog 175 [vP 0] [.cells (Bz c)] (.v (.agg [.own 1])) [.cells (Bz o.c1),.tree o.r.msgs]
def Rq (c:Cur) (o:M8):Prop:=((RawK (List.length (o.r).msgs) (o.r).msgs)∧(Av o.c1))∧V8 c o
structure Lk where
 c:Cur
 msgs:List Shp
 i:Nat
def Fb (o1:Co):Fam:=⟨Lk,fun q1=>[(0,.v (vP 0)),(2,.v (vP 1)),(3,.v (vP 2)),(4,.v (vI (1+o1.x))),(5,.v (vI ((q1.i:Nat):Int)))],fun q1=>[.cells (Bz q1.c),.cells [.nil],.cells [.own 3],.tree q1.msgs],fun q1=>Av q1.c∧((q1.i:Nat):Int)≤1+o1.x∧List.length q1.msgs=q1.i∧Gw q1.msgs=List.take q1.i [5,1,99]∧∀m∈q1.msgs,m.fields=[],fun q1=>3-q1.i⟩
structure Ht where
 c:Cur
 msgs:List Shp
 i:Nat
def Fc (o1:Co):Fam:=⟨Ht,fun q2=>[(0,.v (vP 0)),(2,.v (vP 1)),(3,.v (vP 2)),(4,.v (vI (1+o1.x))),(6,.v (vI ((q2.i:Nat):Int)))],fun q2=>[.cells (Bz q2.c),.cells [.nil],.cells [.own 3],.tree q2.msgs],fun q2=>Av q2.c∧q2.i≤Int.toNat (1+o1.x)∧RawK (Int.toNat (1+o1.x)) q2.msgs∧∀j m,q2.i≤j→q2.msgs[j]? =some m→m.fields=[],fun q2=>3-q2.i⟩
structure Bk where
 c:Cur
 msgs:List Shp
 k:Nat
def Hu (o1:Co) (q2:Ht) (o2:Co):Fam:=⟨Bk,fun q3=>[(0,.v (vP 0)),(2,.v (vP 1)),(3,.v (vP 2)),(4,.v (vI (1+o1.x))),(6,.v (vI ((q2.i:Nat):Int))),(7,.v (vI o2.x)),(8,.v (vI ((q3.k:Nat):Int)))],fun q3=>[.cells (Bz q3.c),.cells [.nil],.cells [.own 3],.tree q3.msgs],fun q3=>Av q3.c∧q3.k≤5∧RawK (Int.toNat (1+o1.x)) q3.msgs∧(∀j m,q2.i<j→q3.msgs[j]? =some m→m.fields=[])∧∀m,q3.msgs[q2.i]? =some m→List.length m.fields≤q3.k,fun q3=>5-q3.k⟩
theorem Agp (c:Cur) (hp1:Av c): ∃o:M8,Rq c o:=by
 have hN:Bb=274877906944:=rfl
 refine Br Tryz.func175 Q4 Q4 (w:=let z80:=fr (.first 9 (.two 8 (.one 10 (.one 11 (.first 12 (.first 13 (.one 14 (.done)))))) 10 (.one 8 (.one 11 (.first 12 (.first 13 (.one 14 (.done)))))))) 0 8;let z81:=fr (.one 4 (.first 5 (.first 6 (.one 7 (.first 8 (.one 9 (.done))))))) 0 4;let z82:=os 10 [8];(.intro (Aa c 3) fun o1=>let z77:=1+o1.x;.seg [.call [0] (.v (vI o1.x)) (Kc o1.c1),.as 13 (.v (vI z77)),.at 0,.mkT 2 0,.keep [0,2,3,4,5],.sel [0,1,2,3]] (.loop (Fb o1) fun q1=> .br (.intro (Sx ([5,1,99,7][q1.i]?)) fun x1=> .seg [.tree (.first 0 (.first 1 (.first 3 (.one 2 (.first 4 (.one 5 (.first 6 (.one 7 (.one 8 (.first 9 (.one 10 (.done)))))))))))) 10 [3],.ty .int,.el .int x1,.tyT,.tyT,.at 0,.keep [0,2,3,4,5],.sel [0,1,2,6],.as 18 (.v (vI (((q1.i:Nat):Int)+1))),.at 0,.keep [0,2,3,4,5],.sel [0,1,2,3]] (.next)) (.seg [.at 0,.keep [0,2,3,4,6],.sel [0,1,2,3]] (.loop (Fc o1) fun q2=> .br (.intro (Aa q2.c 6) fun o2=> .seg [.call [0] (.v (vI o2.x)) (Kc o2.c1),.at 0,.keep [0,2,3,4,6,7,8],.sel [0,1,2,3]] (.loop (Hu o1 q2 o2) fun q3=>let z63:S:= .v (vI (((q3.k:Nat):Int)+1));let z64:=Sx (q3.msgs[q2.i]?);.br (.intro (Aa q3.c 12) fun o3=>let z61:=1+o3.x;.seg [.call [0] (.v (vI o3.x)) (Kc o3.c1),.as 43 (.v (vI z61))] (.intro (Aa o3.c1 8) fun o4=> .seg [.call [0] (.v (vI o4.x)) (Kc o4.c1),.as 46 (.v (vI (1+o4.x)))] (.intro (Aq o4.c1 2) fun o5=> .seg [.call [0] (.v (vB o5.p)) (Kc o5.c1)] (.intro (Aq o5.c1 12) fun o6=> .seg [.call [0] (.v (vB o6.p)) (Kc o6.c1)] (.br (.seg [.ty .int,.pubS 53] (.intro (A4 o6.c1 [16,2047,2048,18999,20000,536870911]) fun o7=> .seg [.call [0] (.v (vI o7.x)) (Kc o7.c1)] (.br (.seg [.call [] (.v (vB (C3 (1+o4.x)))) []] (.br (.intro (Aq o7.c1 2) fun o8=> .seg [.call [0] (.v (vB o8.p)) (Kc o8.c1)] (.br (.intro (Aa o8.c1 z77) fun o9=> .intro (Sx (q3.msgs[Int.toNat o9.x]?)) fun x1=> .seg [.tree z81 9 [0],.call [0] (.v (vI o9.x)) (Kc o9.c1),.el .shp x1,.at 0,.keep [0,2,3,4,6,7,8,9],.sel [0,1,2,3,4]] (.intro z64 fun x2=> .take 20 3 q2.i x2 (.seg [.ord z82 [],.call [] (.v (vB (Ca x2.fields o7.x))) []] (.br (.seg [.tree z80 14 [5],.ty .fld,.ty .fld,.el .shp x2,.at 0,.keep [0,2,3,4,6,7,8],.sel [0,1,2,3],.ty .fld,.ty .fld,.el .shp x2,.at 0,.keep [0,2,3,4,6,7,8],.sel [0,1,2,3],.as 40 z63,.at 0,.keep [0,2,3,4,6,7,8],.sel [0,1,2,3]] (.next)) (.give 13 3 x2 (.seg [.as 40 z63,.at 0,.keep [0,2,3,4,6,7,8],.sel [0,1,2,3]] (.next))))))) (.intro z64 fun x1=> .take 20 3 q2.i x1 (.seg [.ord z82 [],.call [] (.v (vB (Ca x1.fields o7.x))) []] (.br (.seg [.tree z80 14 [6],.ty .fld,.ty .fld,.el .shp x1,.at 0,.keep [0,2,3,4,6,7,8],.sel [0,1,2,3],.ty .fld,.ty .fld,.el .shp x1,.at 0,.keep [0,2,3,4,6,7,8],.sel [0,1,2,3],.as 40 z63,.at 0,.keep [0,2,3,4,6,7,8],.sel [0,1,2,3]] (.next)) (.give 13 3 x1 (.seg [.as 40 z63,.at 0,.keep [0,2,3,4,6,7,8],.sel [0,1,2,3]] (.next)))))))) (.br (.intro (Aa o7.c1 z77) fun o8=> .intro (Sx (q3.msgs[Int.toNat o8.x]?)) fun x1=> .seg [.tree z81 9 [0],.call [0] (.v (vI o8.x)) (Kc o8.c1),.el .shp x1,.at 0,.keep [0,2,3,4,6,7,8,9],.sel [0,1,2,3,4]] (.intro z64 fun x2=> .take 20 3 q2.i x2 (.seg [.ord z82 [],.call [] (.v (vB (Ca x2.fields o7.x))) []] (.br (.seg [.tree z80 14 [5],.ty .fld,.ty .fld,.el .shp x2,.at 0,.keep [0,2,3,4,6,7,8],.sel [0,1,2,3],.ty .fld,.ty .fld,.el .shp x2,.at 0,.keep [0,2,3,4,6,7,8],.sel [0,1,2,3],.as 40 z63,.at 0,.keep [0,2,3,4,6,7,8],.sel [0,1,2,3]] (.next)) (.give 13 3 x2 (.seg [.as 40 z63,.at 0,.keep [0,2,3,4,6,7,8],.sel [0,1,2,3]] (.next))))))) (.intro z64 fun x1=> .take 20 3 q2.i x1 (.seg [.ord z82 [],.call [] (.v (vB (Ca x1.fields o7.x))) []] (.br (.seg [.tree z80 14 [6],.ty .fld,.ty .fld,.el .shp x1,.at 0,.keep [0,2,3,4,6,7,8],.sel [0,1,2,3],.ty .fld,.ty .fld,.el .shp x1,.at 0,.keep [0,2,3,4,6,7,8],.sel [0,1,2,3],.as 40 z63,.at 0,.keep [0,2,3,4,6,7,8],.sel [0,1,2,3]] (.next)) (.give 13 3 x1 (.seg [.as 40 z63,.at 0,.keep [0,2,3,4,6,7,8],.sel [0,1,2,3]] (.next))))))))) (.br (.intro (Aa o7.c1 z77) fun o8=> .intro (Sx (q3.msgs[Int.toNat o8.x]?)) fun x1=> .seg [.tree z81 9 [0],.call [0] (.v (vI o8.x)) (Kc o8.c1),.el .shp x1,.at 0,.keep [0,2,3,4,6,7,8,9],.sel [0,1,2,3,4]] (.intro z64 fun x2=> .take 20 3 q2.i x2 (.seg [.ord z82 [],.call [] (.v (vB (Ca x2.fields o7.x))) []] (.br (.seg [.tree z80 14 [5],.ty .fld,.ty .fld,.el .shp x2,.at 0,.keep [0,2,3,4,6,7,8],.sel [0,1,2,3],.ty .fld,.ty .fld,.el .shp x2,.at 0,.keep [0,2,3,4,6,7,8],.sel [0,1,2,3],.as 40 z63,.at 0,.keep [0,2,3,4,6,7,8],.sel [0,1,2,3]] (.next)) (.give 13 3 x2 (.seg [.as 40 z63,.at 0,.keep [0,2,3,4,6,7,8],.sel [0,1,2,3]] (.next))))))) (.intro z64 fun x1=> .take 20 3 q2.i x1 (.seg [.ord z82 [],.call [] (.v (vB (Ca x1.fields o7.x))) []] (.br (.seg [.tree z80 14 [6],.ty .fld,.ty .fld,.el .shp x1,.at 0,.keep [0,2,3,4,6,7,8],.sel [0,1,2,3],.ty .fld,.ty .fld,.el .shp x1,.at 0,.keep [0,2,3,4,6,7,8],.sel [0,1,2,3],.as 40 z63,.at 0,.keep [0,2,3,4,6,7,8],.sel [0,1,2,3]] (.next)) (.give 13 3 x1 (.seg [.as 40 z63,.at 0,.keep [0,2,3,4,6,7,8],.sel [0,1,2,3]] (.next)))))))))) (.br (.seg [.call [] (.v (vB (C3 (1+o4.x)))) []] (.br (.intro (Aq o6.c1 2) fun o7=> .seg [.call [0] (.v (vB o7.p)) (Kc o7.c1)] (.br (.intro (Aa o7.c1 z77) fun o8=> .intro (Sx (q3.msgs[Int.toNat o8.x]?)) fun x1=> .seg [.tree z81 9 [0],.call [0] (.v (vI o8.x)) (Kc o8.c1),.el .shp x1,.at 0,.keep [0,2,3,4,6,7,8,9],.sel [0,1,2,3,4]] (.intro z64 fun x2=> .take 20 3 q2.i x2 (.seg [.ord z82 [],.call [] (.v (vB (Ca x2.fields z61))) []] (.br (.seg [.tree z80 14 [5],.ty .fld,.ty .fld,.el .shp x2,.at 0,.keep [0,2,3,4,6,7,8],.sel [0,1,2,3],.ty .fld,.ty .fld,.el .shp x2,.at 0,.keep [0,2,3,4,6,7,8],.sel [0,1,2,3],.as 40 z63,.at 0,.keep [0,2,3,4,6,7,8],.sel [0,1,2,3]] (.next)) (.give 13 3 x2 (.seg [.as 40 z63,.at 0,.keep [0,2,3,4,6,7,8],.sel [0,1,2,3]] (.next))))))) (.intro z64 fun x1=> .take 20 3 q2.i x1 (.seg [.ord z82 [],.call [] (.v (vB (Ca x1.fields z61))) []] (.br (.seg [.tree z80 14 [5],.ty .fld,.ty .fld,.el .shp x1,.at 0,.keep [0,2,3,4,6,7,8],.sel [0,1,2,3],.ty .fld,.ty .fld,.el .shp x1,.at 0,.keep [0,2,3,4,6,7,8],.sel [0,1,2,3],.as 40 z63,.at 0,.keep [0,2,3,4,6,7,8],.sel [0,1,2,3]] (.next)) (.give 13 3 x1 (.seg [.as 40 z63,.at 0,.keep [0,2,3,4,6,7,8],.sel [0,1,2,3]] (.next)))))))) (.br (.intro (Aa o6.c1 z77) fun o7=> .intro (Sx (q3.msgs[Int.toNat o7.x]?)) fun x1=> .seg [.tree z81 9 [0],.call [0] (.v (vI o7.x)) (Kc o7.c1),.el .shp x1,.at 0,.keep [0,2,3,4,6,7,8,9],.sel [0,1,2,3,4]] (.intro z64 fun x2=> .take 20 3 q2.i x2 (.seg [.ord z82 [],.call [] (.v (vB (Ca x2.fields z61))) []] (.br (.seg [.tree z80 14 [5],.ty .fld,.ty .fld,.el .shp x2,.at 0,.keep [0,2,3,4,6,7,8],.sel [0,1,2,3],.ty .fld,.ty .fld,.el .shp x2,.at 0,.keep [0,2,3,4,6,7,8],.sel [0,1,2,3],.as 40 z63,.at 0,.keep [0,2,3,4,6,7,8],.sel [0,1,2,3]] (.next)) (.give 13 3 x2 (.seg [.as 40 z63,.at 0,.keep [0,2,3,4,6,7,8],.sel [0,1,2,3]] (.next))))))) (.intro z64 fun x1=> .take 20 3 q2.i x1 (.seg [.ord z82 [],.call [] (.v (vB (Ca x1.fields z61))) []] (.br (.seg [.tree z80 14 [5],.ty .fld,.ty .fld,.el .shp x1,.at 0,.keep [0,2,3,4,6,7,8],.sel [0,1,2,3],.ty .fld,.ty .fld,.el .shp x1,.at 0,.keep [0,2,3,4,6,7,8],.sel [0,1,2,3],.as 40 z63,.at 0,.keep [0,2,3,4,6,7,8],.sel [0,1,2,3]] (.next)) (.give 13 3 x1 (.seg [.as 40 z63,.at 0,.keep [0,2,3,4,6,7,8],.sel [0,1,2,3]] (.next))))))))) (.br (.intro (Aa o6.c1 z77) fun o7=> .intro (Sx (q3.msgs[Int.toNat o7.x]?)) fun x1=> .seg [.tree z81 9 [0],.call [0] (.v (vI o7.x)) (Kc o7.c1),.el .shp x1,.at 0,.keep [0,2,3,4,6,7,8,9],.sel [0,1,2,3,4]] (.intro z64 fun x2=> .take 20 3 q2.i x2 (.seg [.ord z82 [],.call [] (.v (vB (Ca x2.fields z61))) []] (.br (.seg [.tree z80 14 [5],.ty .fld,.ty .fld,.el .shp x2,.at 0,.keep [0,2,3,4,6,7,8],.sel [0,1,2,3],.ty .fld,.ty .fld,.el .shp x2,.at 0,.keep [0,2,3,4,6,7,8],.sel [0,1,2,3],.as 40 z63,.at 0,.keep [0,2,3,4,6,7,8],.sel [0,1,2,3]] (.next)) (.give 13 3 x2 (.seg [.as 40 z63,.at 0,.keep [0,2,3,4,6,7,8],.sel [0,1,2,3]] (.next))))))) (.intro z64 fun x1=> .take 20 3 q2.i x1 (.seg [.ord z82 [],.call [] (.v (vB (Ca x1.fields z61))) []] (.br (.seg [.tree z80 14 [5],.ty .fld,.ty .fld,.el .shp x1,.at 0,.keep [0,2,3,4,6,7,8],.sel [0,1,2,3],.ty .fld,.ty .fld,.el .shp x1,.at 0,.keep [0,2,3,4,6,7,8],.sel [0,1,2,3],.as 40 z63,.at 0,.keep [0,2,3,4,6,7,8],.sel [0,1,2,3]] (.next)) (.give 13 3 x1 (.seg [.as 40 z63,.at 0,.keep [0,2,3,4,6,7,8],.sel [0,1,2,3]] (.next))))))))))))) (.seg [.as 33 (.v (vI (((q2.i:Nat):Int)+1))),.at 0,.keep [0,2,3,4,6],.sel [0,1,2,3]] (.next)))) (.leaf (⟨(⟨q2.msgs⟩:Raw),q2.c⟩:M8) [0,3])))),In (Aa c 3) fun o1=>(let z79:=1+o1.x;let z78:=vI z79;(Ai c 3 o1)∧(wI z79)∧(Fb o1).Has [(0,.v (vP 0)),(2,.v (vP 1)),(3,.v (vP 2)),(4,.v z78),(5,.v (vI 0))] [.cells (Bz o1.c1),.cells [.nil],.cells [.own 3],.tree ([]:List Shp)]∧∀q1,(Fb o1).inv q1→(let z76:=((q1.i:Nat):Int);Bc (decide (z76<1+o1.x)) (El ([5,1,99,7][q1.i]?) fun x1=>((z76<((List.length [5,1,99,7]:Nat):Int))∧((0:Int)≤z76)∧([5,1,99,7][q1.i]? =some x1)∧(List.length q1.msgs+List.length [(⟨x1,([]:List Fld)⟩:Shp)]≤Bb)∧(wI (z76+1))∧(Fb o1).Nxt q1 [(0,.v (vP 0)),(2,.v (vP 1)),(3,.v (vP 2)),(4,.v z78),(5,.v (vI (z76+1)))] [.cells (Bz q1.c),.cells [.nil],.cells [.own 3],.tree (q1.msgs++[(⟨x1,([]:List Fld)⟩:Shp)])])) ((Fc o1).Has [(0,.v (vP 0)),(2,.v (vP 1)),(3,.v (vP 2)),(4,.v z78),(6,.v (vI 0))] [.cells (Bz q1.c),.cells [.nil],.cells [.own 3],.tree q1.msgs]∧∀q2,(Fc o1).inv q2→(let z73:=q2.i=q2.i;let z75:=((q2.i:Nat):Int);let z72:=(0:Int)≤z75;let z74:=vI z75;Bc (decide (z75<1+o1.x)) (In (Aa q2.c 6) fun o2=>(let z71:=Hu o1 q2 o2;(Ai q2.c 6 o2)∧z71.Has [(0,.v (vP 0)),(2,.v (vP 1)),(3,.v (vP 2)),(4,.v z78),(6,.v z74),(7,.v (vI o2.x)),(8,.v (vI 0))] [.cells (Bz o2.c1),.cells [.nil],.cells [.own 3],.tree q2.msgs]∧∀q3,z71.inv q3→(let z68:=q3.msgs[q2.i]?;let z69:=((List.length q3.msgs:Nat):Int);let z65:=z75<z69;let z70:=((q3.k:Nat):Int);let z66:=([(0,.v (vP 0)),(2,.v (vP 1)),(3,.v (vP 2)),(4,.v z78),(6,.v z74),(7,.v (vI o2.x)),(8,.v (vI z70))]:List (Nat×S))=[(0,.v (vP 0)),(2,.v (vP 1)),(3,.v (vP 2)),(4,.v z78),(6,.v z74),(7,.v (vI o2.x)),(8,.v (vI z70))];let z67:=z70+1;Bc (decide (z70<o2.x)) (In (Aa q3.c 12) fun o3=>(let z62:=1+o3.x;(Ai q3.c 12 o3)∧(wI z62)∧In (Aa o3.c1 8) fun o4=>(let z59:=decide (1+o4.x=8);let z60:=C3 (1+o4.x);(Ai o3.c1 8 o4)∧(wI (1+o4.x))∧In (Aq o4.c1 2) fun o5=>(let z58:=(⟨1+o3.x,1+o4.x,o5.p,false,0⟩:Fld);(Bg o4.c1 2 o5)∧In (Aq o5.c1 12) fun o6=>((Bg o5.c1 12 o6)∧Bc o6.p (In (A4 o6.c1 [16,2047,2048,18999,20000,536870911]) fun o7=>(let z29:=(⟨o7.x,1+o4.x,o5.p,false,0⟩:Fld);(B5 o6.c1 [16,2047,2048,18999,20000,536870911] o7)∧Bc o5.p ((Fp 207 [vI (1+o4.x)] [] (.v (vB z60)) [])∧Bc z60 (In (Aq o7.c1 2) fun o8=>(let z10:=(⟨o7.x,1+o4.x,o5.p,o8.p,0⟩:Fld);(Bg o7.c1 2 o8)∧Bc z59 (In (Aa o8.c1 z79) fun o9=>(El (q3.msgs[Int.toNat o9.x]?) fun x1=>(let z5:=(⟨o7.x,1+o4.x,o5.p,o8.p,x1.id⟩:Fld);(Ai o8.c1 z79 o9)∧(o9.x<z69)∧((0:Int)≤o9.x)∧(q3.msgs[Int.toNat o9.x]? =some x1)∧El z68 fun x2=>(let z1:List Blk:=[.cells (Bz o9.c1),.cells [.nil],.cells [.own 3],.tree (List.set q3.msgs q2.i (⟨x2.id,x2.fields++[z5]⟩:Shp))];let z2:=z68.map (fun (x:Shp)=>x.fields.length)=some (List.length x2.fields);let z3:=List.length x2.fields+List.length [z5]≤Bb;let z4:=q3.msgs[q2.i]? =some x2;z4∧z65∧z72∧z65∧z72∧z73∧z2∧z73∧z2∧(Fp 237 [.c (.seq .fld x2.fields),vI o7.x] [] (.v (vB (Ca x2.fields o7.x))) [])∧Bc (!(Ca x2.fields o7.x)) (z65∧z72∧z65∧z72∧z73∧z2∧z3∧z65∧z72∧z65∧z72∧z73∧z4∧z73∧z2∧z3∧z65∧z72∧z65∧z72∧z73∧z4∧((z1:List Blk)=z1)∧z66∧(wI z67)∧z71.Nxt q3 [(0,.v (vP 0)),(2,.v (vP 1)),(3,.v (vP 2)),(4,.v z78),(6,.v z74),(7,.v (vI o2.x)),(8,.v (vI z67))] z1) ((List.length x2.fields=List.length x2.fields)∧z4∧(wI z67)∧z71.Nxt q3 [(0,.v (vP 0)),(2,.v (vP 1)),(3,.v (vP 2)),(4,.v z78),(6,.v z74),(7,.v (vI o2.x)),(8,.v (vI z67))] [.cells (Bz o9.c1),.cells [.nil],.cells [.own 3],.tree (List.set q3.msgs q2.i (⟨x2.id,x2.fields⟩:Shp))]))))) (El z68 fun x1=>(let z6:List Blk:=[.cells (Bz o8.c1),.cells [.nil],.cells [.own 3],.tree (List.set q3.msgs q2.i (⟨x1.id,x1.fields++[z10]⟩:Shp))];let z7:=z68.map (fun (x:Shp)=>x.fields.length)=some (List.length x1.fields);let z8:=List.length x1.fields+List.length [z10]≤Bb;let z9:=q3.msgs[q2.i]? =some x1;z9∧z65∧z72∧z65∧z72∧z73∧z7∧z73∧z7∧(Fp 237 [.c (.seq .fld x1.fields),vI o7.x] [] (.v (vB (Ca x1.fields o7.x))) [])∧Bc (!(Ca x1.fields o7.x)) (z65∧z72∧z65∧z72∧z73∧z7∧z8∧z65∧z72∧z65∧z72∧z73∧z9∧z73∧z7∧z8∧z65∧z72∧z65∧z72∧z73∧z9∧((z6:List Blk)=z6)∧z66∧(wI z67)∧z71.Nxt q3 [(0,.v (vP 0)),(2,.v (vP 1)),(3,.v (vP 2)),(4,.v z78),(6,.v z74),(7,.v (vI o2.x)),(8,.v (vI z67))] z6) ((List.length x1.fields=List.length x1.fields)∧z9∧(wI z67)∧z71.Nxt q3 [(0,.v (vP 0)),(2,.v (vP 1)),(3,.v (vP 2)),(4,.v z78),(6,.v z74),(7,.v (vI o2.x)),(8,.v (vI z67))] [.cells (Bz o8.c1),.cells [.nil],.cells [.own 3],.tree (List.set q3.msgs q2.i (⟨x1.id,x1.fields⟩:Shp))]))))) (Bc z59 (In (Aa o7.c1 z79) fun o8=>(El (q3.msgs[Int.toNat o8.x]?) fun x1=>(let z15:=(⟨o7.x,1+o4.x,o5.p,false,x1.id⟩:Fld);(Ai o7.c1 z79 o8)∧(o8.x<z69)∧((0:Int)≤o8.x)∧(q3.msgs[Int.toNat o8.x]? =some x1)∧El z68 fun x2=>(let z11:List Blk:=[.cells (Bz o8.c1),.cells [.nil],.cells [.own 3],.tree (List.set q3.msgs q2.i (⟨x2.id,x2.fields++[z15]⟩:Shp))];let z12:=z68.map (fun (x:Shp)=>x.fields.length)=some (List.length x2.fields);let z13:=List.length x2.fields+List.length [z15]≤Bb;let z14:=q3.msgs[q2.i]? =some x2;z14∧z65∧z72∧z65∧z72∧z73∧z12∧z73∧z12∧(Fp 237 [.c (.seq .fld x2.fields),vI o7.x] [] (.v (vB (Ca x2.fields o7.x))) [])∧Bc (!(Ca x2.fields o7.x)) (z65∧z72∧z65∧z72∧z73∧z12∧z13∧z65∧z72∧z65∧z72∧z73∧z14∧z73∧z12∧z13∧z65∧z72∧z65∧z72∧z73∧z14∧((z11:List Blk)=z11)∧z66∧(wI z67)∧z71.Nxt q3 [(0,.v (vP 0)),(2,.v (vP 1)),(3,.v (vP 2)),(4,.v z78),(6,.v z74),(7,.v (vI o2.x)),(8,.v (vI z67))] z11) ((List.length x2.fields=List.length x2.fields)∧z14∧(wI z67)∧z71.Nxt q3 [(0,.v (vP 0)),(2,.v (vP 1)),(3,.v (vP 2)),(4,.v z78),(6,.v z74),(7,.v (vI o2.x)),(8,.v (vI z67))] [.cells (Bz o8.c1),.cells [.nil],.cells [.own 3],.tree (List.set q3.msgs q2.i (⟨x2.id,x2.fields⟩:Shp))]))))) (El z68 fun x1=>(let z16:List Blk:=[.cells (Bz o7.c1),.cells [.nil],.cells [.own 3],.tree (List.set q3.msgs q2.i (⟨x1.id,x1.fields++[z29]⟩:Shp))];let z17:=z68.map (fun (x:Shp)=>x.fields.length)=some (List.length x1.fields);let z18:=List.length x1.fields+List.length [z29]≤Bb;let z19:=q3.msgs[q2.i]? =some x1;z19∧z65∧z72∧z65∧z72∧z73∧z17∧z73∧z17∧(Fp 237 [.c (.seq .fld x1.fields),vI o7.x] [] (.v (vB (Ca x1.fields o7.x))) [])∧Bc (!(Ca x1.fields o7.x)) (z65∧z72∧z65∧z72∧z73∧z17∧z18∧z65∧z72∧z65∧z72∧z73∧z19∧z73∧z17∧z18∧z65∧z72∧z65∧z72∧z73∧z19∧((z16:List Blk)=z16)∧z66∧(wI z67)∧z71.Nxt q3 [(0,.v (vP 0)),(2,.v (vP 1)),(3,.v (vP 2)),(4,.v z78),(6,.v z74),(7,.v (vI o2.x)),(8,.v (vI z67))] z16) ((List.length x1.fields=List.length x1.fields)∧z19∧(wI z67)∧z71.Nxt q3 [(0,.v (vP 0)),(2,.v (vP 1)),(3,.v (vP 2)),(4,.v z78),(6,.v z74),(7,.v (vI o2.x)),(8,.v (vI z67))] [.cells (Bz o7.c1),.cells [.nil],.cells [.own 3],.tree (List.set q3.msgs q2.i (⟨x1.id,x1.fields⟩:Shp))]))))) (Bc z59 (In (Aa o7.c1 z79) fun o8=>(El (q3.msgs[Int.toNat o8.x]?) fun x1=>(let z24:=(⟨o7.x,1+o4.x,o5.p,false,x1.id⟩:Fld);(Ai o7.c1 z79 o8)∧(o8.x<z69)∧((0:Int)≤o8.x)∧(q3.msgs[Int.toNat o8.x]? =some x1)∧El z68 fun x2=>(let z20:List Blk:=[.cells (Bz o8.c1),.cells [.nil],.cells [.own 3],.tree (List.set q3.msgs q2.i (⟨x2.id,x2.fields++[z24]⟩:Shp))];let z21:=z68.map (fun (x:Shp)=>x.fields.length)=some (List.length x2.fields);let z22:=List.length x2.fields+List.length [z24]≤Bb;let z23:=q3.msgs[q2.i]? =some x2;z23∧z65∧z72∧z65∧z72∧z73∧z21∧z73∧z21∧(Fp 237 [.c (.seq .fld x2.fields),vI o7.x] [] (.v (vB (Ca x2.fields o7.x))) [])∧Bc (!(Ca x2.fields o7.x)) (z65∧z72∧z65∧z72∧z73∧z21∧z22∧z65∧z72∧z65∧z72∧z73∧z23∧z73∧z21∧z22∧z65∧z72∧z65∧z72∧z73∧z23∧((z20:List Blk)=z20)∧z66∧(wI z67)∧z71.Nxt q3 [(0,.v (vP 0)),(2,.v (vP 1)),(3,.v (vP 2)),(4,.v z78),(6,.v z74),(7,.v (vI o2.x)),(8,.v (vI z67))] z20) ((List.length x2.fields=List.length x2.fields)∧z23∧(wI z67)∧z71.Nxt q3 [(0,.v (vP 0)),(2,.v (vP 1)),(3,.v (vP 2)),(4,.v z78),(6,.v z74),(7,.v (vI o2.x)),(8,.v (vI z67))] [.cells (Bz o8.c1),.cells [.nil],.cells [.own 3],.tree (List.set q3.msgs q2.i (⟨x2.id,x2.fields⟩:Shp))]))))) (El z68 fun x1=>(let z25:List Blk:=[.cells (Bz o7.c1),.cells [.nil],.cells [.own 3],.tree (List.set q3.msgs q2.i (⟨x1.id,x1.fields++[z29]⟩:Shp))];let z26:=z68.map (fun (x:Shp)=>x.fields.length)=some (List.length x1.fields);let z27:=List.length x1.fields+List.length [z29]≤Bb;let z28:=q3.msgs[q2.i]? =some x1;z28∧z65∧z72∧z65∧z72∧z73∧z26∧z73∧z26∧(Fp 237 [.c (.seq .fld x1.fields),vI o7.x] [] (.v (vB (Ca x1.fields o7.x))) [])∧Bc (!(Ca x1.fields o7.x)) (z65∧z72∧z65∧z72∧z73∧z26∧z27∧z65∧z72∧z65∧z72∧z73∧z28∧z73∧z26∧z27∧z65∧z72∧z65∧z72∧z73∧z28∧((z25:List Blk)=z25)∧z66∧(wI z67)∧z71.Nxt q3 [(0,.v (vP 0)),(2,.v (vP 1)),(3,.v (vP 2)),(4,.v z78),(6,.v z74),(7,.v (vI o2.x)),(8,.v (vI z67))] z25) ((List.length x1.fields=List.length x1.fields)∧z28∧(wI z67)∧z71.Nxt q3 [(0,.v (vP 0)),(2,.v (vP 1)),(3,.v (vP 2)),(4,.v z78),(6,.v z74),(7,.v (vI o2.x)),(8,.v (vI z67))] [.cells (Bz o7.c1),.cells [.nil],.cells [.own 3],.tree (List.set q3.msgs q2.i (⟨x1.id,x1.fields⟩:Shp))])))))) (Bc o5.p ((Fp 207 [vI (1+o4.x)] [] (.v (vB z60)) [])∧Bc z60 (In (Aq o6.c1 2) fun o7=>(let z39:=(⟨1+o3.x,1+o4.x,o5.p,o7.p,0⟩:Fld);(Bg o6.c1 2 o7)∧Bc z59 (In (Aa o7.c1 z79) fun o8=>(El (q3.msgs[Int.toNat o8.x]?) fun x1=>(let z34:=(⟨1+o3.x,1+o4.x,o5.p,o7.p,x1.id⟩:Fld);(Ai o7.c1 z79 o8)∧(o8.x<z69)∧((0:Int)≤o8.x)∧(q3.msgs[Int.toNat o8.x]? =some x1)∧El z68 fun x2=>(let z30:List Blk:=[.cells (Bz o8.c1),.cells [.nil],.cells [.own 3],.tree (List.set q3.msgs q2.i (⟨x2.id,x2.fields++[z34]⟩:Shp))];let z31:=z68.map (fun (x:Shp)=>x.fields.length)=some (List.length x2.fields);let z32:=List.length x2.fields+List.length [z34]≤Bb;let z33:=q3.msgs[q2.i]? =some x2;z33∧z65∧z72∧z65∧z72∧z73∧z31∧z73∧z31∧(Fp 237 [.c (.seq .fld x2.fields),vI z62] [] (.v (vB (Ca x2.fields z62))) [])∧Bc (!(Ca x2.fields z62)) (z65∧z72∧z65∧z72∧z73∧z31∧z32∧z65∧z72∧z65∧z72∧z73∧z33∧z73∧z31∧z32∧z65∧z72∧z65∧z72∧z73∧z33∧((z30:List Blk)=z30)∧z66∧(wI z67)∧z71.Nxt q3 [(0,.v (vP 0)),(2,.v (vP 1)),(3,.v (vP 2)),(4,.v z78),(6,.v z74),(7,.v (vI o2.x)),(8,.v (vI z67))] z30) ((List.length x2.fields=List.length x2.fields)∧z33∧(wI z67)∧z71.Nxt q3 [(0,.v (vP 0)),(2,.v (vP 1)),(3,.v (vP 2)),(4,.v z78),(6,.v z74),(7,.v (vI o2.x)),(8,.v (vI z67))] [.cells (Bz o8.c1),.cells [.nil],.cells [.own 3],.tree (List.set q3.msgs q2.i (⟨x2.id,x2.fields⟩:Shp))]))))) (El z68 fun x1=>(let z35:List Blk:=[.cells (Bz o7.c1),.cells [.nil],.cells [.own 3],.tree (List.set q3.msgs q2.i (⟨x1.id,x1.fields++[z39]⟩:Shp))];let z36:=z68.map (fun (x:Shp)=>x.fields.length)=some (List.length x1.fields);let z37:=List.length x1.fields+List.length [z39]≤Bb;let z38:=q3.msgs[q2.i]? =some x1;z38∧z65∧z72∧z65∧z72∧z73∧z36∧z73∧z36∧(Fp 237 [.c (.seq .fld x1.fields),vI z62] [] (.v (vB (Ca x1.fields z62))) [])∧Bc (!(Ca x1.fields z62)) (z65∧z72∧z65∧z72∧z73∧z36∧z37∧z65∧z72∧z65∧z72∧z73∧z38∧z73∧z36∧z37∧z65∧z72∧z65∧z72∧z73∧z38∧((z35:List Blk)=z35)∧z66∧(wI z67)∧z71.Nxt q3 [(0,.v (vP 0)),(2,.v (vP 1)),(3,.v (vP 2)),(4,.v z78),(6,.v z74),(7,.v (vI o2.x)),(8,.v (vI z67))] z35) ((List.length x1.fields=List.length x1.fields)∧z38∧(wI z67)∧z71.Nxt q3 [(0,.v (vP 0)),(2,.v (vP 1)),(3,.v (vP 2)),(4,.v z78),(6,.v z74),(7,.v (vI o2.x)),(8,.v (vI z67))] [.cells (Bz o7.c1),.cells [.nil],.cells [.own 3],.tree (List.set q3.msgs q2.i (⟨x1.id,x1.fields⟩:Shp))]))))) (Bc z59 (In (Aa o6.c1 z79) fun o7=>(El (q3.msgs[Int.toNat o7.x]?) fun x1=>(let z44:=(⟨1+o3.x,1+o4.x,o5.p,false,x1.id⟩:Fld);(Ai o6.c1 z79 o7)∧(o7.x<z69)∧((0:Int)≤o7.x)∧(q3.msgs[Int.toNat o7.x]? =some x1)∧El z68 fun x2=>(let z40:List Blk:=[.cells (Bz o7.c1),.cells [.nil],.cells [.own 3],.tree (List.set q3.msgs q2.i (⟨x2.id,x2.fields++[z44]⟩:Shp))];let z41:=z68.map (fun (x:Shp)=>x.fields.length)=some (List.length x2.fields);let z42:=List.length x2.fields+List.length [z44]≤Bb;let z43:=q3.msgs[q2.i]? =some x2;z43∧z65∧z72∧z65∧z72∧z73∧z41∧z73∧z41∧(Fp 237 [.c (.seq .fld x2.fields),vI z62] [] (.v (vB (Ca x2.fields z62))) [])∧Bc (!(Ca x2.fields z62)) (z65∧z72∧z65∧z72∧z73∧z41∧z42∧z65∧z72∧z65∧z72∧z73∧z43∧z73∧z41∧z42∧z65∧z72∧z65∧z72∧z73∧z43∧((z40:List Blk)=z40)∧z66∧(wI z67)∧z71.Nxt q3 [(0,.v (vP 0)),(2,.v (vP 1)),(3,.v (vP 2)),(4,.v z78),(6,.v z74),(7,.v (vI o2.x)),(8,.v (vI z67))] z40) ((List.length x2.fields=List.length x2.fields)∧z43∧(wI z67)∧z71.Nxt q3 [(0,.v (vP 0)),(2,.v (vP 1)),(3,.v (vP 2)),(4,.v z78),(6,.v z74),(7,.v (vI o2.x)),(8,.v (vI z67))] [.cells (Bz o7.c1),.cells [.nil],.cells [.own 3],.tree (List.set q3.msgs q2.i (⟨x2.id,x2.fields⟩:Shp))]))))) (El z68 fun x1=>(let z45:List Blk:=[.cells (Bz o6.c1),.cells [.nil],.cells [.own 3],.tree (List.set q3.msgs q2.i (⟨x1.id,x1.fields++[z58]⟩:Shp))];let z46:=z68.map (fun (x:Shp)=>x.fields.length)=some (List.length x1.fields);let z47:=List.length x1.fields+List.length [z58]≤Bb;let z48:=q3.msgs[q2.i]? =some x1;z48∧z65∧z72∧z65∧z72∧z73∧z46∧z73∧z46∧(Fp 237 [.c (.seq .fld x1.fields),vI z62] [] (.v (vB (Ca x1.fields z62))) [])∧Bc (!(Ca x1.fields z62)) (z65∧z72∧z65∧z72∧z73∧z46∧z47∧z65∧z72∧z65∧z72∧z73∧z48∧z73∧z46∧z47∧z65∧z72∧z65∧z72∧z73∧z48∧((z45:List Blk)=z45)∧z66∧(wI z67)∧z71.Nxt q3 [(0,.v (vP 0)),(2,.v (vP 1)),(3,.v (vP 2)),(4,.v z78),(6,.v z74),(7,.v (vI o2.x)),(8,.v (vI z67))] z45) ((List.length x1.fields=List.length x1.fields)∧z48∧(wI z67)∧z71.Nxt q3 [(0,.v (vP 0)),(2,.v (vP 1)),(3,.v (vP 2)),(4,.v z78),(6,.v z74),(7,.v (vI o2.x)),(8,.v (vI z67))] [.cells (Bz o6.c1),.cells [.nil],.cells [.own 3],.tree (List.set q3.msgs q2.i (⟨x1.id,x1.fields⟩:Shp))]))))) (Bc z59 (In (Aa o6.c1 z79) fun o7=>(El (q3.msgs[Int.toNat o7.x]?) fun x1=>(let z53:=(⟨1+o3.x,1+o4.x,o5.p,false,x1.id⟩:Fld);(Ai o6.c1 z79 o7)∧(o7.x<z69)∧((0:Int)≤o7.x)∧(q3.msgs[Int.toNat o7.x]? =some x1)∧El z68 fun x2=>(let z49:List Blk:=[.cells (Bz o7.c1),.cells [.nil],.cells [.own 3],.tree (List.set q3.msgs q2.i (⟨x2.id,x2.fields++[z53]⟩:Shp))];let z50:=z68.map (fun (x:Shp)=>x.fields.length)=some (List.length x2.fields);let z51:=List.length x2.fields+List.length [z53]≤Bb;let z52:=q3.msgs[q2.i]? =some x2;z52∧z65∧z72∧z65∧z72∧z73∧z50∧z73∧z50∧(Fp 237 [.c (.seq .fld x2.fields),vI z62] [] (.v (vB (Ca x2.fields z62))) [])∧Bc (!(Ca x2.fields z62)) (z65∧z72∧z65∧z72∧z73∧z50∧z51∧z65∧z72∧z65∧z72∧z73∧z52∧z73∧z50∧z51∧z65∧z72∧z65∧z72∧z73∧z52∧((z49:List Blk)=z49)∧z66∧(wI z67)∧z71.Nxt q3 [(0,.v (vP 0)),(2,.v (vP 1)),(3,.v (vP 2)),(4,.v z78),(6,.v z74),(7,.v (vI o2.x)),(8,.v (vI z67))] z49) ((List.length x2.fields=List.length x2.fields)∧z52∧(wI z67)∧z71.Nxt q3 [(0,.v (vP 0)),(2,.v (vP 1)),(3,.v (vP 2)),(4,.v z78),(6,.v z74),(7,.v (vI o2.x)),(8,.v (vI z67))] [.cells (Bz o7.c1),.cells [.nil],.cells [.own 3],.tree (List.set q3.msgs q2.i (⟨x2.id,x2.fields⟩:Shp))]))))) (El z68 fun x1=>(let z54:List Blk:=[.cells (Bz o6.c1),.cells [.nil],.cells [.own 3],.tree (List.set q3.msgs q2.i (⟨x1.id,x1.fields++[z58]⟩:Shp))];let z55:=z68.map (fun (x:Shp)=>x.fields.length)=some (List.length x1.fields);let z56:=List.length x1.fields+List.length [z58]≤Bb;let z57:=q3.msgs[q2.i]? =some x1;z57∧z65∧z72∧z65∧z72∧z73∧z55∧z73∧z55∧(Fp 237 [.c (.seq .fld x1.fields),vI z62] [] (.v (vB (Ca x1.fields z62))) [])∧Bc (!(Ca x1.fields z62)) (z65∧z72∧z65∧z72∧z73∧z55∧z56∧z65∧z72∧z65∧z72∧z73∧z57∧z73∧z55∧z56∧z65∧z72∧z65∧z72∧z73∧z57∧((z54:List Blk)=z54)∧z66∧(wI z67)∧z71.Nxt q3 [(0,.v (vP 0)),(2,.v (vP 1)),(3,.v (vP 2)),(4,.v z78),(6,.v z74),(7,.v (vI o2.x)),(8,.v (vI z67))] z54) ((List.length x1.fields=List.length x1.fields)∧z57∧(wI z67)∧z71.Nxt q3 [(0,.v (vP 0)),(2,.v (vP 1)),(3,.v (vP 2)),(4,.v z78),(6,.v z74),(7,.v (vI o2.x)),(8,.v (vI z67))] [.cells (Bz o6.c1),.cells [.nil],.cells [.own 3],.tree (List.set q3.msgs q2.i (⟨x1.id,x1.fields⟩:Shp))])))))))))) ((wI (z75+1))∧(Fc o1).Nxt q2 [(0,.v (vP 0)),(2,.v (vP 1)),(3,.v (vP 2)),(4,.v z78),(6,.v (vI (z75+1)))] [.cells (Bz q3.c),.cells [.nil],.cells [.own 3],.tree q3.msgs])))) (((RawK (List.length ((⟨q2.msgs⟩:Raw)).msgs) ((⟨q2.msgs⟩:Raw)).msgs)∧(Av q2.c))∧Lf (.v (.agg [.own 1])) (.v (.agg [.own 1])) [.cells (Bz q2.c),.tree q2.msgs] [.cells (Bz q2.c),.tree q2.msgs]))))))) Q4 ?_
 refine⟨(Am c 3 Q0),fun o1 ho_o1=>?_⟩
 obtain ⟨⟨hp_o1_0,hp_o1_1,hp_o1_2,hp_o1_3⟩,hf_o1⟩:=ho_o1
 refine⟨hf_o1,(Ac Q2 Q2),Bf (j:=(⟨o1.c1,([]:List Shp),0⟩:Lk)) Q9 rfl (by dsimp only[Fb];exact⟨by assumption,by omega,rfl,rfl,fun m hm=>by cases hm⟩),fun (q1:Lk) hq_q1=>?_⟩
 have hi_q1:Av q1.c∧((q1.i:Nat):Int)≤1+o1.x∧List.length q1.msgs=q1.i∧Gw q1.msgs=List.take q1.i [5,1,99]∧∀m∈q1.msgs,m.fields=[]:=hq_q1
 obtain ⟨v1,v2,v3,v4,v5⟩:=hi_q1
 refine dsp (fun h1 p1=>?_) fun h1 p1=>?_
 refine⟨(Bh (l:=[5,1,99,7]) (i:=q1.i) Q5),fun x1 hx1=>?_⟩
 exact⟨Q5,Q2,hx1,Q5,(Ac Q2 Q2),A3 (j:=(⟨q1.c,q1.msgs++[(⟨x1,([]:List Fld)⟩:Shp)],q1.i+1⟩:Lk)) Q9 rfl (by dsimp only[Fb];exact⟨by assumption,by omega,by simp;omega,Agm v4 Q2 hx1,fun m hm=>by rcases List.mem_append.1 hm with hm|hm;exact v5 m hm;simp at hm;rw[hm]⟩) (by dsimp only[Fb];omega)⟩
 refine⟨Bf (j:=(⟨q1.c,q1.msgs,0⟩:Ht)) Q9 rfl (by dsimp only[Fc];exact⟨by assumption,by omega,Agn Q2 Q2 (by rw[v4];congr 1;omega) v5,fun j m _ hm=>v5 m (List.mem_of_getElem? hm)⟩),fun (q2:Ht) hq_q2=>?_⟩
 have hi_q2:Av q2.c∧q2.i≤Int.toNat (1+o1.x)∧RawK (Int.toNat (1+o1.x)) q2.msgs∧∀j m,q2.i≤j→q2.msgs[j]? =some m→m.fields=[]:=hq_q2
 obtain ⟨u1,u2,u3,u4⟩:=hi_q2
 have upos:=u3.pos
 have ulen:=u3.len
 refine dsp (fun h2 p2=>?_) fun h2 p2=>?_
 refine⟨(Am q2.c 6 Q0),fun o2 ho_o2=>?_⟩
 obtain ⟨⟨hp_o2_0,hp_o2_1,hp_o2_2,hp_o2_3⟩,hf_o2⟩:=ho_o2
 refine⟨hf_o2,Bf (j:=(⟨o2.c1,q2.msgs,0⟩:Bk)) Q9 rfl (by dsimp only[Hu];exact⟨by assumption,by omega,u3,fun j m hj hm=>u4 j m Q2 hm,fun m hm=>by rw[u4 _ m (Nat.le_refl _) hm];exact Nat.le_refl _⟩),fun (q3:Bk) hq_q3=>?_⟩
 have hi_q3:Av q3.c∧q3.k≤5∧RawK (Int.toNat (1+o1.x)) q3.msgs∧(∀j m,q2.i<j→q3.msgs[j]? =some m→m.fields=[])∧∀m,q3.msgs[q2.i]? =some m→List.length m.fields≤q3.k:=hq_q3
 obtain ⟨w1,w2,w3,w4,w5⟩:=hi_q3
 have wlen:=w3.len
 refine dsp (fun h3 p3=>?_) fun h3 p3=>?_
 refine⟨(Am q3.c 12 Q0),fun o3 ho_o3=>?_⟩
 obtain ⟨⟨hp_o3_0,hp_o3_1,hp_o3_2,hp_o3_3⟩,hf_o3⟩:=ho_o3
 refine⟨hf_o3,(Ac Q2 Q2),(Am o3.c1 8 Q0),fun o4 ho_o4=>?_⟩
 obtain ⟨⟨hp_o4_0,hp_o4_1,hp_o4_2,hp_o4_3⟩,hf_o4⟩:=ho_o4
 refine⟨hf_o4,(Ac Q2 Q2),(By o4.c1 2 Q0),fun o5 ho_o5=>?_⟩
 obtain ⟨hp_o5,hf_o5⟩:=ho_o5
 refine⟨hf_o5,(By o5.c1 12 Q0),fun o6 ho_o6=>?_⟩
 obtain ⟨hp_o6,hf_o6⟩:=ho_o6
 refine⟨hf_o6,fun h4=>?_,fun h4=>?_⟩
 refine⟨(Cv o6.c1 [16,2047,2048,18999,20000,536870911] Q0 Q5 Q5),fun o7 ho_o7=>?_⟩
 obtain ⟨⟨hp_o7_0,hp_o7_1⟩,hf_o7⟩:=ho_o7
 refine⟨hf_o7,fun h5=>?_,fun h5=>?_⟩
 refine⟨(Lu _),fun h6=>have p6:=Ar h6;?_,fun h6=>have p6:=Aw h6;?_⟩
 refine⟨(By o7.c1 2 Q0),fun o8 ho_o8=>?_⟩
 obtain ⟨hp_o8,hf_o8⟩:=ho_o8
 refine⟨hf_o8,dsp (fun h7 p7=>?_) fun h7 p7=>?_⟩
 refine⟨(Am o8.c1 (1+o1.x) Q0),fun o9 ho_o9=>?_⟩
 obtain ⟨⟨hp_o9_0,hp_o9_1,hp_o9_2,hp_o9_3⟩,hf_o9⟩:=ho_o9
 refine⟨(Bh (l:=q3.msgs) (i:=Int.toNat o9.x) Q2),fun x1 hx1=>?_⟩
 have hri:x1.id∈Gw q3.msgs:=List.mem_map.2 ⟨_,List.mem_of_getElem? hx1,rfl⟩
 refine⟨hf_o9,Q2,Q2,hx1,(Bh (l:=q3.msgs) (i:=q2.i) Q2),fun x2 hx2=>?_⟩
 have hxl:=w5 _ hx2
 have hsame:=Fz hx2
 refine⟨hx2,Q2,Q2,Q2,Q2,rfl,Q49,rfl,Q49,(Fi _ _ Q2),fun h8=>have q8:=Ao h8;?_,fun h8=>have q8:=An h8;?_⟩
 exact⟨Q2,Q2,Q2,Q2,rfl,Q49,Q5,Q2,Q2,Q2,Q2,rfl,hx2,rfl,Q49,Q5,Q2,Q2,Q2,Q2,rfl,hx2,rfl,rfl,(Ac Q2 Q2),A3 (j:=(⟨o9.c1,List.set q3.msgs q2.i (⟨x2.id,x2.fields++[(⟨o7.x,1+o4.x,o5.p,o8.p,x1.id⟩:Fld)]⟩:Shp),q3.k+1⟩:Bk)) Q9 rfl Q1 Q35⟩
 exact⟨Q9,hx2,(Ac Q2 Q2),A3 (j:=(⟨o9.c1,List.set q3.msgs q2.i (⟨x2.id,x2.fields⟩:Shp),q3.k+1⟩:Bk)) Q9 rfl Q1 Q35⟩
 refine⟨(Bh (l:=q3.msgs) (i:=q2.i) Q2),fun x1 hx1=>?_⟩
 have hxl:=w5 _ hx1
 have hsame:=Fz hx1
 refine⟨hx1,Q2,Q2,Q2,Q2,rfl,Q50,rfl,Q50,(Fi _ _ Q2),fun h8=>have q8:=Ao h8;?_,fun h8=>have q8:=An h8;?_⟩
 exact⟨Q2,Q2,Q2,Q2,rfl,Q50,Q5,Q2,Q2,Q2,Q2,rfl,hx1,rfl,Q50,Q5,Q2,Q2,Q2,Q2,rfl,hx1,rfl,rfl,(Ac Q2 Q2),A3 (j:=(⟨o8.c1,List.set q3.msgs q2.i (⟨x1.id,x1.fields++[(⟨o7.x,1+o4.x,o5.p,o8.p,0⟩:Fld)]⟩:Shp),q3.k+1⟩:Bk)) Q9 rfl Q1 Q35⟩
 exact⟨Q9,hx1,(Ac Q2 Q2),A3 (j:=(⟨o8.c1,List.set q3.msgs q2.i (⟨x1.id,x1.fields⟩:Shp),q3.k+1⟩:Bk)) Q9 rfl Q1 Q35⟩
 refine dsp (fun h7 p7=>?_) fun h7 p7=>?_
 refine⟨(Am o7.c1 (1+o1.x) Q0),fun o8 ho_o8=>?_⟩
 obtain ⟨⟨hp_o8_0,hp_o8_1,hp_o8_2,hp_o8_3⟩,hf_o8⟩:=ho_o8
 refine⟨(Bh (l:=q3.msgs) (i:=Int.toNat o8.x) Q2),fun x1 hx1=>?_⟩
 have hri:x1.id∈Gw q3.msgs:=List.mem_map.2 ⟨_,List.mem_of_getElem? hx1,rfl⟩
 refine⟨hf_o8,Q2,Q2,hx1,(Bh (l:=q3.msgs) (i:=q2.i) Q2),fun x2 hx2=>?_⟩
 have hxl:=w5 _ hx2
 have hsame:=Fz hx2
 refine⟨hx2,Q2,Q2,Q2,Q2,rfl,Q49,rfl,Q49,(Fi _ _ Q2),fun h8=>have q8:=Ao h8;?_,fun h8=>have q8:=An h8;?_⟩
 exact⟨Q2,Q2,Q2,Q2,rfl,Q49,Q5,Q2,Q2,Q2,Q2,rfl,hx2,rfl,Q49,Q5,Q2,Q2,Q2,Q2,rfl,hx2,rfl,rfl,(Ac Q2 Q2),A3 (j:=(⟨o8.c1,List.set q3.msgs q2.i (⟨x2.id,x2.fields++[(⟨o7.x,1+o4.x,o5.p,false,x1.id⟩:Fld)]⟩:Shp),q3.k+1⟩:Bk)) Q9 rfl Q1 Q35⟩
 exact⟨Q9,hx2,(Ac Q2 Q2),A3 (j:=(⟨o8.c1,List.set q3.msgs q2.i (⟨x2.id,x2.fields⟩:Shp),q3.k+1⟩:Bk)) Q9 rfl Q1 Q35⟩
 refine⟨(Bh (l:=q3.msgs) (i:=q2.i) Q2),fun x1 hx1=>?_⟩
 have hxl:=w5 _ hx1
 have hsame:=Fz hx1
 refine⟨hx1,Q2,Q2,Q2,Q2,rfl,Q50,rfl,Q50,(Fi _ _ Q2),fun h8=>have q8:=Ao h8;?_,fun h8=>have q8:=An h8;?_⟩
 exact⟨Q2,Q2,Q2,Q2,rfl,Q50,Q5,Q2,Q2,Q2,Q2,rfl,hx1,rfl,Q50,Q5,Q2,Q2,Q2,Q2,rfl,hx1,rfl,rfl,(Ac Q2 Q2),A3 (j:=(⟨o7.c1,List.set q3.msgs q2.i (⟨x1.id,x1.fields++[(⟨o7.x,1+o4.x,o5.p,false,0⟩:Fld)]⟩:Shp),q3.k+1⟩:Bk)) Q9 rfl Q1 Q35⟩
 exact⟨Q9,hx1,(Ac Q2 Q2),A3 (j:=(⟨o7.c1,List.set q3.msgs q2.i (⟨x1.id,x1.fields⟩:Shp),q3.k+1⟩:Bk)) Q9 rfl Q1 Q35⟩
 refine dsp (fun h6 p6=>?_) fun h6 p6=>?_
 refine⟨(Am o7.c1 (1+o1.x) Q0),fun o8 ho_o8=>?_⟩
 obtain ⟨⟨hp_o8_0,hp_o8_1,hp_o8_2,hp_o8_3⟩,hf_o8⟩:=ho_o8
 refine⟨(Bh (l:=q3.msgs) (i:=Int.toNat o8.x) Q2),fun x1 hx1=>?_⟩
 have hri:x1.id∈Gw q3.msgs:=List.mem_map.2 ⟨_,List.mem_of_getElem? hx1,rfl⟩
 refine⟨hf_o8,Q2,Q2,hx1,(Bh (l:=q3.msgs) (i:=q2.i) Q2),fun x2 hx2=>?_⟩
 have hxl:=w5 _ hx2
 have hsame:=Fz hx2
 refine⟨hx2,Q2,Q2,Q2,Q2,rfl,Q49,rfl,Q49,(Fi _ _ Q2),fun h7=>have q7:=Ao h7;?_,fun h7=>have q7:=An h7;?_⟩
 exact⟨Q2,Q2,Q2,Q2,rfl,Q49,Q5,Q2,Q2,Q2,Q2,rfl,hx2,rfl,Q49,Q5,Q2,Q2,Q2,Q2,rfl,hx2,rfl,rfl,(Ac Q2 Q2),A3 (j:=(⟨o8.c1,List.set q3.msgs q2.i (⟨x2.id,x2.fields++[(⟨o7.x,1+o4.x,o5.p,false,x1.id⟩:Fld)]⟩:Shp),q3.k+1⟩:Bk)) Q9 rfl Q1 Q35⟩
 exact⟨Q9,hx2,(Ac Q2 Q2),A3 (j:=(⟨o8.c1,List.set q3.msgs q2.i (⟨x2.id,x2.fields⟩:Shp),q3.k+1⟩:Bk)) Q9 rfl Q1 Q35⟩
 refine⟨(Bh (l:=q3.msgs) (i:=q2.i) Q2),fun x1 hx1=>?_⟩
 have hxl:=w5 _ hx1
 have hsame:=Fz hx1
 refine⟨hx1,Q2,Q2,Q2,Q2,rfl,Q50,rfl,Q50,(Fi _ _ Q2),fun h7=>have q7:=Ao h7;?_,fun h7=>have q7:=An h7;?_⟩
 exact⟨Q2,Q2,Q2,Q2,rfl,Q50,Q5,Q2,Q2,Q2,Q2,rfl,hx1,rfl,Q50,Q5,Q2,Q2,Q2,Q2,rfl,hx1,rfl,rfl,(Ac Q2 Q2),A3 (j:=(⟨o7.c1,List.set q3.msgs q2.i (⟨x1.id,x1.fields++[(⟨o7.x,1+o4.x,o5.p,false,0⟩:Fld)]⟩:Shp),q3.k+1⟩:Bk)) Q9 rfl Q1 Q35⟩
 exact⟨Q9,hx1,(Ac Q2 Q2),A3 (j:=(⟨o7.c1,List.set q3.msgs q2.i (⟨x1.id,x1.fields⟩:Shp),q3.k+1⟩:Bk)) Q9 rfl Q1 Q35⟩
 refine⟨fun h5=>?_,fun h5=>?_⟩
 refine⟨(Lu _),fun h6=>have p6:=Ar h6;?_,fun h6=>have p6:=Aw h6;?_⟩
 refine⟨(By o6.c1 2 Q0),fun o7 ho_o7=>?_⟩
 obtain ⟨hp_o7,hf_o7⟩:=ho_o7
 refine⟨hf_o7,dsp (fun h7 p7=>?_) fun h7 p7=>?_⟩
 refine⟨(Am o7.c1 (1+o1.x) Q0),fun o8 ho_o8=>?_⟩
 obtain ⟨⟨hp_o8_0,hp_o8_1,hp_o8_2,hp_o8_3⟩,hf_o8⟩:=ho_o8
 refine⟨(Bh (l:=q3.msgs) (i:=Int.toNat o8.x) Q2),fun x1 hx1=>?_⟩
 have hri:x1.id∈Gw q3.msgs:=List.mem_map.2 ⟨_,List.mem_of_getElem? hx1,rfl⟩
 refine⟨hf_o8,Q2,Q2,hx1,(Bh (l:=q3.msgs) (i:=q2.i) Q2),fun x2 hx2=>?_⟩
 have hxl:=w5 _ hx2
 have hsame:=Fz hx2
 refine⟨hx2,Q2,Q2,Q2,Q2,rfl,Q49,rfl,Q49,(Fi _ _ Q2),fun h8=>have q8:=Ao h8;?_,fun h8=>have q8:=An h8;?_⟩
 exact⟨Q2,Q2,Q2,Q2,rfl,Q49,Q5,Q2,Q2,Q2,Q2,rfl,hx2,rfl,Q49,Q5,Q2,Q2,Q2,Q2,rfl,hx2,rfl,rfl,(Ac Q2 Q2),A3 (j:=(⟨o8.c1,List.set q3.msgs q2.i (⟨x2.id,x2.fields++[(⟨1+o3.x,1+o4.x,o5.p,o7.p,x1.id⟩:Fld)]⟩:Shp),q3.k+1⟩:Bk)) Q9 rfl Q1 Q35⟩
 exact⟨Q9,hx2,(Ac Q2 Q2),A3 (j:=(⟨o8.c1,List.set q3.msgs q2.i (⟨x2.id,x2.fields⟩:Shp),q3.k+1⟩:Bk)) Q9 rfl Q1 Q35⟩
 refine⟨(Bh (l:=q3.msgs) (i:=q2.i) Q2),fun x1 hx1=>?_⟩
 have hxl:=w5 _ hx1
 have hsame:=Fz hx1
 refine⟨hx1,Q2,Q2,Q2,Q2,rfl,Q50,rfl,Q50,(Fi _ _ Q2),fun h8=>have q8:=Ao h8;?_,fun h8=>have q8:=An h8;?_⟩
 exact⟨Q2,Q2,Q2,Q2,rfl,Q50,Q5,Q2,Q2,Q2,Q2,rfl,hx1,rfl,Q50,Q5,Q2,Q2,Q2,Q2,rfl,hx1,rfl,rfl,(Ac Q2 Q2),A3 (j:=(⟨o7.c1,List.set q3.msgs q2.i (⟨x1.id,x1.fields++[(⟨1+o3.x,1+o4.x,o5.p,o7.p,0⟩:Fld)]⟩:Shp),q3.k+1⟩:Bk)) Q9 rfl Q1 Q35⟩
 exact⟨Q9,hx1,(Ac Q2 Q2),A3 (j:=(⟨o7.c1,List.set q3.msgs q2.i (⟨x1.id,x1.fields⟩:Shp),q3.k+1⟩:Bk)) Q9 rfl Q1 Q35⟩
 refine dsp (fun h7 p7=>?_) fun h7 p7=>?_
 refine⟨(Am o6.c1 (1+o1.x) Q0),fun o7 ho_o7=>?_⟩
 obtain ⟨⟨hp_o7_0,hp_o7_1,hp_o7_2,hp_o7_3⟩,hf_o7⟩:=ho_o7
 refine⟨(Bh (l:=q3.msgs) (i:=Int.toNat o7.x) Q2),fun x1 hx1=>?_⟩
 have hri:x1.id∈Gw q3.msgs:=List.mem_map.2 ⟨_,List.mem_of_getElem? hx1,rfl⟩
 refine⟨hf_o7,Q2,Q2,hx1,(Bh (l:=q3.msgs) (i:=q2.i) Q2),fun x2 hx2=>?_⟩
 have hxl:=w5 _ hx2
 have hsame:=Fz hx2
 refine⟨hx2,Q2,Q2,Q2,Q2,rfl,Q49,rfl,Q49,(Fi _ _ Q2),fun h8=>have q8:=Ao h8;?_,fun h8=>have q8:=An h8;?_⟩
 exact⟨Q2,Q2,Q2,Q2,rfl,Q49,Q5,Q2,Q2,Q2,Q2,rfl,hx2,rfl,Q49,Q5,Q2,Q2,Q2,Q2,rfl,hx2,rfl,rfl,(Ac Q2 Q2),A3 (j:=(⟨o7.c1,List.set q3.msgs q2.i (⟨x2.id,x2.fields++[(⟨1+o3.x,1+o4.x,o5.p,false,x1.id⟩:Fld)]⟩:Shp),q3.k+1⟩:Bk)) Q9 rfl Q1 Q35⟩
 exact⟨Q9,hx2,(Ac Q2 Q2),A3 (j:=(⟨o7.c1,List.set q3.msgs q2.i (⟨x2.id,x2.fields⟩:Shp),q3.k+1⟩:Bk)) Q9 rfl Q1 Q35⟩
 refine⟨(Bh (l:=q3.msgs) (i:=q2.i) Q2),fun x1 hx1=>?_⟩
 have hxl:=w5 _ hx1
 have hsame:=Fz hx1
 refine⟨hx1,Q2,Q2,Q2,Q2,rfl,Q50,rfl,Q50,(Fi _ _ Q2),fun h8=>have q8:=Ao h8;?_,fun h8=>have q8:=An h8;?_⟩
 exact⟨Q2,Q2,Q2,Q2,rfl,Q50,Q5,Q2,Q2,Q2,Q2,rfl,hx1,rfl,Q50,Q5,Q2,Q2,Q2,Q2,rfl,hx1,rfl,rfl,(Ac Q2 Q2),A3 (j:=(⟨o6.c1,List.set q3.msgs q2.i (⟨x1.id,x1.fields++[(⟨1+o3.x,1+o4.x,o5.p,false,0⟩:Fld)]⟩:Shp),q3.k+1⟩:Bk)) Q9 rfl Q1 Q35⟩
 exact⟨Q9,hx1,(Ac Q2 Q2),A3 (j:=(⟨o6.c1,List.set q3.msgs q2.i (⟨x1.id,x1.fields⟩:Shp),q3.k+1⟩:Bk)) Q9 rfl Q1 Q35⟩
 refine dsp (fun h6 p6=>?_) fun h6 p6=>?_
 refine⟨(Am o6.c1 (1+o1.x) Q0),fun o7 ho_o7=>?_⟩
 obtain ⟨⟨hp_o7_0,hp_o7_1,hp_o7_2,hp_o7_3⟩,hf_o7⟩:=ho_o7
 refine⟨(Bh (l:=q3.msgs) (i:=Int.toNat o7.x) Q2),fun x1 hx1=>?_⟩
 have hri:x1.id∈Gw q3.msgs:=List.mem_map.2 ⟨_,List.mem_of_getElem? hx1,rfl⟩
 refine⟨hf_o7,Q2,Q2,hx1,(Bh (l:=q3.msgs) (i:=q2.i) Q2),fun x2 hx2=>?_⟩
 have hxl:=w5 _ hx2
 have hsame:=Fz hx2
 refine⟨hx2,Q2,Q2,Q2,Q2,rfl,Q49,rfl,Q49,(Fi _ _ Q2),fun h7=>have q7:=Ao h7;?_,fun h7=>have q7:=An h7;?_⟩
 exact⟨Q2,Q2,Q2,Q2,rfl,Q49,Q5,Q2,Q2,Q2,Q2,rfl,hx2,rfl,Q49,Q5,Q2,Q2,Q2,Q2,rfl,hx2,rfl,rfl,(Ac Q2 Q2),A3 (j:=(⟨o7.c1,List.set q3.msgs q2.i (⟨x2.id,x2.fields++[(⟨1+o3.x,1+o4.x,o5.p,false,x1.id⟩:Fld)]⟩:Shp),q3.k+1⟩:Bk)) Q9 rfl Q1 Q35⟩
 exact⟨Q9,hx2,(Ac Q2 Q2),A3 (j:=(⟨o7.c1,List.set q3.msgs q2.i (⟨x2.id,x2.fields⟩:Shp),q3.k+1⟩:Bk)) Q9 rfl Q1 Q35⟩
 refine⟨(Bh (l:=q3.msgs) (i:=q2.i) Q2),fun x1 hx1=>?_⟩
 have hxl:=w5 _ hx1
 have hsame:=Fz hx1
 refine⟨hx1,Q2,Q2,Q2,Q2,rfl,Q50,rfl,Q50,(Fi _ _ Q2),fun h7=>have q7:=Ao h7;?_,fun h7=>have q7:=An h7;?_⟩
 exact⟨Q2,Q2,Q2,Q2,rfl,Q50,Q5,Q2,Q2,Q2,Q2,rfl,hx1,rfl,Q50,Q5,Q2,Q2,Q2,Q2,rfl,hx1,rfl,rfl,(Ac Q2 Q2),A3 (j:=(⟨o6.c1,List.set q3.msgs q2.i (⟨x1.id,x1.fields++[(⟨1+o3.x,1+o4.x,o5.p,false,0⟩:Fld)]⟩:Shp),q3.k+1⟩:Bk)) Q9 rfl Q1 Q35⟩
 exact⟨Q9,hx1,(Ac Q2 Q2),A3 (j:=(⟨o6.c1,List.set q3.msgs q2.i (⟨x1.id,x1.fields⟩:Shp),q3.k+1⟩:Bk)) Q9 rfl Q1 Q35⟩
 exact⟨(Ac Q2 Q2),A3 (j:=(⟨q3.c,q3.msgs,q2.i+1⟩:Ht)) Q9 rfl (by dsimp only[Fc];exact⟨by assumption,by omega,w3,fun j m hj hm=>w4 j m Q2 hm⟩) (by dsimp only[Fc];omega)⟩
 exact⟨⟨((by dsimp only;rw[ulen];exact u3)),Q0⟩,rfl,rfl⟩
end Go.Proofs.YtijacopaadmncaaGreat.Ax
