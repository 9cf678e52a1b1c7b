/- Models: Fj events. Chunks. Chunks of an input. Models: streams. ReadSome. The machine: closing. The machine: settling; frames, tags, lengths. -/
import Derived.Test.YtpchkcpcdbdhdaaGreatKS1
import Derived.Test.YtpchkcpcdbdhdaaGreatKS4
import Derived.Test.YtpchkcpcdbdhdaaGreatKS3
set_option linter.unusedSimpArgs false
set_option linter.unusedVariables false
namespace Go.Proofs.YtpchkcpcdbdhdaaGreat.Ax
open Go.RowKit
theorem Ca (s:List UInt8):List.map Cy (List.map (fun b=>(UInt8.toNat b:Int)) s)=s:=by
 rw[List.map_map]
 conv=>rhs;rw[←List.map_id s]
 apply List.map_congr_left
 intro b _
 simp[Cy]
def Qn (l:List Ev):Ev:=l.getD (l.length-1) ev0
def Rc (e:Ev) (t:List UInt8):Ev:=⟨e.kind,e.field,e.bits,e.len,t,e.code,e.at_⟩
def tx:List Ev→Nat
 |[]=>0
 |e::r=>e.text.length+tx r
def H7 (o:List Ev) (e:Ev):List Ev:=
 if e.kind=4∧e.text=[] then o
 else if e.kind=4∧0<o.length∧(Qn o).kind=4 then o.set (o.length-1) (Rc (Qn o) ((Qn o).text++e.text))
 else o++[e]
def L9 (o l:List Ev):List Ev:=l.foldl H7 o
def Fj (l:List Ev):List Ev:=L9 [] l
theorem Ux (o:List Ev):L9 o []=o:=rfl
theorem Gw (o:List Ev) (e:Ev) (r:List Ev):L9 o (e::r)=L9 (H7 o e) r:=List.foldl_cons ..
theorem E7: ∀(a b:List Ev),tx (a++b)=tx a+tx b
 |[],b=>by simp[tx]
 |e::r,b=>by rw[List.cons_append,tx,tx,E7 r b];omega
theorem Ag3: ∀ {l:List Ev} {i:Nat} {x:Ev},l[i]? =some x→x.text.length≤tx l
 |[],i,x,h=>by simp at h
 |y::r,0,x,h=>by simp at h;subst h;rw[tx];omega
 |y::r,i+1,x,h=>by
  have:=Ag3 (l:=r) (i:=i) (x:=x) (by simpa using h)
  rw[tx];omega
theorem Ag4: ∀ {l:List Ev} {i:Nat} {x:Ev} (t:List UInt8),l[i]? =some x→tx (l.set i (Rc x (x.text++t)))=tx l+t.length
 |[],i,x,t,h=>by simp at h
 |y::r,0,x,t,h=>by simp at h;subst h;simp only[List.set_cons_zero,tx,Rc,List.length_append];omega
 |y::r,i+1,x,t,h=>by
  have:=Ag4 (l:=r) (i:=i) (x:=x) t (by simpa using h)
  simp only[List.set_cons_succ,tx,this];omega
theorem Rt {l:List Ev} {x:Ev} (h:l[l.length-1]? =some x):Qn l=x:=by unfold Qn;exact Ss h
theorem Abz (o:List Ev) (e:Ev):Qn (o++[e])=e:=Rt (by simp)
theorem E8 {o:List Ev} {e:Ev} (h:e.kind=4) (ht:e.text=[]):H7 o e=o:=by unfold H7;rw[if_pos ⟨h,ht⟩]
theorem Dn {o:List Ev} {e:Ev} (h:e.kind≠4):H7 o e=o++[e]:=by unfold H7;rw[if_neg (fun x=>h x.1),if_neg (fun x=>h x.1)]
theorem Gx {o:List Ev} {e:Ev} (ht:e.text≠[]) (hs: ¬(0<o.length∧(Qn o).kind=4)):H7 o e=o++[e]:=by unfold H7;rw[if_neg (fun x=>ht x.2),if_neg (fun x=>hs x.2)]
theorem Td {o:List Ev} {e x:Ev} (hk:e.kind=4) (ht:e.text≠[]) (h0:0<o.length) (hx:o[o.length-1]? =some x) (hx4:x.kind=4):H7 o e=o.set (o.length-1) (Rc x (x.text++e.text)):=by
 unfold H7
 rw[if_neg (fun y=>ht y.2),if_pos ⟨hk,h0,by rw[Rt hx];exact hx4⟩,Rt hx]
theorem Zc {o:List Ev} {e f:Ev} {t:List UInt8} (hk:e.kind=4) (ht:e.text≠[]) (hf:f.kind=4):H7 (o++[Rc f t]) e=o++[Rc f (t++e.text)]:=by
 rw[Td (x:=Rc f t) hk ht (by simp) (by simp) hf]
 have e1:(o++[Rc f t]).length-1=o.length:=by simp
 rw[e1,List.set_append_right _ _ (Nat.le_refl _)]
 simp[Rc]
def sep (o r:List Ev):Prop:= ∀x q,r=x::q→x.kind=4→¬(0<o.length∧(Qn o).kind=4)
theorem Ai3 {o l:List Ev} {i:Nat} {x:Ev} (h:sep o (l.drop i)) (hx:l[i]? =some x) (hk:x.kind=4): ¬(0<o.length∧(Qn o).kind=4):=h x _ (C7 hx) hk
theorem Mw {o r:List Ev} {e:Ev} (h:e.kind≠4):sep (o++[e]) r:=fun _ _ _ _ x=>h (by rw[Abz] at x;exact x.2)
theorem Ahz {r:List Ev} :sep [] r:=fun _ _ _ _ x=>absurd x.1 (Nat.lt_irrefl 0)
theorem Aak {o l:List Ev} {i:Nat} (h:l.length≤i∨∃x,l[i]? =some x∧x.kind≠4):sep o (l.drop i):=by
 intro x q hx hk
 exfalso
 rcases h with h|⟨y,hy,hn⟩
 ·rw[List.drop_eq_nil_of_le h] at hx;cases hx
 ·rw[C7 hy] at hx
  cases hx
  exact hn hk
theorem Zd {o:List Ev} {f e:Ev} {t:List UInt8} (hf:f.kind=4) (hk:e.kind=4):H7 (o++[Rc f t]) e=o++[Rc f (t++e.text)]:=by
 by_cases ht:e.text=[]
 ·rw[E8 hk ht,ht,List.append_nil]
 ·exact Zc hk ht hf
def V5 (o:List Ev) (f:Ev) (t:List UInt8) (fd:Bool) (r m:List Ev):Prop:=(fd=true→f.kind=4∧L9 (o++[Rc f t]) r=m)∧(fd=false→t=[]∧L9 o r=m)
theorem Af8 {o r m:List Ev} {e:Ev} (hk:e.kind=4) (hs: ¬(0<o.length∧(Qn o).kind=4)) (h:L9 (H7 o e) r=m):V5 o e e.text (!decide (e.text=[])) r m:=by
 by_cases ht:e.text=[]
 ·rw[E8 hk ht] at h;exact⟨fun x=>by simp[ht] at x,fun _=>⟨ht,h⟩⟩
 ·rw[Gx ht hs] at h;exact⟨fun _=>⟨hk,h⟩,fun x=>by simp[ht] at x⟩
theorem Aj1 {o r m:List Ev} {f x:Ev} {t:List UInt8} {fd:Bool} (h:V5 o f t fd (x::r) m) (hk:x.kind=4) (hf:fd=true):V5 o f (t++x.text) fd r m:=by
 have h1:=h.1 hf
 refine⟨fun _=>⟨h1.1,?_⟩,fun y=>by rw[hf] at y;cases y⟩
 rw[Gw,Zd h1.1 hk] at h1
 exact h1.2
theorem Aj2 {o r m:List Ev} {f x:Ev} {t:List UInt8} {fd:Bool} (h:V5 o f t fd (x::r) m) (hk:x.kind=4) (ht:x.text≠[]) (hf:fd=false) (hs: ¬(0<o.length∧(Qn o).kind=4)):V5 o x (t++x.text) true r m:=by
 have h1:=h.2 hf
 refine⟨fun _=>⟨hk,?_⟩,fun y=>by cases y⟩
 rw[Gw,Gx ht hs] at h1
 rw[h1.1]
 exact h1.2
theorem Aj3 {o r m:List Ev} {f x:Ev} {t:List UInt8} {fd:Bool} (h:V5 o f t fd (x::r) m) (hk:x.kind=4) (ht:x.text=[]) (hf:fd=false):V5 o f (t++x.text) fd r m:=by
 have h1:=h.2 hf
 refine⟨fun y=>(by rw[hf] at y;cases y),fun _=>⟨by rw[h1.1,ht];rfl,?_⟩⟩
 rw[Gw,E8 hk ht] at h1
 exact h1.2
theorem Ad8: ∀(l:List Ev) (i:Nat),tx (l.drop i)≤tx l
 |[],i=>by simp[tx]
 |e::r,0=>Nat.le_refl _
 |e::r,i+1=>by have:=Ad8 r i;rw[List.drop_succ_cons,tx];omega
theorem Ab0 (o:List Ev) (e:Ev):(H7 o e).length≤o.length+1:=by
 unfold H7
 split
 ·omega
 ·split<;>simp
theorem Uy: ∀(l o:List Ev),(L9 o l).length≤o.length+l.length
 |[],o=>Nat.le_refl _
 |e::r,o=>by
  have h1:=Ab0 o e
  have h2:=Uy r (H7 o e)
  rw[Gw,List.length_cons];omega
theorem Ab1 (l:List Ev):(Fj l).length≤l.length:=by have:=Uy l [];simpa [Fj] using this
def Ru (l:List Ev):Prop:= ∀e∈l,e.text.length≤1
theorem V6:Ru []:=fun _ h=>by cases h
theorem Aam {a b:List Ev} (ha:Ru a) (hb:Ru b):Ru (a++b):=fun e h=>(List.mem_append.1 h).elim (ha e) (hb e)
theorem Af9 {e:Ev} (h:e.text.length≤1):Ru [e]:=fun x hx=>by simp at hx;rw[hx];exact h
theorem Gi {a:List Ev} {e:Ev} (ha:Ru a) (h:e.text.length≤1):Ru (a++[e]):=Aam ha (Af9 h)
theorem Ad9: ∀ {l:List Ev},Ru l→tx l≤l.length
 |[],_=>Nat.le_refl _
 |e::r,h=>by
  have h1:=h e (List.mem_cons_self ..)
  have h2:=Ad9 (l:=r) fun x hx=>h x (List.mem_cons_of_mem _ hx)
  rw[tx,List.length_cons];omega
theorem Dq {m:Mac} {c a:Int} (h:Ru m.out):Ru (As m c a).out:=Gi h (Nat.zero_le _)
theorem Ze {m q:Mac} (h:Ru m.out) (hc:Aq m=some q):Ru q.out:=by
 unfold Aq at hc
 split at hc
 ·split at hc
  ·cases hc;exact Dq h
  ·cases hc;exact Gi h (Nat.zero_le _)
 ·split at hc
  ·cases hc;exact h
  ·split at hc
   ·split at hc<;>(cases hc;exact Gi h (Nat.zero_le _))
   ·cases hc
theorem Do {m:Mac} (h:Ru m.out):Ru (Ad m).out:=by
 suffices ∀(k:Nat) (m:Mac),wM m≤k→Ru m.out→Ru (Ad m).out from this _ m (Nat.le_refl _) h
 intro k
 induction k with
 |zero=>
  intro m hk h
  cases hc:Aq m with
  |none=>rw[Bv hc];exact h
  |some q=>have:=(Bg hc).1;omega
 |succ k ih=>
  intro m hk h
  cases hc:Aq m with
  |none=>rw[Bv hc];exact h
  |some q=>rw[Bu hc];exact ih q (by have:=(Bg hc).1;omega) (Ze h hc)
theorem Nz {m:Mac} {u:Int} (h:Ru m.out):Ru (Ba m u).out:=by
 unfold Ba
 simp only
 split
 ·exact h
 ·exact Gi h (Nat.zero_le _)
theorem Ab2 {m:Mac} {b:Int} (h:Ru m.out):Ru (D6 m b).out:=by
 unfold D6
 split
 ·unfold Eb
  split
  ·split
   ·exact Dq h
   ·exact Do (Gi h (Nat.le_refl _))
  ·exact Do (Gi h (Nat.le_refl _))
 ·split
  ·exact Do h
  ·split
   ·unfold C8
    split
    ·exact h
    ·split
     ·exact Dq (Nz h)
     ·exact Do (Nz h)
   ·unfold Bf
    split
    ·exact Dq h
    ·split
     ·unfold T0
      split
      ·exact Dq h
      ·exact h
     ·split
      ·unfold Cj
       split
       ·exact Dq h
       ·exact Do (Gi h (Nat.zero_le _))
      ·split
       ·unfold D5
        split
        ·exact Dq h
        ·split
         ·exact Dq h
         ·split
          ·exact Dq h
          ·split
           ·exact Dq h
           ·exact h
       ·split
        ·unfold Cb
         split
         ·exact Dq h
         ·split
          ·exact Do h
          ·split
           ·split
            ·exact Dq h
            ·exact Do (Gi h (Nat.zero_le _))
           ·split
            ·exact Do (Gi h (Nat.zero_le _))
            ·split
             ·exact Dq h
             ·exact Do h
        ·exact Do (Nz h)
theorem Ab3 {m:Mac} {b:Int} (h:Ru m.out):Ru (Pv m b).out:=by
 unfold Pv
 refine Aam h ?_
 unfold B4
 split
 ·exact Ab2 V6
 ·exact V6
theorem Uz: ∀(s:List UInt8) (m:Mac),Ru m.out→Ru (Ck m s).out
 |[],m,h=>h
 |b::r,m,h=>by rw[Gv];exact Uz r _ (Ab3 h)
theorem Aea (d:Dcd) (s:List UInt8):(Ck ⟨d,[]⟩ s).out.length≤14*s.length∧tx (Ck ⟨d,[]⟩ s).out≤14*s.length:=by
 have h1:=(Tc s ⟨d,[]⟩).2.2.1
 have h2:=Ad9 (Uz s ⟨d,[]⟩ V6)
 simp only[List.length_nil] at h1
 omega
def Bb (d:Dcd) (s:List UInt8):Mac:=⟨(Ck ⟨d,[]⟩ s).d,Fj (Ck ⟨d,[]⟩ s).out⟩
theorem Te (d:Dcd) (s:List UInt8):(Bb d s).d.plan=d.plan∧((Bb d s).d.stack.length:Int)≤max (d.stack.length:Int) 8∧(Bb d s).out.length≤14*s.length∧((0≤d.scan.bits∧d.scan.bits≤18446744073709551615)→0≤(Bb d s).d.scan.bits∧(Bb d s).d.scan.bits≤18446744073709551615):=by
 have h:=Tc s ⟨d,[]⟩
 have h2:=Aea d s
 have h3:=Ab1 (Ck ⟨d,[]⟩ s).out
 exact⟨h.1,h.2.1,Nat.le_trans h3 h2.1,h.2.2.2⟩
def Tf (a:Int):Ev:=⟨9,0,0,0,[],0,a⟩
def Da (d:Dcd):Bool:=Be d&&decide (d.mode=1)&&decide (d.scan.have_=0)
def Ea (d:Dcd):Mac:=if Be d=false∨d.mode=9 then ⟨d,[]⟩ else if d.mode=1∧d.scan.have_=0 then ⟨⟨d.plan,9,d.stack,d.scan,d.start,d.at_,d.field,d.wire,d.want,d.utf,Tf d.at_⟩,[Tf d.at_]⟩ else ⟨Au d 10 d.at_,[Av 10 d.at_]⟩
theorem V7 (d:Dcd):(Ea d).out.length≤1:=by unfold Ea;split;simp;split<;>simp
def Cm (s:Strm):Bool:=A3 s.reader&&Be s.dec&&decide (0≤s.reads)
def Jt (d:Dcd) (c:Int):Mac:=if Be d=true∧d.mode≠9∧1≤c then ⟨Au d c d.at_,[Av c d.at_]⟩ else ⟨d,[]⟩
def Wh (d:Dcd) (c:Int):Mac:=if d.mode=9 then ⟨d,[]⟩ else if c=1 then Ea d else if 20≤c then Jt d c else ⟨d,[]⟩
def Cr (s:Strm):Strm:=
 ⟨A7 s.reader 16,(Wh (Bb s.dec (A2 s.reader 16)).d (Bw s.reader 16)).d,s.queue++(Bb s.dec (A2 s.reader 16)).out++(Wh (Bb s.dec (A2 s.reader 16)).d (Bw s.reader 16)).out,IntKind.i64.wrap (s.reads+1)⟩
def K6:Nat→Strm→Strm
 |0,s=>s
 |k+1,s=>if s.queue=[]∧s.dec.mode≠9 then K6 k (Cr s) else s
theorem V8: ∀(s:List UInt8) {m:Mac},Be m.d=true→Be (Ck m s).d=true
 |[],_,h=>h
 |b::r,m,h=>by rw[Gv];exact V8 r (Rs h)
theorem Aeb {d:Dcd} (h:Be d=true):Be (Ea d).d=true∧(d.mode≠9→(Ea d).d.mode=9):=by
 unfold Ea
 rw[h]
 obtain ⟨h1,h2,h3,h4,h5,h6,h7,h8,hs,h10,h11,h12⟩:=Ln h
 split
 ·rename_i hx
  rcases hx with hx|hx
  ·cases hx
  ·exact⟨h,fun h9=>absurd hx h9⟩
 ·rename_i hx
  simp only[not_or] at hx
  split
  ·rename_i hy
   refine⟨?_,fun _=>rfl⟩
   have hsc:d.scan=scn0:=by
    unfold H3 at h12
    have hw:Bd d=0:=by unfold Bd;rw[if_neg (by omega),if_neg (by omega)]
    rw[hw,if_neg (by decide),if_neg (by omega)] at h12
    simp only[Cz,Bool.and_eq_true,decide_eq_true_eq] at h12
    have h0:=h12.2
    rw[hy.2] at h0
    have hb:d.scan.bits=0:=by simpa using h0
    cases hd:d.scan with
    |mk b k=>rw[hd] at hb hy;simp only at hb hy;rw[hb,hy.2];rfl
   have hw0:d.want=0:=(Vo h10).2 (by omega)
   refine Gh (Ao h1 rfl rfl) (show (1:Int)≤9∧(9:Int)≤9 by decide) h3 h4 h5 h6 h7 ?_ ?_ ?_ ?_ ?_
   ·simp[N0,Gs,Ks,Ak,Pg,Cg,Tf,Ef,Bt];exact decide_eq_true h3.1
   ·simp[H6]
   ·simp[Fk,hw0]
   ·simp[Gq]
   ·simp[H3,Bd,hsc]
  ·exact⟨Aaf h1 h3 h4 h5 h6 h7 (by decide) h3.1,fun _=>rfl⟩
theorem Ah0 {d:Dcd} {c:Int} (h:Be d=true):Be (Jt d c).d=true:=by
 unfold Jt
 split
 ·rename_i hx
  obtain ⟨h1,h2,h3,h4,h5,h6,h7,-⟩:=Ln h
  exact Aaf h1 h3 h4 h5 h6 h7 hx.2.2 h3.1
 ·exact h
theorem Ah1 {d:Dcd} {c:Int} (h:Be d=true):Be (Wh d c).d=true:=by
 unfold Wh
 split
 ·exact h
 ·split
  ·exact(Aeb h).1
  ·split
   ·exact Ah0 h
   ·exact h
theorem K7 {s:Strm} (h:Be s.dec=true):Be (Cr s).dec=true:=Ah1 (V8 _ h)
def rmu (r:Rdr):Nat:=((r.script.length:Int)-r.next).toNat+((r.data.length:Int)-r.at_).toNat
theorem Gy {r:Rdr} (h:A3 r=true):A3 (A7 r 16)=true:=by
 have ht:=Et h
 unfold A7
 split
 ·exact h
 ·have hc:=(A4 (Di r 16).n 16 ((r.data.length:Int)-r.at_))
  have hn:rsN r 16=Ds (Di r 16).n 16 ((r.data.length:Int)-r.at_):=rfl
  have hnx:J9 r=if r.next<(r.script.length:Int) then r.next+1 else r.next:=rfl
  have hcd:K2 r 16=if 20≤(Di r 16).code then (Di r 16).code else if (Di r 16).code=1∧r.at_+rsN r 16=(r.data.length:Int) then 1 else r.code:=rfl
  simp only[A3,Ak,Bool.and_eq_true,Bool.or_eq_true,decide_eq_true_eq]
  split at hnx<;>split at hcd<;>(try split at hcd)<;>omega
theorem T5 {r:Rdr} (h:A3 r=true):Bw r 16=1∨20≤Bw r 16∨(Bw r 16=0∧rmu (A7 r 16)<rmu r):=by
 have ht:=Et h
 unfold Bw
 rw[h]
 simp only[Bool.not_true,Bool.false_or]
 rw[if_neg (by decide)]
 by_cases hc:r.code=0
 ·rw[if_neg (by simp[hc])]
  have hb:Ra r 16=false:=by simp[Ra,h,hc]
  have hs:A7 r 16=⟨r.data,r.at_+rsN r 16,r.script,J9 r,K2 r 16⟩:=by unfold A7;rw[hb];rfl
  rw[hs]
  have hcl:=A4 (Di r 16).n 16 ((r.data.length:Int)-r.at_)
  have hn:rsN r 16=Ds (Di r 16).n 16 ((r.data.length:Int)-r.at_):=rfl
  have hcd:K2 r 16=if 20≤(Di r 16).code then (Di r 16).code else if (Di r 16).code=1∧r.at_+rsN r 16=(r.data.length:Int) then 1 else r.code:=rfl
  by_cases hx:r.next<(r.script.length:Int)
  ·have hnx:J9 r=r.next+1:=by unfold J9;rw[if_pos hx]
   split at hcd
   ·right;left;omega
   ·split at hcd
    ·left;exact hcd
    ·right;right
     refine⟨by omega,?_⟩
     unfold rmu
     simp only
     omega
  ·have hnx:J9 r=r.next:=by unfold J9;rw[if_neg hx]
   have he:Di r 16=⟨16,1⟩:=by unfold Di;rw[if_neg hx]
   rw[he] at hn hcd hcl
   simp only at hn hcd hcl
   rw[if_neg (by decide)] at hcd
   split at hcd
   ·left;exact hcd
   ·rename_i hy
    right;right
    have h16:rsN r 16=16:=by
     have: ¬r.at_+rsN r 16=(r.data.length:Int):=fun e=>hy ⟨by first|rfl|trivial,e⟩
     unfold Ds at hn
     omega
    refine⟨by omega,?_⟩
    unfold rmu
    simp only
    have:r.at_+16≤(r.data.length:Int):=by
     unfold Ds at hn
     omega
    omega
 ·rw[if_pos (by simp[hc])]
  omega
def Gz (s:Strm):Strm:=K6 (rmu s.reader+1) s
theorem Xo (s:Strm):(Cr s).reader=A7 s.reader 16:=rfl
theorem M3 {s:Strm} (hr:A3 s.reader=true) (hd:Be s.dec=true):(Cr s).dec.mode=9∨rmu (Cr s).reader<rmu s.reader:=by
 have hm:=V8 (A2 s.reader 16) (m:=⟨s.dec,[]⟩) hd
 have hm:Be (Bb s.dec (A2 s.reader 16)).d=true:=hm
 have he:(Cr s).dec=(Wh (Bb s.dec (A2 s.reader 16)).d (Bw s.reader 16)).d:=rfl
 rw[he,Xo]
 generalize (Bb s.dec (A2 s.reader 16)).d=d at *
 rcases T5 hr with h|h|⟨_,h⟩
 ·left
  unfold Wh
  rw[h]
  by_cases h9:d.mode=9
  ·rw[if_pos h9];exact h9
  ·rw[if_neg h9,if_pos rfl];exact(Aeb hm).2 h9
 ·left
  unfold Wh
  by_cases h9:d.mode=9
  ·rw[if_pos h9];exact h9
  ·rw[if_neg h9,if_neg (by omega),if_pos h]
   unfold Jt
   rw[if_pos ⟨hm,h9,by omega⟩];rfl
 ·exact .inr h
theorem Dt {s:Strm} (h: ¬(s.queue=[]∧s.dec.mode≠9)): ∀k,K6 k s=s
 |0=>rfl
 |k+1=>by rw[K6,if_neg h]
theorem Zf: ∀(n:Nat) {s:Strm} {k:Nat},rmu s.reader≤n→A3 s.reader=true→Be s.dec=true→rmu s.reader+1≤k→K6 k s=K6 (rmu s.reader+1) s:=by
 intro n
 induction n with
 |zero=>
  intro s k hn hr hd hk
  by_cases hs:s.queue=[]∧s.dec.mode≠9
  ·obtain ⟨j,rfl⟩: ∃j,k=j+1:=⟨k-1,by omega⟩
   rw[K6,if_pos hs,K6,if_pos hs]
   rcases M3 hr hd with h|h
   ·rw[Dt (fun x=>x.2 h),Dt (fun x=>x.2 h)]
   ·omega
  ·rw[Dt hs,Dt hs]
 |succ n ih=>
  intro s k hn hr hd hk
  by_cases hs:s.queue=[]∧s.dec.mode≠9
  ·obtain ⟨j,rfl⟩: ∃j,k=j+1:=⟨k-1,by omega⟩
   rw[K6,if_pos hs,K6,if_pos hs]
   rcases M3 hr hd with h|h
   ·rw[Dt (fun x=>x.2 h),Dt (fun x=>x.2 h)]
   ·have h1:=ih (s:=Cr s) (k:=j) (by omega) (Gy hr) (K7 hd) (by omega)
    have h2:=ih (s:=Cr s) (k:=rmu s.reader) (by omega) (Gy hr) (K7 hd) (by omega)
    rw[h1,h2]
  ·rw[Dt hs,Dt hs]
theorem U0 {s:Strm} (hr:A3 s.reader=true) (hd:Be s.dec=true) (hs:s.queue=[]∧s.dec.mode≠9):Gz s=Gz (Cr s):=by
 unfold Gz
 rw[K6,if_pos hs]
 rcases M3 hr hd with h|h
 ·rw[Dt (fun x=>x.2 h),Dt (fun x=>x.2 h)]
 ·exact Zf _ (Nat.le_refl _) (Gy hr) (K7 hd) (by omega)
theorem Ju {s:Strm} (h: ¬(s.queue=[]∧s.dec.mode≠9)):Gz s=s:=Dt h _
theorem Q6 {r:Rdr} {room:Int} {x:Rd} (h:r.next<(r.script.length:Int)) (hx:r.script[r.next.toNat]? =some x):Di r room=x:=by
 simp[Di,h,List.getD,hx]
theorem Q7 {r:Rdr} {room:Int} (h: ¬r.next<(r.script.length:Int)):Di r room=⟨room,1⟩:=by
 simp[Di,h]
theorem Tg (r:Rdr) (hp1:List.length (r).script≤bigN):Fun Tryz.prog 93 [.agg (Q4 r)] [] (.v (.agg (D9 0 r))) [.lst .rd r.script]:=by
 have hN:bigN=274877906944:=rfl
 refine Af Tryz.func93 (by kernel_rfl) (by kernel_rfl) (w:=let z1:List Blk:=[.lst .rd r.script];(.seg [.call [] (.v (vO 0)) z1] (.leaf () [2]),(Fun Tryz.prog 135 [.c (.seq .rd r.script)] [] (.v (vO 0)) z1)∧(.v (.agg (D9 0 r)):S)= .v (.agg (D9 0 r))∧(z1:List Blk)=z1)) (by kernel_rfl) ?_
 exact⟨(Adt r.script (by omega)),rfl,rfl⟩
theorem Th (r:Rdr) (hp1:List.length (r).script≤bigN):Fun Tryz.prog 136 [.agg (Q4 r)] [] (.v (.agg (D9 0 r))) [.lst .rd r.script]:=by
 have hN:bigN=274877906944:=rfl
 refine Af Tryz.func136 (by kernel_rfl) (by kernel_rfl) (w:=(.seg [.ty .rd,.ty .rd] (.leaf () [3]),(List.length ([]:List Rd)+r.script.length≤bigN)∧(.v (.agg (D9 0 r)):S)= .v (.agg (D9 0 r))∧([.lst .rd (([]:List Rd)++r.script)]:List Blk)=[.lst .rd r.script])) (by kernel_rfl) ?_
 refine⟨(by simp only[List.length_cons,List.length_nil];omega),?_⟩
 have hm1:r=(⟨r.data,r.at_,([]:List Rd)++r.script,r.next,r.code⟩:Rdr):=by rfl
 exact⟨(by rw[hm1]<;>rfl),(by rw[hm1]<;>rfl)⟩
theorem Ab4 (r:Rdr) (room:Int) (hp1:List.length (r).script≤bigN) (hp2:List.length (r).data≤bigN):Fun Tryz.prog 184 [.agg (Q4 r),vI room] [] (.tup [.agg (D9 0 (A7 r room)),vT (A2 r room),vI (Bw r room)]) [.lst .rd (A7 r room).script]:=by
 have hN:bigN=274877906944:=rfl
 refine Af Tryz.func184 (by kernel_rfl) (by kernel_rfl) (w:=let zi:Int→C:= .int .i64;let z5:=(r.data.length:Int);let z7:List Blk:=[.lst .rd (A7 r room).script];let z8:=([.lst .rd r.script]:List Blk);let z9:=D9 0 (A7 r room);let z10:=(0:Int)≤r.at_;let z11:=Bw r room;let z13:=A2 r room;let z14:=z5-r.at_;let z6:=Ds room room z14;let z15:=r.at_.toNat;let z17:=r.next+1;let z18:=decide (r.next<(r.script.length:Int));let z19:=r.at_≤r.at_+z6;let z20:=(.v (vI (IntKind.i64.wrap z14)):S)= .v (vI z14);let z21:=os 13 [10];let z22:=r.at_+z6;let z16:=List.drop z15 (List.take (z22.toNat) r.data);let z23:=r.at_+z6≤z5;let z24:=(.tup [.agg (D9 0 r),vT [],vI 1]:S);let z25:=if room<room then room else room;let z12:=if z5-r.at_<z25 then z5-r.at_ else z25;(.seg [.call [] (.v (.agg (D9 0 r))) [.lst .rd r.script],.call [] (.v (vB (A3 r))) []] (.br (.leaf () [2]) (.br (.leaf () [2]) (.br (.seg [.ord (os 6 [3]) [1]] (.leaf () [2])) (.br (.intro (fun (x1:Rd)=>r.script[r.next.toNat]? =some x1) fun x1=>let z1:=Ds x1.n room z14;.seg [.el .rd x1,.as 44 (.v (vI z17)),.as 54 (.v (vI z14)),.as 56 (.v (vI z1)),.as 60 (.v (vI (r.at_+z1)))] (.br (.seg [.ord z21 [1]] (.leaf () [2])) (.br (.br (.seg [.ord z21 [1]] (.leaf () [2])) (.seg [.ord z21 [1]] (.leaf () [2]))) (.seg [.ord z21 [1]] (.leaf () [2]))))) (.seg [.as 54 (.v (vI z14)),.as 56 (.v (vI z6)),.as 60 (.v (vI z22)),.br false,.br true] (.br (.seg [.ord z21 [1]] (.leaf () [2])) (.seg [.ord z21 [1]] (.leaf () [2])))))))),(Fun Tryz.prog 93 [.agg (Q4 r)] [] (.v (.agg (D9 0 r))) [.lst .rd r.script])∧(Fun Tryz.prog 133 [.agg (Q4 r)] [] (.v (vB (A3 r))) [])∧((!(A3 r))=true→z24= .tup [.agg z9,vT z13,vI z11]∧z8=z7)∧((!(A3 r))=false→((decide (room<1))=true→z24= .tup [.agg z9,vT z13,vI z11]∧z8=z7)∧((decide (room<1))=false→((!decide (r.code=0))=true→(.tup [.agg (D9 0 r),vT [],vI r.code]:S)= .tup [.agg z9,vT z13,vI z11]∧z8=z7)∧((!decide (r.code=0))=false→(z18=true→(∃(x1:Rd),r.script[r.next.toNat]? =some x1)∧∀(x1:Rd),(r.script[r.next.toNat]? =some x1)→(let z2:=Ds x1.n room z14;let z4:=if room<x1.n then room else x1.n;let z3:=if z5-r.at_<z4 then z5-r.at_ else z4;(r.script[r.next.toNat]? =some x1)∧((0:Int)≤r.next)∧((.v (vI (IntKind.i64.wrap z17)):S)= .v (vI z17))∧z20∧((.v (vI (if 0>z3 then 0 else z3)):S)= .v (vI z2))∧((.v (vI (IntKind.i64.wrap (r.at_+z2))):S)= .v (vI (r.at_+z2)))∧((decide (20≤x1.code))=true→(r.at_+z2≤z5)∧(r.at_≤r.at_+z2)∧z10∧(r.at_+z2≤z5)∧(r.at_≤r.at_+z2)∧z10∧(.tup [.agg [.str r.data,zi (r.at_+z2),.own 0,zi z17,zi x1.code],vT (List.drop z15 (List.take (Int.toNat (r.at_+z2)) r.data)),vI x1.code]:S)= .tup [.agg z9,vT z13,vI z11]∧z8=z7)∧((decide (20≤x1.code))=false→((decide (x1.code=1))=true→((decide (r.at_+z2=z5))=true→(r.at_+z2≤z5)∧(r.at_≤r.at_+z2)∧z10∧(r.at_+z2≤z5)∧(r.at_≤r.at_+z2)∧z10∧(.tup [.agg [.str r.data,zi (r.at_+z2),.own 0,zi z17,zi 1],vT (List.drop z15 (List.take (Int.toNat (r.at_+z2)) r.data)),vI 1]:S)= .tup [.agg z9,vT z13,vI z11]∧z8=z7)∧((decide (r.at_+z2=z5))=false→(r.at_+z2≤z5)∧(r.at_≤r.at_+z2)∧z10∧(r.at_+z2≤z5)∧(r.at_≤r.at_+z2)∧z10∧(.tup [.agg [.str r.data,zi (r.at_+z2),.own 0,zi z17,zi r.code],vT (List.drop z15 (List.take (Int.toNat (r.at_+z2)) r.data)),vI r.code]:S)= .tup [.agg z9,vT z13,vI z11]∧z8=z7))∧((decide (x1.code=1))=false→(r.at_+z2≤z5)∧(r.at_≤r.at_+z2)∧z10∧(r.at_+z2≤z5)∧(r.at_≤r.at_+z2)∧z10∧(.tup [.agg [.str r.data,zi (r.at_+z2),.own 0,zi z17,zi r.code],vT (List.drop z15 (List.take (Int.toNat (r.at_+z2)) r.data)),vI r.code]:S)= .tup [.agg z9,vT z13,vI z11]∧z8=z7))))∧(z18=false→z20∧((.v (vI (if 0>z12 then 0 else z12)):S)= .v (vI z6))∧((.v (vI (IntKind.i64.wrap z22)):S)= .v (vI z22))∧((decide (20≤1))=false)∧((decide (1=1))=true)∧((decide (r.at_+z6=z5))=true→z23∧z19∧z10∧z23∧z19∧z10∧(.tup [.agg [.str r.data,zi z22,.own 0,zi r.next,zi 1],vT z16,vI 1]:S)= .tup [.agg z9,vT z13,vI z11]∧z8=z7)∧((decide (r.at_+z6=z5))=false→z23∧z19∧z10∧z23∧z19∧z10∧(.tup [.agg [.str r.data,zi z22,.own 0,zi r.next,zi r.code],vT z16,vI r.code]:S)= .tup [.agg z9,vT z13,vI z11]∧z8=z7))))))) (by kernel_rfl) ?_
 refine⟨(Tg r (by omega)),(Qg r (by omega) (by omega)),fun h1=>have q1:=Am h1;?_,fun h1=>have q1:=Aj h1;have p1:=Et q1;?_⟩
 refine have hm1:A7 r room=r:=?_;?_
 rotate_left
 refine⟨(congrArg S.tup (Aa (congrArg V.agg (Aa (congrArg C.str ?_) (Aa (congrArg (C.int .i64) ?_) (Aa rfl (Aa (congrArg (C.int .i64) ?_) (Aa (congrArg (C.int .i64) ?_) rfl)))))) (Aa (congrArg V.c (congrArg C.str ?_)) (Aa (congrArg V.c (congrArg (C.int .i64) ?_)) rfl)))),(by rw[hm1]<;>rfl)⟩
 rotate_left 6
 refine dsp (fun h2 p2=>?_) fun h2 p2=>?_
 refine have hm1:A7 r room=r:=?_;?_
 rotate_left
 refine⟨(congrArg S.tup (Aa (congrArg V.agg (Aa (congrArg C.str ?_) (Aa (congrArg (C.int .i64) ?_) (Aa rfl (Aa (congrArg (C.int .i64) ?_) (Aa (congrArg (C.int .i64) ?_) rfl)))))) (Aa (congrArg V.c (congrArg C.str ?_)) (Aa (congrArg V.c (congrArg (C.int .i64) ?_)) rfl)))),(by rw[hm1]<;>rfl)⟩
 rotate_left 6
 refine⟨fun h3=>have q3:=Am h3;have p3:=of_decide_eq_false q3;?_,fun h3=>have q3:=Aj h3;have p3:=of_decide_eq_true q3;?_⟩
 refine have hm1:A7 r room=r:=?_;?_
 rotate_left
 refine⟨(congrArg S.tup (Aa (congrArg V.agg (Aa (congrArg C.str ?_) (Aa (congrArg (C.int .i64) ?_) (Aa rfl (Aa (congrArg (C.int .i64) ?_) (Aa (congrArg (C.int .i64) ?_) rfl)))))) (Aa (congrArg V.c (congrArg C.str ?_)) (Aa (congrArg V.c (congrArg (C.int .i64) ?_)) rfl)))),(by rw[hm1]<;>rfl)⟩
 rotate_left 6
 refine dsp (fun h4 p4=>?_) fun h4 p4=>?_
 refine⟨(Bo (l:=r.script) (i:=r.next.toNat) (by omega)),fun x1 hx1=>?_⟩
 have he:Di r room=x1:=Q6 (by omega) hx1
 refine⟨hx1,(by omega),(Ah (by omega) (by omega)),(Ah (by omega) (by omega)),(Sn (by unfold Ds;omega)),(Ah (by have:=A4 x1.n room ((r.data.length:Int)-r.at_);omega) (by have:=A4 x1.n room ((r.data.length:Int)-r.at_);omega)),dsp (fun h5 p5=>?_) fun h5 p5=>?_⟩
 refine⟨(by have:=A4 x1.n room ((r.data.length:Int)-r.at_);omega),(by have:=A4 x1.n room ((r.data.length:Int)-r.at_);omega),(by omega),(by have:=A4 x1.n room ((r.data.length:Int)-r.at_);omega),(by have:=A4 x1.n room ((r.data.length:Int)-r.at_);omega),(by omega),?_⟩
 refine have hm1:A7 r room=(⟨r.data,r.at_+(Ds x1.n room ((r.data.length:Int)-r.at_)),r.script,r.next+1,x1.code⟩:Rdr):=?_;?_
 rotate_left
 refine⟨(congrArg S.tup (Aa (congrArg V.agg (Aa (congrArg C.str ?_) (Aa (congrArg (C.int .i64) ?_) (Aa rfl (Aa (congrArg (C.int .i64) ?_) (Aa (congrArg (C.int .i64) ?_) rfl)))))) (Aa (congrArg V.c (congrArg C.str ?_)) (Aa (congrArg V.c (congrArg (C.int .i64) ?_)) rfl)))),(by rw[hm1]<;>rfl)⟩
 rotate_left 6
 refine dsp (fun h6 p6=>?_) fun h6 p6=>?_
 refine dsp (fun h7 p7=>?_) fun h7 p7=>?_
 refine⟨(by have:=A4 x1.n room ((r.data.length:Int)-r.at_);omega),(by have:=A4 x1.n room ((r.data.length:Int)-r.at_);omega),(by omega),(by have:=A4 x1.n room ((r.data.length:Int)-r.at_);omega),(by have:=A4 x1.n room ((r.data.length:Int)-r.at_);omega),(by omega),?_⟩
 refine have hm1:A7 r room=(⟨r.data,r.at_+(Ds x1.n room ((r.data.length:Int)-r.at_)),r.script,r.next+1,1⟩:Rdr):=?_;?_
 rotate_left
 refine⟨(congrArg S.tup (Aa (congrArg V.agg (Aa (congrArg C.str ?_) (Aa (congrArg (C.int .i64) ?_) (Aa rfl (Aa (congrArg (C.int .i64) ?_) (Aa (congrArg (C.int .i64) ?_) rfl)))))) (Aa (congrArg V.c (congrArg C.str ?_)) (Aa (congrArg V.c (congrArg (C.int .i64) ?_)) rfl)))),(by rw[hm1]<;>rfl)⟩
 rotate_left 6
 refine⟨(by have:=A4 x1.n room ((r.data.length:Int)-r.at_);omega),(by have:=A4 x1.n room ((r.data.length:Int)-r.at_);omega),(by omega),(by have:=A4 x1.n room ((r.data.length:Int)-r.at_);omega),(by have:=A4 x1.n room ((r.data.length:Int)-r.at_);omega),(by omega),?_⟩
 refine have hm1:A7 r room=(⟨r.data,r.at_+(Ds x1.n room ((r.data.length:Int)-r.at_)),r.script,r.next+1,r.code⟩:Rdr):=?_;?_
 rotate_left
 refine⟨(congrArg S.tup (Aa (congrArg V.agg (Aa (congrArg C.str ?_) (Aa (congrArg (C.int .i64) ?_) (Aa rfl (Aa (congrArg (C.int .i64) ?_) (Aa (congrArg (C.int .i64) ?_) rfl)))))) (Aa (congrArg V.c (congrArg C.str ?_)) (Aa (congrArg V.c (congrArg (C.int .i64) ?_)) rfl)))),(by rw[hm1]<;>rfl)⟩
 rotate_left 6
 refine⟨(by have:=A4 x1.n room ((r.data.length:Int)-r.at_);omega),(by have:=A4 x1.n room ((r.data.length:Int)-r.at_);omega),(by omega),(by have:=A4 x1.n room ((r.data.length:Int)-r.at_);omega),(by have:=A4 x1.n room ((r.data.length:Int)-r.at_);omega),(by omega),?_⟩
 refine have hm1:A7 r room=(⟨r.data,r.at_+(Ds x1.n room ((r.data.length:Int)-r.at_)),r.script,r.next+1,r.code⟩:Rdr):=?_;?_
 rotate_left
 refine⟨(congrArg S.tup (Aa (congrArg V.agg (Aa (congrArg C.str ?_) (Aa (congrArg (C.int .i64) ?_) (Aa rfl (Aa (congrArg (C.int .i64) ?_) (Aa (congrArg (C.int .i64) ?_) rfl)))))) (Aa (congrArg V.c (congrArg C.str ?_)) (Aa (congrArg V.c (congrArg (C.int .i64) ?_)) rfl)))),(by rw[hm1]<;>rfl)⟩
 rotate_left 6
 have he:Di r room=⟨room,1⟩:=Q7 (by omega)
 refine⟨(Ah (by omega) (by omega)),(Sn (by unfold Ds;omega)),(Ah (by have:=A4 room room ((r.data.length:Int)-r.at_);omega) (by have:=A4 room room ((r.data.length:Int)-r.at_);omega)),(by decide),(by decide),dsp (fun h5 p5=>?_) fun h5 p5=>?_⟩
 refine⟨(by have:=A4 room room ((r.data.length:Int)-r.at_);omega),(by have:=A4 room room ((r.data.length:Int)-r.at_);omega),(by omega),(by have:=A4 room room ((r.data.length:Int)-r.at_);omega),(by have:=A4 room room ((r.data.length:Int)-r.at_);omega),(by omega),?_⟩
 refine have hm1:A7 r room=(⟨r.data,r.at_+(Ds room room ((r.data.length:Int)-r.at_)),r.script,r.next,1⟩:Rdr):=?_;?_
 rotate_left
 refine⟨(congrArg S.tup (Aa (congrArg V.agg (Aa (congrArg C.str ?_) (Aa (congrArg (C.int .i64) ?_) (Aa rfl (Aa (congrArg (C.int .i64) ?_) (Aa (congrArg (C.int .i64) ?_) rfl)))))) (Aa (congrArg V.c (congrArg C.str ?_)) (Aa (congrArg V.c (congrArg (C.int .i64) ?_)) rfl)))),(by rw[hm1]<;>rfl)⟩
 rotate_left 6
 refine⟨(by have:=A4 room room ((r.data.length:Int)-r.at_);omega),(by have:=A4 room room ((r.data.length:Int)-r.at_);omega),(by omega),(by have:=A4 room room ((r.data.length:Int)-r.at_);omega),(by have:=A4 room room ((r.data.length:Int)-r.at_);omega),(by omega),?_⟩
 refine have hm1:A7 r room=(⟨r.data,r.at_+(Ds room room ((r.data.length:Int)-r.at_)),r.script,r.next,r.code⟩:Rdr):=?_;?_
 rotate_left
 refine⟨(congrArg S.tup (Aa (congrArg V.agg (Aa (congrArg C.str ?_) (Aa (congrArg (C.int .i64) ?_) (Aa rfl (Aa (congrArg (C.int .i64) ?_) (Aa (congrArg (C.int .i64) ?_) rfl)))))) (Aa (congrArg V.c (congrArg C.str ?_)) (Aa (congrArg V.c (congrArg (C.int .i64) ?_)) rfl)))),(by rw[hm1]<;>rfl)⟩
 rotate_left 6
 all_goals first|((simp[A7,A2,Bw,Ra,J9,rsN,K2, *]<;>omega))|((simp[A7,A2,Bw,Ra,J9,rsN,K2, *];done))|((simp_all[A7,A2,Bw,Ra,J9,rsN,K2];done))|(grind[A7,A2,Bw,Ra,J9,rsN,K2])
theorem Ab5 (r:Rdr) (room:Int) (hp1:List.length (r).script≤bigN) (hp2:List.length (r).data≤bigN):Fun Tryz.prog 137 [.agg (Q4 r),vI room] [] (.tup [.agg (D9 0 (A7 r room)),vT (A2 r room),vI (Bw r room)]) [.lst .rd (A7 r room).script]:=by
 have hN:bigN=274877906944:=rfl
 refine Af Tryz.func137 (by kernel_rfl) (by kernel_rfl) (w:=let zi:Int→C:= .int .i64;let z6:=(r.data.length:Int);let z9:List Blk:=[.lst .rd (A7 r room).script];let z10:=([.lst .rd r.script]:List Blk);let z12:=D9 0 (A7 r room);let z13:=(0:Int)≤r.at_;let z14:=Bw r room;let z15:=A2 r room;let z16:=z6-r.at_;let z7:=Ds room room z16;let z8:=min room z16;let z11:=(.v (vI (IntKind.i64.wrap z16)):S)= .v (vI z16);let z18:=decide (r.next<(r.script.length:Int));let z19:=r.at_≤r.at_+z7;let z20:=min room z8;let z21:=r.next+1;let z22:=os 13 [10];let z23:=r.at_+z7;let z24:=r.at_.toNat;let z17:=List.drop z24 (List.take (z23.toNat) r.data);let z25:=r.at_+z7≤z6;let z26:=(.tup [.agg (D9 0 r),vT [],vI 1]:S);(.seg [.call [] (.v (.agg (D9 0 r))) [.lst .rd r.script],.call [] (.v (vB (A3 r))) []] (.br (.leaf () [2]) (.br (.leaf () [2]) (.br (.seg [.ord (os 6 [3]) [1]] (.leaf () [2])) (.br (.intro (fun (x1:Rd)=>r.script[r.next.toNat]? =some x1) fun x1=>let z1:=min x1.n z8;let z2:=Ds x1.n room z16;.seg [.el .rd x1,.as 42 (.v (vI z21)),.ord (os 13 [9,10,11]) [],.as 52 (.v (vI z16)),.call [] (.v (vI z8)) [],.call [] (.v (vI z1)) [],.call [] (.v (vI (max 0 z1))) [],.as 55 (.v (vI z2)),.as 59 (.v (vI (r.at_+z2)))] (.br (.seg [.ord z22 [1]] (.leaf () [2])) (.br (.br (.seg [.ord z22 [1]] (.leaf () [2])) (.seg [.ord z22 [1]] (.leaf () [2]))) (.seg [.ord z22 [1]] (.leaf () [2]))))) (.seg [.ord (os 13 [9,10,11]) [],.as 52 (.v (vI z16)),.call [] (.v (vI z8)) [],.call [] (.v (vI z20)) [],.call [] (.v (vI (max 0 z20))) [],.as 55 (.v (vI z7)),.as 59 (.v (vI z23)),.br false,.br true] (.br (.seg [.ord z22 [1]] (.leaf () [2])) (.seg [.ord z22 [1]] (.leaf () [2])))))))),(Fun Tryz.prog 136 [.agg (Q4 r)] [] (.v (.agg (D9 0 r))) [.lst .rd r.script])∧(Fun Tryz.prog 131 [.agg (Q4 r)] [] (.v (vB (A3 r))) [])∧((!(A3 r))=true→z26= .tup [.agg z12,vT z15,vI z14]∧z10=z9)∧((!(A3 r))=false→((decide (room<1))=true→z26= .tup [.agg z12,vT z15,vI z14]∧z10=z9)∧((decide (room<1))=false→((!decide (r.code=0))=true→(.tup [.agg (D9 0 r),vT [],vI r.code]:S)= .tup [.agg z12,vT z15,vI z14]∧z10=z9)∧((!decide (r.code=0))=false→(z18=true→(∃(x1:Rd),r.script[r.next.toNat]? =some x1)∧∀(x1:Rd),(r.script[r.next.toNat]? =some x1)→(let z3:=Ds x1.n room z16;let z4:=(.tup [.agg [.str r.data,zi (r.at_+z3),.own 0,zi z21,zi x1.code],vT (List.drop z24 (List.take (Int.toNat (r.at_+z3)) r.data)),vI x1.code]:S);let z5:=min x1.n z8;(r.script[r.next.toNat]? =some x1)∧((0:Int)≤r.next)∧((.v (vI (IntKind.i64.wrap z21)):S)= .v (vI z21))∧z11∧z11∧(Fun Tryz.prog 182 [vI room,vI z16] [] (.v (vI z8)) [])∧(Fun Tryz.prog 182 [vI x1.n,vI z8] [] (.v (vI z5)) [])∧(Fun Tryz.prog 53 [vI 0,vI z5] [] (.v (vI (max 0 z5))) [])∧((.v (vI (max 0 z5)):S)= .v (vI z3))∧((.v (vI (IntKind.i64.wrap (r.at_+z3))):S)= .v (vI (r.at_+z3)))∧((decide (20≤x1.code))=true→(r.at_+z3≤z6)∧(r.at_≤r.at_+z3)∧z13∧(r.at_+z3≤z6)∧(r.at_≤r.at_+z3)∧z13∧z4= .tup [.agg z12,vT z15,vI z14]∧z10=z9)∧((decide (20≤x1.code))=false→((decide (x1.code=1))=true→((decide (r.at_+z3=z6))=true→(r.at_+z3≤z6)∧(r.at_≤r.at_+z3)∧z13∧(r.at_+z3≤z6)∧(r.at_≤r.at_+z3)∧z13∧z4= .tup [.agg z12,vT z15,vI z14]∧z10=z9)∧((decide (r.at_+z3=z6))=false→(r.at_+z3≤z6)∧(r.at_≤r.at_+z3)∧z13∧(r.at_+z3≤z6)∧(r.at_≤r.at_+z3)∧z13∧(.tup [.agg [.str r.data,zi (r.at_+z3),.own 0,zi z21,zi r.code],vT (List.drop z24 (List.take (Int.toNat (r.at_+z3)) r.data)),vI r.code]:S)= .tup [.agg z12,vT z15,vI z14]∧z10=z9))∧((decide (x1.code=1))=false→(r.at_+z3≤z6)∧(r.at_≤r.at_+z3)∧z13∧(r.at_+z3≤z6)∧(r.at_≤r.at_+z3)∧z13∧(.tup [.agg [.str r.data,zi (r.at_+z3),.own 0,zi z21,zi r.code],vT (List.drop z24 (List.take (Int.toNat (r.at_+z3)) r.data)),vI r.code]:S)= .tup [.agg z12,vT z15,vI z14]∧z10=z9))))∧(z18=false→z11∧z11∧(Fun Tryz.prog 182 [vI room,vI z16] [] (.v (vI z8)) [])∧(Fun Tryz.prog 182 [vI room,vI z8] [] (.v (vI z20)) [])∧(Fun Tryz.prog 53 [vI 0,vI z20] [] (.v (vI (max 0 z20))) [])∧((.v (vI (max 0 z20)):S)= .v (vI z7))∧((.v (vI (IntKind.i64.wrap z23)):S)= .v (vI z23))∧((decide (20≤1))=false)∧((decide (1=1))=true)∧((decide (r.at_+z7=z6))=true→z25∧z19∧z13∧z25∧z19∧z13∧(.tup [.agg [.str r.data,zi z23,.own 0,zi r.next,zi 1],vT z17,vI 1]:S)= .tup [.agg z12,vT z15,vI z14]∧z10=z9)∧((decide (r.at_+z7=z6))=false→z25∧z19∧z13∧z25∧z19∧z13∧(.tup [.agg [.str r.data,zi z23,.own 0,zi r.next,zi r.code],vT z17,vI r.code]:S)= .tup [.agg z12,vT z15,vI z14]∧z10=z9))))))) (by kernel_rfl) ?_
 refine⟨(Th r (by omega)),(Qh r (by omega) (by omega)),fun h1=>have q1:=Am h1;?_,fun h1=>have q1:=Aj h1;have p1:=Et q1;?_⟩
 refine have hm1:A7 r room=r:=?_;?_
 rotate_left
 refine⟨(congrArg S.tup (Aa (congrArg V.agg (Aa (congrArg C.str ?_) (Aa (congrArg (C.int .i64) ?_) (Aa rfl (Aa (congrArg (C.int .i64) ?_) (Aa (congrArg (C.int .i64) ?_) rfl)))))) (Aa (congrArg V.c (congrArg C.str ?_)) (Aa (congrArg V.c (congrArg (C.int .i64) ?_)) rfl)))),(by rw[hm1]<;>rfl)⟩
 rotate_left 6
 refine dsp (fun h2 p2=>?_) fun h2 p2=>?_
 refine have hm1:A7 r room=r:=?_;?_
 rotate_left
 refine⟨(congrArg S.tup (Aa (congrArg V.agg (Aa (congrArg C.str ?_) (Aa (congrArg (C.int .i64) ?_) (Aa rfl (Aa (congrArg (C.int .i64) ?_) (Aa (congrArg (C.int .i64) ?_) rfl)))))) (Aa (congrArg V.c (congrArg C.str ?_)) (Aa (congrArg V.c (congrArg (C.int .i64) ?_)) rfl)))),(by rw[hm1]<;>rfl)⟩
 rotate_left 6
 refine⟨fun h3=>have q3:=Am h3;have p3:=of_decide_eq_false q3;?_,fun h3=>have q3:=Aj h3;have p3:=of_decide_eq_true q3;?_⟩
 refine have hm1:A7 r room=r:=?_;?_
 rotate_left
 refine⟨(congrArg S.tup (Aa (congrArg V.agg (Aa (congrArg C.str ?_) (Aa (congrArg (C.int .i64) ?_) (Aa rfl (Aa (congrArg (C.int .i64) ?_) (Aa (congrArg (C.int .i64) ?_) rfl)))))) (Aa (congrArg V.c (congrArg C.str ?_)) (Aa (congrArg V.c (congrArg (C.int .i64) ?_)) rfl)))),(by rw[hm1]<;>rfl)⟩
 rotate_left 6
 refine dsp (fun h4 p4=>?_) fun h4 p4=>?_
 refine⟨(Bo (l:=r.script) (i:=r.next.toNat) (by omega)),fun x1 hx1=>?_⟩
 have he:Di r room=x1:=Q6 (by omega) hx1
 refine⟨hx1,(by omega),(Ah (by omega) (by omega)),(Ah (by omega) (by omega)),(Ah (by omega) (by omega)),(Afi _ _),(Afi _ _),(Aiw _ _),(Sn (by unfold Ds;omega)),(Ah (by have:=A4 x1.n room ((r.data.length:Int)-r.at_);omega) (by have:=A4 x1.n room ((r.data.length:Int)-r.at_);omega)),dsp (fun h5 p5=>?_) fun h5 p5=>?_⟩
 refine⟨(by have:=A4 x1.n room ((r.data.length:Int)-r.at_);omega),(by have:=A4 x1.n room ((r.data.length:Int)-r.at_);omega),(by omega),(by have:=A4 x1.n room ((r.data.length:Int)-r.at_);omega),(by have:=A4 x1.n room ((r.data.length:Int)-r.at_);omega),(by omega),?_⟩
 refine have hm1:A7 r room=(⟨r.data,r.at_+(Ds x1.n room ((r.data.length:Int)-r.at_)),r.script,r.next+1,x1.code⟩:Rdr):=?_;?_
 rotate_left
 refine⟨(congrArg S.tup (Aa (congrArg V.agg (Aa (congrArg C.str ?_) (Aa (congrArg (C.int .i64) ?_) (Aa rfl (Aa (congrArg (C.int .i64) ?_) (Aa (congrArg (C.int .i64) ?_) rfl)))))) (Aa (congrArg V.c (congrArg C.str ?_)) (Aa (congrArg V.c (congrArg (C.int .i64) ?_)) rfl)))),(by rw[hm1]<;>rfl)⟩
 rotate_left 6
 refine dsp (fun h6 p6=>?_) fun h6 p6=>?_
 refine dsp (fun h7 p7=>?_) fun h7 p7=>?_
 refine⟨(by have:=A4 x1.n room ((r.data.length:Int)-r.at_);omega),(by have:=A4 x1.n room ((r.data.length:Int)-r.at_);omega),(by omega),(by have:=A4 x1.n room ((r.data.length:Int)-r.at_);omega),(by have:=A4 x1.n room ((r.data.length:Int)-r.at_);omega),(by omega),?_⟩
 refine have hm1:A7 r room=(⟨r.data,r.at_+(Ds x1.n room ((r.data.length:Int)-r.at_)),r.script,r.next+1,x1.code⟩:Rdr):=?_;?_
 rotate_left
 refine⟨(congrArg S.tup (Aa (congrArg V.agg (Aa (congrArg C.str ?_) (Aa (congrArg (C.int .i64) ?_) (Aa rfl (Aa (congrArg (C.int .i64) ?_) (Aa (congrArg (C.int .i64) ?_) rfl)))))) (Aa (congrArg V.c (congrArg C.str ?_)) (Aa (congrArg V.c (congrArg (C.int .i64) ?_)) rfl)))),(by rw[hm1]<;>rfl)⟩
 rotate_left 6
 refine⟨(by have:=A4 x1.n room ((r.data.length:Int)-r.at_);omega),(by have:=A4 x1.n room ((r.data.length:Int)-r.at_);omega),(by omega),(by have:=A4 x1.n room ((r.data.length:Int)-r.at_);omega),(by have:=A4 x1.n room ((r.data.length:Int)-r.at_);omega),(by omega),?_⟩
 refine have hm1:A7 r room=(⟨r.data,r.at_+(Ds x1.n room ((r.data.length:Int)-r.at_)),r.script,r.next+1,r.code⟩:Rdr):=?_;?_
 rotate_left
 refine⟨(congrArg S.tup (Aa (congrArg V.agg (Aa (congrArg C.str ?_) (Aa (congrArg (C.int .i64) ?_) (Aa rfl (Aa (congrArg (C.int .i64) ?_) (Aa (congrArg (C.int .i64) ?_) rfl)))))) (Aa (congrArg V.c (congrArg C.str ?_)) (Aa (congrArg V.c (congrArg (C.int .i64) ?_)) rfl)))),(by rw[hm1]<;>rfl)⟩
 rotate_left 6
 refine⟨(by have:=A4 x1.n room ((r.data.length:Int)-r.at_);omega),(by have:=A4 x1.n room ((r.data.length:Int)-r.at_);omega),(by omega),(by have:=A4 x1.n room ((r.data.length:Int)-r.at_);omega),(by have:=A4 x1.n room ((r.data.length:Int)-r.at_);omega),(by omega),?_⟩
 refine have hm1:A7 r room=(⟨r.data,r.at_+(Ds x1.n room ((r.data.length:Int)-r.at_)),r.script,r.next+1,r.code⟩:Rdr):=?_;?_
 rotate_left
 refine⟨(congrArg S.tup (Aa (congrArg V.agg (Aa (congrArg C.str ?_) (Aa (congrArg (C.int .i64) ?_) (Aa rfl (Aa (congrArg (C.int .i64) ?_) (Aa (congrArg (C.int .i64) ?_) rfl)))))) (Aa (congrArg V.c (congrArg C.str ?_)) (Aa (congrArg V.c (congrArg (C.int .i64) ?_)) rfl)))),(by rw[hm1]<;>rfl)⟩
 rotate_left 6
 have he:Di r room=⟨room,1⟩:=Q7 (by omega)
 refine⟨(Ah (by omega) (by omega)),(Ah (by omega) (by omega)),(Afi _ _),(Afi _ _),(Aiw _ _),(Sn (by unfold Ds;omega)),(Ah (by have:=A4 room room ((r.data.length:Int)-r.at_);omega) (by have:=A4 room room ((r.data.length:Int)-r.at_);omega)),(by decide),(by decide),dsp (fun h5 p5=>?_) fun h5 p5=>?_⟩
 refine⟨(by have:=A4 room room ((r.data.length:Int)-r.at_);omega),(by have:=A4 room room ((r.data.length:Int)-r.at_);omega),(by omega),(by have:=A4 room room ((r.data.length:Int)-r.at_);omega),(by have:=A4 room room ((r.data.length:Int)-r.at_);omega),(by omega),?_⟩
 refine have hm1:A7 r room=(⟨r.data,r.at_+(Ds room room ((r.data.length:Int)-r.at_)),r.script,r.next,1⟩:Rdr):=?_;?_
 rotate_left
 refine⟨(congrArg S.tup (Aa (congrArg V.agg (Aa (congrArg C.str ?_) (Aa (congrArg (C.int .i64) ?_) (Aa rfl (Aa (congrArg (C.int .i64) ?_) (Aa (congrArg (C.int .i64) ?_) rfl)))))) (Aa (congrArg V.c (congrArg C.str ?_)) (Aa (congrArg V.c (congrArg (C.int .i64) ?_)) rfl)))),(by rw[hm1]<;>rfl)⟩
 rotate_left 6
 refine⟨(by have:=A4 room room ((r.data.length:Int)-r.at_);omega),(by have:=A4 room room ((r.data.length:Int)-r.at_);omega),(by omega),(by have:=A4 room room ((r.data.length:Int)-r.at_);omega),(by have:=A4 room room ((r.data.length:Int)-r.at_);omega),(by omega),?_⟩
 refine have hm1:A7 r room=(⟨r.data,r.at_+(Ds room room ((r.data.length:Int)-r.at_)),r.script,r.next,r.code⟩:Rdr):=?_;?_
 rotate_left
 refine⟨(congrArg S.tup (Aa (congrArg V.agg (Aa (congrArg C.str ?_) (Aa (congrArg (C.int .i64) ?_) (Aa rfl (Aa (congrArg (C.int .i64) ?_) (Aa (congrArg (C.int .i64) ?_) rfl)))))) (Aa (congrArg V.c (congrArg C.str ?_)) (Aa (congrArg V.c (congrArg (C.int .i64) ?_)) rfl)))),(by rw[hm1]<;>rfl)⟩
 rotate_left 6
 all_goals first|((simp[A7,A2,Bw,Ra,J9,rsN,K2, *]<;>omega))|((simp[A7,A2,Bw,Ra,J9,rsN,K2, *];done))|((simp_all[A7,A2,Bw,Ra,J9,rsN,K2];done))|(grind[A7,A2,Bw,Ra,J9,rsN,K2])
theorem E9 (m:Mac) (e:Ev) (hp1:List.length (m).out≤200000000):Fun Tryz.prog 218 [vP 0,.agg (cEv e)] [.cells (Ab 1 2 3 m),.tree m.d.plan.shapes,.lst .lev m.d.stack,.lst .ev m.out] (.tup []) [.cells (Ab 1 2 4 m),.tree (m).d.plan.shapes,.lst .lev (m).d.stack,.dead,.lst .ev ((m).out++[e])]:=by
 have hN:bigN=274877906944:=rfl
 refine Af Tryz.func218 (by kernel_rfl) (by kernel_rfl) (w:=(.seg [.ord (os 11 [6,7,10]) [3],.ty .ev,.ty .ev] (.leaf () [0,1,2,3,6]),(m.out.length+List.length [e]≤bigN)∧(.tup []:S)= .tup []∧([.cells (Ab 1 2 4 m),.tree m.d.plan.shapes,.lst .lev m.d.stack,.dead,.lst .ev (m.out++[e])]:List Blk)=[.cells (Ab 1 2 4 m),.tree (m).d.plan.shapes,.lst .lev (m).d.stack,.dead,.lst .ev ((m).out++[e])])) (by kernel_rfl) ?_
 exact⟨(by simp only[List.length_cons,List.length_nil];omega),rfl,(Aa rfl (Aa (congrArg Blk.tree (by rfl)) (Aa (congrArg (Blk.lst .lev) (by rfl)) (Aa rfl (Aa (congrArg (Blk.lst .ev) (by rfl)) rfl)))))⟩
theorem B2 (m:Mac) (c:Int) (a:Int) (hp1:List.length (m).out≤200000000):Fun Tryz.prog 219 [vP 0,vI c,vI a] [.cells (Ab 1 2 3 m),.tree m.d.plan.shapes,.lst .lev m.d.stack,.lst .ev m.out] (.tup []) [.cells (Ab 1 2 4 (As m c a)),.tree (As m c a).d.plan.shapes,.lst .lev (As m c a).d.stack,.dead,.lst .ev (As m c a).out]:=by
 have hN:bigN=274877906944:=rfl
 refine Af Tryz.func219 (by kernel_rfl) (by kernel_rfl) (w:=let zi:Int→C:= .int .i64;let z3:=Av c a;let z1:List C:=[.own 1,zi m.d.plan.root,zi m.d.plan.deep,zi m.d.plan.most,zi 9,.own 2,.int .u64 0,zi 0,zi m.d.start,zi m.d.at_,zi m.d.field.number,zi m.d.field.kind,.bool m.d.field.rep,.bool m.d.field.packed,zi m.d.field.msg,zi m.d.wire,zi 0,zi m.d.utf.want,zi m.d.utf.low,zi m.d.utf.high,zi z3.kind,zi z3.field,.int .u64 z3.bits,zi z3.len,.str z3.text,zi z3.code,zi z3.at_,.own 4];let z2:List Blk:=[.cells z1,.tree m.d.plan.shapes,.lst .lev m.d.stack,.dead,.lst .ev (m.out++[z3])];let z4:=As m c a;(.seg [.call [] (.v (.agg (cEv z3))) [],.call [0,1,2,3] (.tup []) z2] (.leaf () [0,1,2,3,4]),(Fun Tryz.prog 235 [vI c,vI a] [] (.v (.agg (cEv z3))) [])∧(Fun Tryz.prog 218 [vP 0,.agg (cEv z3)] [.cells [.own 1,zi m.d.plan.root,zi m.d.plan.deep,zi m.d.plan.most,zi 9,.own 2,.int .u64 0,zi 0,zi m.d.start,zi m.d.at_,zi m.d.field.number,zi m.d.field.kind,.bool m.d.field.rep,.bool m.d.field.packed,zi m.d.field.msg,zi m.d.wire,zi 0,zi m.d.utf.want,zi m.d.utf.low,zi m.d.utf.high,zi z3.kind,zi z3.field,.int .u64 z3.bits,zi z3.len,.str z3.text,zi z3.code,zi z3.at_,.own 3],.tree m.d.plan.shapes,.lst .lev m.d.stack,.lst .ev m.out] (.tup []) z2)∧(.tup []:S)= .tup []∧(z2:List Blk)=[.cells (Ab 1 2 4 z4),.tree z4.d.plan.shapes,.lst .lev z4.d.stack,.dead,.lst .ev z4.out])) (by kernel_rfl) ?_
 refine⟨(Adj _ _),(E9 (⟨(⟨m.d.plan,9,m.d.stack,(⟨0,0⟩:Scn),m.d.start,m.d.at_,m.d.field,m.d.wire,0,m.d.utf,(Av c a)⟩:Dcd),m.out⟩:Mac) (Av c a) (by first|omega|rfl|(dsimp only;omega))),?_⟩
 refine have hm1:As m c a=(⟨(⟨m.d.plan,9,m.d.stack,(⟨0,0⟩:Scn),m.d.start,m.d.at_,m.d.field,m.d.wire,0,m.d.utf,(Av c a)⟩:Dcd),m.out++[(Av c a)]⟩:Mac):=?_;?_
 rotate_left
 exact⟨rfl,(by rw[hm1]<;>rfl)⟩
 all_goals first|(rfl)|(simp_all[As,Au])
theorem Ah2 (m:Mac) (hp1:List.length (m).out≤200000000) (hp2:List.length (m).d.stack≤bigN):Fun Tryz.prog 224 [vP 0] [.cells (Ab 1 2 3 m),.tree m.d.plan.shapes,.lst .lev m.d.stack,.lst .ev m.out] (.v (vB (Aq m).isSome)) [.cells (Ab 1 4 5 ((Aq m).getD m)),.tree ((Aq m).getD m).d.plan.shapes,.dead,.dead,.lst .lev ((Aq m).getD m).d.stack,.lst .ev ((Aq m).getD m).out]:=by
 have hN:bigN=274877906944:=rfl
 refine Af Tryz.func224 (by kernel_rfl) (by kernel_rfl) (w:=let zi:Int→C:= .int .i64;let z4:List C:=[zi 0,.int .u64 0,zi 0,.str [],zi 0,zi 0];let z7:List C:=[zi m.d.end_.kind,zi m.d.end_.field,.int .u64 m.d.end_.bits,zi m.d.end_.len,.str m.d.end_.text,zi m.d.end_.code,zi m.d.end_.at_,.own 5];let z3:List C:= .own 1::zi m.d.plan.root::zi m.d.plan.deep::zi m.d.plan.most::zi 1:: .own 4:: .int .u64 m.d.scan.bits::zi m.d.scan.have_::zi m.d.start::zi m.d.at_::zi m.d.field.number::zi m.d.field.kind:: .bool m.d.field.rep:: .bool m.d.field.packed::zi m.d.field.msg::zi m.d.wire::zi m.d.want::zi m.d.utf.want::zi m.d.utf.low::zi m.d.utf.high::z7;let z5:List C:= .own 1::zi m.d.plan.root::zi m.d.plan.deep::zi m.d.plan.most::zi 2:: .own 4:: .int .u64 m.d.scan.bits::zi m.d.scan.have_::zi m.d.start::zi m.d.at_::zi m.d.field.number::zi m.d.field.kind:: .bool m.d.field.rep:: .bool m.d.field.packed::zi m.d.field.msg::zi m.d.wire::zi 0::zi m.d.utf.want::zi m.d.utf.low::zi m.d.utf.high::z7;let z8:List C:=[zi m.d.end_.kind,zi m.d.end_.field,.int .u64 m.d.end_.bits,zi m.d.end_.len,.str m.d.end_.text,zi m.d.end_.code,zi m.d.end_.at_,.own 3];let z2:List C:= .own 1::zi m.d.plan.root::zi m.d.plan.deep::zi m.d.plan.most::zi 1:: .own 2:: .int .u64 m.d.scan.bits::zi m.d.scan.have_::zi m.d.start::zi m.d.at_::zi m.d.field.number::zi m.d.field.kind:: .bool m.d.field.rep:: .bool m.d.field.packed::zi m.d.field.msg::zi m.d.wire::zi m.d.want::zi m.d.utf.want::zi m.d.utf.low::zi m.d.utf.high::z8;let z9:List C:=[zi m.d.end_.kind,zi m.d.end_.field,.int .u64 m.d.end_.bits,zi m.d.end_.len,.str m.d.end_.text,zi m.d.end_.code,zi m.d.end_.at_,.own 4];let z1:List C:= .own 1::zi m.d.plan.root::zi m.d.plan.deep::zi m.d.plan.most::zi 1:: .own 2:: .int .u64 m.d.scan.bits::zi m.d.scan.have_::zi m.d.start::zi m.d.at_::zi m.d.field.number::zi m.d.field.kind:: .bool m.d.field.rep:: .bool m.d.field.packed::zi m.d.field.msg::zi m.d.wire::zi m.d.want::zi m.d.utf.want::zi m.d.utf.low::zi m.d.utf.high::z9;let z6:List C:= .own 1::zi m.d.plan.root::zi m.d.plan.deep::zi m.d.plan.most::zi 2:: .own 2:: .int .u64 m.d.scan.bits::zi m.d.scan.have_::zi m.d.start::zi m.d.at_::zi m.d.field.number::zi m.d.field.kind:: .bool m.d.field.rep:: .bool m.d.field.packed::zi m.d.field.msg::zi m.d.wire::zi 0::zi 0::zi 0::zi 0::z9;let z12:=([.cells (Ab 1 4 5 m),.tree m.d.plan.shapes,.dead,.dead,.lst .lev m.d.stack,.lst .ev m.out]:List Blk);let z13:=(m.d.stack.length:Int);let z11:=List.take ((Int.toNat (z13-1))-0) m.d.stack;let z16:=vB (Aq m).isSome;let z21:=decide (0<(z11.length:Int));let z22:List Blk:=[.cells (Ab 1 2 3 m),.tree m.d.plan.shapes,.lst .lev z11,.lst .ev m.out];let z23:=decide (m.d.scan.have_=0);let z26:List Blk:=[.cells z2,.tree m.d.plan.shapes,.lst .lev z11,.lst .ev m.out];let z27:=(.v (vB true):S);let z28:=(0:Int)≤z13-1;let z29:=As m 5 m.d.at_;let z30:=decide (m.d.mode=2);let z33:List V:=[vP 0,.agg (zi 7::z4)];let z34:List V:=[vP 0,.agg (zi 8::z4)];let z35:=vI (Dm m.d);let z36:=z13-1≤z13;let z37:=decide (m.d.want<1);let z38:=decide (Dm m.d=0);let z40:List Blk:=[.cells (Ab 1 2 4 z29),.tree z29.d.plan.shapes,.lst .lev z29.d.stack,.dead,.lst .ev z29.out];let z41:=decide (0<z13);let z43:=vI (z13-1);let z18:=(.v (vI (IntKind.i64.wrap (z13-1))):S)= .v z43;let z44:=(.v (vB false):S);let z45:=decide (m.d.mode=7);let z46:=decide (m.d.mode=8);let z47:=(Aq m).getD m;let z10:List Blk:=[.cells (Ab 1 4 5 z47),.tree z47.d.plan.shapes,.dead,.dead,.lst .lev z47.d.stack,.lst .ev z47.out];let z20:=z30=false→z44= .v z16∧z12=z10;let z24:=z38=false→z44= .v z16∧z12=z10;let z25:=z41=false→z44= .v z16∧z12=z10;let z31:=z23=false→z44= .v z16∧z12=z10;let z32:=z37=true→z27= .v z16∧([.cells z5,.tree m.d.plan.shapes,.dead,.dead,.lst .lev m.d.stack,.lst .ev m.out]:List Blk)=z10;let z42:=z23=false→(z30=true→(z23=false)∧z44= .v z16∧z12=z10)∧z20;let z48:=os 18 [17];let z49:=m.out++[(⟨5,0,0,0,[],0,0⟩:Ev)];let z39:List Blk:=[.cells z6,.tree m.d.plan.shapes,.lst .lev m.d.stack,.dead,.lst .ev z49];let z50:=m.out++[(⟨7,0,0,0,[],0,0⟩:Ev)];let z14:List Blk:=[.cells (Ab 1 2 4 m),.tree m.d.plan.shapes,.lst .lev z11,.dead,.lst .ev z50];let z17:=([.cells (Ab 1 4 5 m),.tree m.d.plan.shapes,.dead,.dead,.lst .lev z11,.lst .ev z50]:List Blk);let z51:=m.out++[(⟨8,0,0,0,[],0,0⟩:Ev)];let z15:List Blk:=[.cells z1,.tree m.d.plan.shapes,.lst .lev z11,.dead,.lst .ev z51];let z19:=([.cells z3,.tree m.d.plan.shapes,.dead,.dead,.lst .lev z11,.lst .ev z51]:List Blk);let z52:=Bi m.d;(.br (.br (.br (.seg [.call [0,1,2,3] (.tup []) z40,.at 0,.cut 0 5] (.leaf () [0,1,2,3,5,4])) (.seg [.call [0,1,2,3] (.tup []) z39,.at 0,.cut 0 5] (.leaf () [0,1,2,3,5,4]))) (.br (.seg [.br false] (.br (.br (.br (.seg [.call [] (.v z35) []] (.br (.seg [.ord z48 [],.as 133 (.v z43),.at 13,.cut 0 5] (.br (.seg [.call [0,1,4,3] (.tup []) z14] (.leaf () [0,1,2,3,4,5])) (.seg [.call [0,1,4,3] (.tup []) z15] (.leaf () [0,1,2,3,4,5])))) (.seg [.at 0,.cut 0 5,.cut 0 27] (.leaf () [0,1,2,3,4,5])))) (.seg [.at 0,.cut 0 5,.cut 0 27] (.leaf () [0,1,2,3,4,5]))) (.seg [.at 0,.cut 0 5,.cut 0 27] (.leaf () [0,1,2,3,4,5]))) (.seg [.at 0,.cut 0 5,.cut 0 27] (.leaf () [0,1,2,3,4,5])))) (.br (.br (.seg [.br false] (.br (.seg [.br true] (.br (.seg [.call [] (.v z35) []] (.br (.seg [.ord z48 [],.as 133 (.v z43),.at 13,.cut 0 5] (.br (.seg [.call [0,1,4,3] (.tup []) z14] (.leaf () [0,1,2,3,4,5])) (.seg [.call [0,1,4,3] (.tup []) z15] (.leaf () [0,1,2,3,4,5])))) (.seg [.at 0,.cut 0 5,.cut 0 27] (.leaf () [0,1,2,3,4,5])))) (.seg [.at 0,.cut 0 5,.cut 0 27] (.leaf () [0,1,2,3,4,5])))) (.seg [.at 0,.cut 0 5,.cut 0 27] (.leaf () [0,1,2,3,4,5])))) (.br (.seg [.br false,.at 0,.cut 0 5,.cut 0 27] (.leaf () [0,1,2,3,4,5])) (.seg [.at 0,.cut 0 5,.cut 0 27] (.leaf () [0,1,2,3,4,5])))) (.br (.br (.br (.seg [.call [] (.v z35) []] (.br (.seg [.ord z48 [],.as 133 (.v z43),.at 13,.cut 0 5] (.br (.seg [.call [0,1,4,3] (.tup []) z14] (.leaf () [0,1,2,3,4,5])) (.seg [.call [0,1,4,3] (.tup []) z15] (.leaf () [0,1,2,3,4,5])))) (.seg [.at 0,.cut 0 5,.cut 0 27] (.leaf () [0,1,2,3,4,5])))) (.seg [.at 0,.cut 0 5,.cut 0 27] (.leaf () [0,1,2,3,4,5]))) (.seg [.at 0,.cut 0 5,.cut 0 27] (.leaf () [0,1,2,3,4,5]))) (.seg [.at 0,.cut 0 5,.cut 0 27] (.leaf () [0,1,2,3,4,5])))))) (.br (.br (.seg [.at 0,.cut 0 5,.cut 0 27] (.leaf () [0,1,2,3,4,5])) (.br (.br (.br (.seg [.call [] (.v z35) []] (.br (.seg [.ord z48 [],.as 133 (.v z43),.at 13,.cut 0 5] (.br (.seg [.call [0,1,4,3] (.tup []) z14] (.leaf () [0,1,2,3,4,5])) (.seg [.call [0,1,4,3] (.tup []) z15] (.leaf () [0,1,2,3,4,5])))) (.seg [.at 0,.cut 0 5,.cut 0 27] (.leaf () [0,1,2,3,4,5])))) (.seg [.at 0,.cut 0 5,.cut 0 27] (.leaf () [0,1,2,3,4,5]))) (.seg [.at 0,.cut 0 5,.cut 0 27] (.leaf () [0,1,2,3,4,5]))) (.seg [.at 0,.cut 0 5,.cut 0 27] (.leaf () [0,1,2,3,4,5])))) (.br (.br (.br (.seg [.at 0,.cut 0 5,.cut 0 27] (.leaf () [0,1,2,3,4,5])) (.br (.seg [.br true] (.br (.seg [.call [] (.v z35) []] (.br (.seg [.ord z48 [],.as 133 (.v z43),.at 13,.cut 0 5] (.br (.seg [.call [0,1,4,3] (.tup []) z14] (.leaf () [0,1,2,3,4,5])) (.seg [.call [0,1,4,3] (.tup []) z15] (.leaf () [0,1,2,3,4,5])))) (.seg [.at 0,.cut 0 5,.cut 0 27] (.leaf () [0,1,2,3,4,5])))) (.seg [.at 0,.cut 0 5,.cut 0 27] (.leaf () [0,1,2,3,4,5])))) (.seg [.at 0,.cut 0 5,.cut 0 27] (.leaf () [0,1,2,3,4,5])))) (.br (.seg [.br false,.at 0,.cut 0 5,.cut 0 27] (.leaf () [0,1,2,3,4,5])) (.seg [.at 0,.cut 0 5,.cut 0 27] (.leaf () [0,1,2,3,4,5])))) (.br (.br (.br (.seg [.call [] (.v z35) []] (.br (.seg [.ord z48 [],.as 133 (.v z43),.at 13,.cut 0 5] (.br (.seg [.call [0,1,4,3] (.tup []) z14] (.leaf () [0,1,2,3,4,5])) (.seg [.call [0,1,4,3] (.tup []) z15] (.leaf () [0,1,2,3,4,5])))) (.seg [.at 0,.cut 0 5,.cut 0 27] (.leaf () [0,1,2,3,4,5])))) (.seg [.at 0,.cut 0 5,.cut 0 27] (.leaf () [0,1,2,3,4,5]))) (.seg [.at 0,.cut 0 5,.cut 0 27] (.leaf () [0,1,2,3,4,5]))) (.seg [.at 0,.cut 0 5,.cut 0 27] (.leaf () [0,1,2,3,4,5]))))),((decide (m.d.mode=6))=true→(z37=true→((decide (0<m.d.utf.want))=true→(Fun Tryz.prog 219 [vP 0,vI 5,vI m.d.at_] [.cells (Ab 1 2 3 m),.tree m.d.plan.shapes,.lst .lev m.d.stack,.lst .ev m.out] (.tup []) z40)∧z27= .v z16∧([.cells (Ab 1 4 5 z29),.tree z29.d.plan.shapes,.dead,.dead,.lst .lev z29.d.stack,.lst .ev z29.out]:List Blk)=z10)∧((decide (0<m.d.utf.want))=false→(Fun Tryz.prog 218 [vP 0,.agg (zi 5::z4)] [.cells (.own 1::zi m.d.plan.root::zi m.d.plan.deep::zi m.d.plan.most::zi 2:: .own 2:: .int .u64 m.d.scan.bits::zi m.d.scan.have_::zi m.d.start::zi m.d.at_::zi m.d.field.number::zi m.d.field.kind:: .bool m.d.field.rep:: .bool m.d.field.packed::zi m.d.field.msg::zi m.d.wire::zi 0::zi 0::zi 0::zi 0::z8),.tree m.d.plan.shapes,.lst .lev m.d.stack,.lst .ev m.out] (.tup []) z39)∧z27= .v z16∧([.cells (.own 1::zi m.d.plan.root::zi m.d.plan.deep::zi m.d.plan.most::zi 2:: .own 4:: .int .u64 m.d.scan.bits::zi m.d.scan.have_::zi m.d.start::zi m.d.at_::zi m.d.field.number::zi m.d.field.kind:: .bool m.d.field.rep:: .bool m.d.field.packed::zi m.d.field.msg::zi m.d.wire::zi 0::zi 0::zi 0::zi 0::z7),.tree m.d.plan.shapes,.dead,.dead,.lst .lev m.d.stack,.lst .ev z49]:List Blk)=z10))∧(z37=false→(z45=true→(z37=false)∧(z30=true→(z23=true→(z41=true→(Fun Tryz.prog 179 [.agg z52] [] (.v z35) [])∧(z38=true→z18∧z18∧z36∧z28∧z36∧z28∧(z21=true→(Fun Tryz.prog 218 z33 z22 (.tup []) z14)∧z27= .v z16∧z17=z10)∧(z21=false→(Fun Tryz.prog 218 z34 z26 (.tup []) z15)∧z27= .v z16∧z19=z10))∧z24)∧z25)∧z31)∧z20)∧(z45=false→(z46=true→(z23=true→(z37=false)∧(z30=true→(z23=true)∧(z41=true→(Fun Tryz.prog 179 [.agg z52] [] (.v z35) [])∧(z38=true→z18∧z18∧z36∧z28∧z36∧z28∧(z21=true→(Fun Tryz.prog 218 z33 z22 (.tup []) z14)∧z27= .v z16∧z17=z10)∧(z21=false→(Fun Tryz.prog 218 z34 z26 (.tup []) z15)∧z27= .v z16∧z19=z10))∧z24)∧z25)∧z20)∧z42)∧(z46=false→(z30=true→(z23=true→(z41=true→(Fun Tryz.prog 179 [.agg z52] [] (.v z35) [])∧(z38=true→z18∧z18∧z36∧z28∧z36∧z28∧(z21=true→(Fun Tryz.prog 218 z33 z22 (.tup []) z14)∧z27= .v z16∧z17=z10)∧(z21=false→(Fun Tryz.prog 218 z34 z26 (.tup []) z15)∧z27= .v z16∧z19=z10))∧z24)∧z25)∧z31)∧z20))))∧((decide (m.d.mode=6))=false→(z45=true→z32∧(z37=false→(z30=true→(z23=true→(z41=true→(Fun Tryz.prog 179 [.agg z52] [] (.v z35) [])∧(z38=true→z18∧z18∧z36∧z28∧z36∧z28∧(z21=true→(Fun Tryz.prog 218 z33 z22 (.tup []) z14)∧z27= .v z16∧z17=z10)∧(z21=false→(Fun Tryz.prog 218 z34 z26 (.tup []) z15)∧z27= .v z16∧z19=z10))∧z24)∧z25)∧z31)∧z20))∧(z45=false→(z46=true→(z23=true→z32∧(z37=false→(z30=true→(z23=true)∧(z41=true→(Fun Tryz.prog 179 [.agg z52] [] (.v z35) [])∧(z38=true→z18∧z18∧z36∧z28∧z36∧z28∧(z21=true→(Fun Tryz.prog 218 z33 z22 (.tup []) z14)∧z27= .v z16∧z17=z10)∧(z21=false→(Fun Tryz.prog 218 z34 z26 (.tup []) z15)∧z27= .v z16∧z19=z10))∧z24)∧z25)∧z20))∧z42)∧(z46=false→(z30=true→(z23=true→(z41=true→(Fun Tryz.prog 179 [.agg z52] [] (.v z35) [])∧(z38=true→z18∧z18∧z36∧z28∧z36∧z28∧(z21=true→(Fun Tryz.prog 218 z33 z22 (.tup []) z14)∧z27= .v z16∧z17=z10)∧(z21=false→(Fun Tryz.prog 218 z34 z26 (.tup []) z15)∧z27= .v z16∧z19=z10))∧z24)∧z25)∧z31)∧z20))))) (by kernel_rfl) ?_
 refine dsp (fun h1 p1=>?_) fun h1 p1=>?_
 refine dsp (fun h2 p2=>?_) fun h2 p2=>?_
 refine dsp (fun h3 p3=>?_) fun h3 p3=>?_
 refine⟨(B2 m _ _ (by omega)),?_⟩
 refine have hm1:(Aq m).getD m=(As m 5 m.d.at_):=?_;?_
 rotate_left
 refine⟨(sB ?_),(by rw[hm1]<;>rfl)⟩
 rotate_left
 refine⟨(E9 (⟨(⟨m.d.plan,2,m.d.stack,m.d.scan,m.d.start,m.d.at_,m.d.field,m.d.wire,0,utf0,m.d.end_⟩:Dcd),m.out⟩:Mac) (⟨5,0,0,0,[],0,0⟩:Ev) (by first|omega|rfl|(dsimp only;omega))),?_⟩
 refine have hm1:(Aq m).getD m=(⟨(⟨m.d.plan,2,m.d.stack,m.d.scan,m.d.start,m.d.at_,m.d.field,m.d.wire,0,utf0,m.d.end_⟩:Dcd),m.out++[(⟨5,0,0,0,[],0,0⟩:Ev)]⟩:Mac):=?_;?_
 rotate_left
 refine⟨(sB ?_),(by rw[hm1]<;>rfl)⟩
 rotate_left
 refine dsp (fun h3 p3=>?_) fun h3 p3=>?_
 refine⟨h2,dsp (fun h4 p4=>?_) fun h4 p4=>?_⟩
 refine dsp (fun h5 p5=>?_) fun h5 p5=>?_
 refine dsp (fun h6 p6=>?_) fun h6 p6=>?_
 refine⟨(Dz m.d (by omega)),dsp (fun h7 p7=>?_) fun h7 p7=>?_⟩
 refine⟨(Ah (by omega) (by omega)),(Ah (by omega) (by omega)),(by omega),(by omega),(by omega),(by omega),dsp (fun h8 p8=>?_) fun h8 p8=>?_⟩
 refine⟨(E9 (⟨(⟨m.d.plan,m.d.mode,List.take ((Int.toNat ((m.d.stack.length:Int)-1))-0) m.d.stack,m.d.scan,m.d.start,m.d.at_,m.d.field,m.d.wire,m.d.want,m.d.utf,m.d.end_⟩:Dcd),m.out⟩:Mac) (⟨7,0,0,0,[],0,0⟩:Ev) (by first|omega|rfl|(dsimp only;omega))),?_⟩
 refine have hm1:(Aq m).getD m=(⟨(⟨m.d.plan,m.d.mode,List.take ((Int.toNat ((m.d.stack.length:Int)-1))-0) m.d.stack,m.d.scan,m.d.start,m.d.at_,m.d.field,m.d.wire,m.d.want,m.d.utf,m.d.end_⟩:Dcd),m.out++[(⟨7,0,0,0,[],0,0⟩:Ev)]⟩:Mac):=?_;?_
 rotate_left
 refine⟨(sB ?_),(by rw[hm1]<;>rfl)⟩
 rotate_left
 refine⟨(E9 (⟨(⟨m.d.plan,1,List.take ((Int.toNat ((m.d.stack.length:Int)-1))-0) m.d.stack,m.d.scan,m.d.start,m.d.at_,m.d.field,m.d.wire,m.d.want,m.d.utf,m.d.end_⟩:Dcd),m.out⟩:Mac) (⟨8,0,0,0,[],0,0⟩:Ev) (by first|omega|rfl|(dsimp only;omega))),?_⟩
 refine have hm1:(Aq m).getD m=(⟨(⟨m.d.plan,1,List.take ((Int.toNat ((m.d.stack.length:Int)-1))-0) m.d.stack,m.d.scan,m.d.start,m.d.at_,m.d.field,m.d.wire,m.d.want,m.d.utf,m.d.end_⟩:Dcd),m.out++[(⟨8,0,0,0,[],0,0⟩:Ev)]⟩:Mac):=?_;?_
 rotate_left
 refine⟨(sB ?_),(by rw[hm1]<;>rfl)⟩
 rotate_left
 refine have hm1:(Aq m).getD m=m:=?_;?_
 rotate_left
 refine⟨(sB ?_),(by rw[hm1]<;>rfl)⟩
 rotate_left
 refine have hm1:(Aq m).getD m=m:=?_;?_
 rotate_left
 refine⟨(sB ?_),(by rw[hm1]<;>rfl)⟩
 rotate_left
 refine have hm1:(Aq m).getD m=m:=?_;?_
 rotate_left
 refine⟨(sB ?_),(by rw[hm1]<;>rfl)⟩
 rotate_left
 refine have hm1:(Aq m).getD m=m:=?_;?_
 rotate_left
 refine⟨(sB ?_),(by rw[hm1]<;>rfl)⟩
 rotate_left
 refine dsp (fun h4 p4=>?_) fun h4 p4=>?_
 refine dsp (fun h5 p5=>?_) fun h5 p5=>?_
 refine⟨h2,dsp (fun h6 p6=>?_) fun h6 p6=>?_⟩
 refine⟨h5,dsp (fun h7 p7=>?_) fun h7 p7=>?_⟩
 refine⟨(Dz m.d (by omega)),dsp (fun h8 p8=>?_) fun h8 p8=>?_⟩
 refine⟨(Ah (by omega) (by omega)),(Ah (by omega) (by omega)),(by omega),(by omega),(by omega),(by omega),dsp (fun h9 p9=>?_) fun h9 p9=>?_⟩
 refine⟨(E9 (⟨(⟨m.d.plan,m.d.mode,List.take ((Int.toNat ((m.d.stack.length:Int)-1))-0) m.d.stack,m.d.scan,m.d.start,m.d.at_,m.d.field,m.d.wire,m.d.want,m.d.utf,m.d.end_⟩:Dcd),m.out⟩:Mac) (⟨7,0,0,0,[],0,0⟩:Ev) (by first|omega|rfl|(dsimp only;omega))),?_⟩
 refine have hm1:(Aq m).getD m=(⟨(⟨m.d.plan,m.d.mode,List.take ((Int.toNat ((m.d.stack.length:Int)-1))-0) m.d.stack,m.d.scan,m.d.start,m.d.at_,m.d.field,m.d.wire,m.d.want,m.d.utf,m.d.end_⟩:Dcd),m.out++[(⟨7,0,0,0,[],0,0⟩:Ev)]⟩:Mac):=?_;?_
 rotate_left
 refine⟨(sB ?_),(by rw[hm1]<;>rfl)⟩
 rotate_left
 refine⟨(E9 (⟨(⟨m.d.plan,1,List.take ((Int.toNat ((m.d.stack.length:Int)-1))-0) m.d.stack,m.d.scan,m.d.start,m.d.at_,m.d.field,m.d.wire,m.d.want,m.d.utf,m.d.end_⟩:Dcd),m.out⟩:Mac) (⟨8,0,0,0,[],0,0⟩:Ev) (by first|omega|rfl|(dsimp only;omega))),?_⟩
 refine have hm1:(Aq m).getD m=(⟨(⟨m.d.plan,1,List.take ((Int.toNat ((m.d.stack.length:Int)-1))-0) m.d.stack,m.d.scan,m.d.start,m.d.at_,m.d.field,m.d.wire,m.d.want,m.d.utf,m.d.end_⟩:Dcd),m.out++[(⟨8,0,0,0,[],0,0⟩:Ev)]⟩:Mac):=?_;?_
 rotate_left
 refine⟨(sB ?_),(by rw[hm1]<;>rfl)⟩
 rotate_left
 refine have hm1:(Aq m).getD m=m:=?_;?_
 rotate_left
 refine⟨(sB ?_),(by rw[hm1]<;>rfl)⟩
 rotate_left
 refine have hm1:(Aq m).getD m=m:=?_;?_
 rotate_left
 refine⟨(sB ?_),(by rw[hm1]<;>rfl)⟩
 rotate_left
 refine have hm1:(Aq m).getD m=m:=?_;?_
 rotate_left
 refine⟨(sB ?_),(by rw[hm1]<;>rfl)⟩
 rotate_left
 refine dsp (fun h6 p6=>?_) fun h6 p6=>?_
 refine⟨h5,?_⟩
 refine have hm1:(Aq m).getD m=m:=?_;?_
 rotate_left
 refine⟨(sB ?_),(by rw[hm1]<;>rfl)⟩
 rotate_left
 refine have hm1:(Aq m).getD m=m:=?_;?_
 rotate_left
 refine⟨(sB ?_),(by rw[hm1]<;>rfl)⟩
 rotate_left
 refine dsp (fun h5 p5=>?_) fun h5 p5=>?_
 refine dsp (fun h6 p6=>?_) fun h6 p6=>?_
 refine dsp (fun h7 p7=>?_) fun h7 p7=>?_
 refine⟨(Dz m.d (by omega)),dsp (fun h8 p8=>?_) fun h8 p8=>?_⟩
 refine⟨(Ah (by omega) (by omega)),(Ah (by omega) (by omega)),(by omega),(by omega),(by omega),(by omega),dsp (fun h9 p9=>?_) fun h9 p9=>?_⟩
 refine⟨(E9 (⟨(⟨m.d.plan,m.d.mode,List.take ((Int.toNat ((m.d.stack.length:Int)-1))-0) m.d.stack,m.d.scan,m.d.start,m.d.at_,m.d.field,m.d.wire,m.d.want,m.d.utf,m.d.end_⟩:Dcd),m.out⟩:Mac) (⟨7,0,0,0,[],0,0⟩:Ev) (by first|omega|rfl|(dsimp only;omega))),?_⟩
 refine have hm1:(Aq m).getD m=(⟨(⟨m.d.plan,m.d.mode,List.take ((Int.toNat ((m.d.stack.length:Int)-1))-0) m.d.stack,m.d.scan,m.d.start,m.d.at_,m.d.field,m.d.wire,m.d.want,m.d.utf,m.d.end_⟩:Dcd),m.out++[(⟨7,0,0,0,[],0,0⟩:Ev)]⟩:Mac):=?_;?_
 rotate_left
 refine⟨(sB ?_),(by rw[hm1]<;>rfl)⟩
 rotate_left
 refine⟨(E9 (⟨(⟨m.d.plan,1,List.take ((Int.toNat ((m.d.stack.length:Int)-1))-0) m.d.stack,m.d.scan,m.d.start,m.d.at_,m.d.field,m.d.wire,m.d.want,m.d.utf,m.d.end_⟩:Dcd),m.out⟩:Mac) (⟨8,0,0,0,[],0,0⟩:Ev) (by first|omega|rfl|(dsimp only;omega))),?_⟩
 refine have hm1:(Aq m).getD m=(⟨(⟨m.d.plan,1,List.take ((Int.toNat ((m.d.stack.length:Int)-1))-0) m.d.stack,m.d.scan,m.d.start,m.d.at_,m.d.field,m.d.wire,m.d.want,m.d.utf,m.d.end_⟩:Dcd),m.out++[(⟨8,0,0,0,[],0,0⟩:Ev)]⟩:Mac):=?_;?_
 rotate_left
 refine⟨(sB ?_),(by rw[hm1]<;>rfl)⟩
 rotate_left
 refine have hm1:(Aq m).getD m=m:=?_;?_
 rotate_left
 refine⟨(sB ?_),(by rw[hm1]<;>rfl)⟩
 rotate_left
 refine have hm1:(Aq m).getD m=m:=?_;?_
 rotate_left
 refine⟨(sB ?_),(by rw[hm1]<;>rfl)⟩
 rotate_left
 refine have hm1:(Aq m).getD m=m:=?_;?_
 rotate_left
 refine⟨(sB ?_),(by rw[hm1]<;>rfl)⟩
 rotate_left
 refine have hm1:(Aq m).getD m=m:=?_;?_
 rotate_left
 refine⟨(sB ?_),(by rw[hm1]<;>rfl)⟩
 rotate_left
 refine dsp (fun h2 p2=>?_) fun h2 p2=>?_
 refine dsp (fun h3 p3=>?_) fun h3 p3=>?_
 refine have hm1:(Aq m).getD m=(⟨(⟨m.d.plan,2,m.d.stack,m.d.scan,m.d.start,m.d.at_,m.d.field,m.d.wire,0,m.d.utf,m.d.end_⟩:Dcd),m.out⟩:Mac):=?_;?_
 rotate_left
 refine⟨(sB ?_),(by rw[hm1]<;>rfl)⟩
 rotate_left
 refine dsp (fun h4 p4=>?_) fun h4 p4=>?_
 refine dsp (fun h5 p5=>?_) fun h5 p5=>?_
 refine dsp (fun h6 p6=>?_) fun h6 p6=>?_
 refine⟨(Dz m.d (by omega)),dsp (fun h7 p7=>?_) fun h7 p7=>?_⟩
 refine⟨(Ah (by omega) (by omega)),(Ah (by omega) (by omega)),(by omega),(by omega),(by omega),(by omega),dsp (fun h8 p8=>?_) fun h8 p8=>?_⟩
 refine⟨(E9 (⟨(⟨m.d.plan,m.d.mode,List.take ((Int.toNat ((m.d.stack.length:Int)-1))-0) m.d.stack,m.d.scan,m.d.start,m.d.at_,m.d.field,m.d.wire,m.d.want,m.d.utf,m.d.end_⟩:Dcd),m.out⟩:Mac) (⟨7,0,0,0,[],0,0⟩:Ev) (by first|omega|rfl|(dsimp only;omega))),?_⟩
 refine have hm1:(Aq m).getD m=(⟨(⟨m.d.plan,m.d.mode,List.take ((Int.toNat ((m.d.stack.length:Int)-1))-0) m.d.stack,m.d.scan,m.d.start,m.d.at_,m.d.field,m.d.wire,m.d.want,m.d.utf,m.d.end_⟩:Dcd),m.out++[(⟨7,0,0,0,[],0,0⟩:Ev)]⟩:Mac):=?_;?_
 rotate_left
 refine⟨(sB ?_),(by rw[hm1]<;>rfl)⟩
 rotate_left
 refine⟨(E9 (⟨(⟨m.d.plan,1,List.take ((Int.toNat ((m.d.stack.length:Int)-1))-0) m.d.stack,m.d.scan,m.d.start,m.d.at_,m.d.field,m.d.wire,m.d.want,m.d.utf,m.d.end_⟩:Dcd),m.out⟩:Mac) (⟨8,0,0,0,[],0,0⟩:Ev) (by first|omega|rfl|(dsimp only;omega))),?_⟩
 refine have hm1:(Aq m).getD m=(⟨(⟨m.d.plan,1,List.take ((Int.toNat ((m.d.stack.length:Int)-1))-0) m.d.stack,m.d.scan,m.d.start,m.d.at_,m.d.field,m.d.wire,m.d.want,m.d.utf,m.d.end_⟩:Dcd),m.out++[(⟨8,0,0,0,[],0,0⟩:Ev)]⟩:Mac):=?_;?_
 rotate_left
 refine⟨(sB ?_),(by rw[hm1]<;>rfl)⟩
 rotate_left
 refine have hm1:(Aq m).getD m=m:=?_;?_
 rotate_left
 refine⟨(sB ?_),(by rw[hm1]<;>rfl)⟩
 rotate_left
 refine have hm1:(Aq m).getD m=m:=?_;?_
 rotate_left
 refine⟨(sB ?_),(by rw[hm1]<;>rfl)⟩
 rotate_left
 refine have hm1:(Aq m).getD m=m:=?_;?_
 rotate_left
 refine⟨(sB ?_),(by rw[hm1]<;>rfl)⟩
 rotate_left
 refine have hm1:(Aq m).getD m=m:=?_;?_
 rotate_left
 refine⟨(sB ?_),(by rw[hm1]<;>rfl)⟩
 rotate_left
 refine dsp (fun h3 p3=>?_) fun h3 p3=>?_
 refine dsp (fun h4 p4=>?_) fun h4 p4=>?_
 refine dsp (fun h5 p5=>?_) fun h5 p5=>?_
 refine have hm1:(Aq m).getD m=(⟨(⟨m.d.plan,2,m.d.stack,m.d.scan,m.d.start,m.d.at_,m.d.field,m.d.wire,0,m.d.utf,m.d.end_⟩:Dcd),m.out⟩:Mac):=?_;?_
 rotate_left
 refine⟨(sB ?_),(by rw[hm1]<;>rfl)⟩
 rotate_left
 refine dsp (fun h6 p6=>?_) fun h6 p6=>?_
 refine⟨h4,dsp (fun h7 p7=>?_) fun h7 p7=>?_⟩
 refine⟨(Dz m.d (by omega)),dsp (fun h8 p8=>?_) fun h8 p8=>?_⟩
 refine⟨(Ah (by omega) (by omega)),(Ah (by omega) (by omega)),(by omega),(by omega),(by omega),(by omega),dsp (fun h9 p9=>?_) fun h9 p9=>?_⟩
 refine⟨(E9 (⟨(⟨m.d.plan,m.d.mode,List.take ((Int.toNat ((m.d.stack.length:Int)-1))-0) m.d.stack,m.d.scan,m.d.start,m.d.at_,m.d.field,m.d.wire,m.d.want,m.d.utf,m.d.end_⟩:Dcd),m.out⟩:Mac) (⟨7,0,0,0,[],0,0⟩:Ev) (by first|omega|rfl|(dsimp only;omega))),?_⟩
 refine have hm1:(Aq m).getD m=(⟨(⟨m.d.plan,m.d.mode,List.take ((Int.toNat ((m.d.stack.length:Int)-1))-0) m.d.stack,m.d.scan,m.d.start,m.d.at_,m.d.field,m.d.wire,m.d.want,m.d.utf,m.d.end_⟩:Dcd),m.out++[(⟨7,0,0,0,[],0,0⟩:Ev)]⟩:Mac):=?_;?_
 rotate_left
 refine⟨(sB ?_),(by rw[hm1]<;>rfl)⟩
 rotate_left
 refine⟨(E9 (⟨(⟨m.d.plan,1,List.take ((Int.toNat ((m.d.stack.length:Int)-1))-0) m.d.stack,m.d.scan,m.d.start,m.d.at_,m.d.field,m.d.wire,m.d.want,m.d.utf,m.d.end_⟩:Dcd),m.out⟩:Mac) (⟨8,0,0,0,[],0,0⟩:Ev) (by first|omega|rfl|(dsimp only;omega))),?_⟩
 refine have hm1:(Aq m).getD m=(⟨(⟨m.d.plan,1,List.take ((Int.toNat ((m.d.stack.length:Int)-1))-0) m.d.stack,m.d.scan,m.d.start,m.d.at_,m.d.field,m.d.wire,m.d.want,m.d.utf,m.d.end_⟩:Dcd),m.out++[(⟨8,0,0,0,[],0,0⟩:Ev)]⟩:Mac):=?_;?_
 rotate_left
 refine⟨(sB ?_),(by rw[hm1]<;>rfl)⟩
 rotate_left
 refine have hm1:(Aq m).getD m=m:=?_;?_
 rotate_left
 refine⟨(sB ?_),(by rw[hm1]<;>rfl)⟩
 rotate_left
 refine have hm1:(Aq m).getD m=m:=?_;?_
 rotate_left
 refine⟨(sB ?_),(by rw[hm1]<;>rfl)⟩
 rotate_left
 refine have hm1:(Aq m).getD m=m:=?_;?_
 rotate_left
 refine⟨(sB ?_),(by rw[hm1]<;>rfl)⟩
 rotate_left
 refine dsp (fun h5 p5=>?_) fun h5 p5=>?_
 refine⟨h4,?_⟩
 refine have hm1:(Aq m).getD m=m:=?_;?_
 rotate_left
 refine⟨(sB ?_),(by rw[hm1]<;>rfl)⟩
 rotate_left
 refine have hm1:(Aq m).getD m=m:=?_;?_
 rotate_left
 refine⟨(sB ?_),(by rw[hm1]<;>rfl)⟩
 rotate_left
 refine dsp (fun h4 p4=>?_) fun h4 p4=>?_
 refine dsp (fun h5 p5=>?_) fun h5 p5=>?_
 refine dsp (fun h6 p6=>?_) fun h6 p6=>?_
 refine⟨(Dz m.d (by omega)),dsp (fun h7 p7=>?_) fun h7 p7=>?_⟩
 refine⟨(Ah (by omega) (by omega)),(Ah (by omega) (by omega)),(by omega),(by omega),(by omega),(by omega),dsp (fun h8 p8=>?_) fun h8 p8=>?_⟩
 refine⟨(E9 (⟨(⟨m.d.plan,m.d.mode,List.take ((Int.toNat ((m.d.stack.length:Int)-1))-0) m.d.stack,m.d.scan,m.d.start,m.d.at_,m.d.field,m.d.wire,m.d.want,m.d.utf,m.d.end_⟩:Dcd),m.out⟩:Mac) (⟨7,0,0,0,[],0,0⟩:Ev) (by first|omega|rfl|(dsimp only;omega))),?_⟩
 refine have hm1:(Aq m).getD m=(⟨(⟨m.d.plan,m.d.mode,List.take ((Int.toNat ((m.d.stack.length:Int)-1))-0) m.d.stack,m.d.scan,m.d.start,m.d.at_,m.d.field,m.d.wire,m.d.want,m.d.utf,m.d.end_⟩:Dcd),m.out++[(⟨7,0,0,0,[],0,0⟩:Ev)]⟩:Mac):=?_;?_
 rotate_left
 refine⟨(sB ?_),(by rw[hm1]<;>rfl)⟩
 rotate_left
 refine⟨(E9 (⟨(⟨m.d.plan,1,List.take ((Int.toNat ((m.d.stack.length:Int)-1))-0) m.d.stack,m.d.scan,m.d.start,m.d.at_,m.d.field,m.d.wire,m.d.want,m.d.utf,m.d.end_⟩:Dcd),m.out⟩:Mac) (⟨8,0,0,0,[],0,0⟩:Ev) (by first|omega|rfl|(dsimp only;omega))),?_⟩
 refine have hm1:(Aq m).getD m=(⟨(⟨m.d.plan,1,List.take ((Int.toNat ((m.d.stack.length:Int)-1))-0) m.d.stack,m.d.scan,m.d.start,m.d.at_,m.d.field,m.d.wire,m.d.want,m.d.utf,m.d.end_⟩:Dcd),m.out++[(⟨8,0,0,0,[],0,0⟩:Ev)]⟩:Mac):=?_;?_
 rotate_left
 refine⟨(sB ?_),(by rw[hm1]<;>rfl)⟩
 rotate_left
 refine have hm1:(Aq m).getD m=m:=?_;?_
 rotate_left
 refine⟨(sB ?_),(by rw[hm1]<;>rfl)⟩
 rotate_left
 refine have hm1:(Aq m).getD m=m:=?_;?_
 rotate_left
 refine⟨(sB ?_),(by rw[hm1]<;>rfl)⟩
 rotate_left
 refine have hm1:(Aq m).getD m=m:=?_;?_
 rotate_left
 refine⟨(sB ?_),(by rw[hm1]<;>rfl)⟩
 rotate_left
 refine have hm1:(Aq m).getD m=m:=?_;?_
 rotate_left
 refine⟨(sB ?_),(by rw[hm1]<;>rfl)⟩
 rotate_left
 all_goals first|(simp_all[Aq,As,Au,Hp,Wg,Du,utf0];done)|(grind[Aq,As,Au,Hp,Wg,Du,utf0])
structure Lv where
 m:Mac
def Lw (m:Mac):Fam:=⟨Lv,fun q1=>[(0,.v (vP 0))],fun q1=>[.cells (Ab 4 5 6 q1.m),.dead,.dead,.dead,.tree q1.m.d.plan.shapes,.lst .lev q1.m.d.stack,.lst .ev q1.m.out],fun q1=>Ad q1.m=Ad m∧List.length (q1.m).out+wM q1.m≤m.out.length+wM m∧List.length (q1.m).d.stack≤m.d.stack.length,fun q1=>wM q1.m⟩
theorem D3 (m:Mac) (hp1:A5 (m).d=true) (hp2:List.length (m).out≤100000100):Fun Tryz.prog 199 [vP 0] [.cells (Ab 1 2 3 m),.tree m.d.plan.shapes,.lst .lev m.d.stack,.lst .ev m.out] (.tup []) [.cells (Ab 4 5 6 (Ad m)),.dead,.dead,.dead,.tree (Ad m).d.plan.shapes,.lst .lev (Ad m).d.stack,.lst .ev (Ad m).out]:=by
 have hN:bigN=274877906944:=rfl
 have hlv:=Bs hp1
 have hpt:=By hlv.1
 have htb:=Gm hp1
 have hwm:=Acc m
 refine Af Tryz.func199 (by kernel_rfl) (by kernel_rfl) (w:=let z4:=Lw m;(.seg [.call [] (.v (vB (A5 m.d))) [],.br false,.at 0,.cut 0 0,.cut 0 5,.cut 0 27,.keep [0],.sel [0,1,2,3,4,5,6]] (.loop z4 fun q1=>let z1:=(Aq q1.m).getD q1.m;.seg [.call [0,4,5,6] (.v (vB (Aq q1.m).isSome)) [.cells (Ab 1 4 5 z1),.tree z1.d.plan.shapes,.dead,.dead,.lst .lev z1.d.stack,.lst .ev z1.out]] (.br (.seg [.at 0,.keep [0],.sel [0,1,2,3,4,7,8]] (.next)) (.leaf () [0,1,2,3,4,7,8]))),(Fun Tryz.prog 174 [.agg (Bi m.d)] [] (.v (vB (A5 m.d))) [])∧((!(A5 m.d))=false)∧z4.Has [(0,.v (vP 0))] [.cells (Ab 4 5 6 m),.dead,.dead,.dead,.tree m.d.plan.shapes,.lst .lev m.d.stack,.lst .ev m.out]∧∀q1,z4.inv q1→(let z3:=Aq q1.m;let z2:=z3.getD q1.m;(Fun Tryz.prog 224 [vP 0] [.cells (Ab 1 2 3 q1.m),.tree q1.m.d.plan.shapes,.lst .lev q1.m.d.stack,.lst .ev q1.m.out] (.v (vB z3.isSome)) [.cells (Ab 1 4 5 z2),.tree z2.d.plan.shapes,.dead,.dead,.lst .lev z2.d.stack,.lst .ev z2.out])∧(z3.isSome=true→z4.Nxt q1 [(0,.v (vP 0))] [.cells (Ab 4 5 6 z2),.dead,.dead,.dead,.tree z2.d.plan.shapes,.lst .lev z2.d.stack,.lst .ev z2.out])∧(z3.isSome=false→(.tup []:S)= .tup []∧([.cells (Ab 4 5 6 z2),.dead,.dead,.dead,.tree z2.d.plan.shapes,.lst .lev z2.d.stack,.lst .ev z2.out]:List Blk)=[.cells (Ab 4 5 6 (Ad m)),.dead,.dead,.dead,.tree (Ad m).d.plan.shapes,.lst .lev (Ad m).d.stack,.lst .ev (Ad m).out])))) (by kernel_rfl) ?_
 refine⟨(Uq m.d (by omega) (by omega)),(by simp[hp1]),Bc (j:=(⟨m⟩:Lv)) rfl rfl (by dsimp only[Lw];exact⟨rfl,Nat.le_refl _,Nat.le_refl _⟩),fun (q1:Lv) hq_q1=>?_⟩
 have hi_q1:Ad q1.m=Ad m∧List.length (q1.m).out+wM q1.m≤m.out.length+wM m∧List.length (q1.m).d.stack≤m.d.stack.length:=hq_q1
 obtain ⟨v1,v2,v3⟩:=hi_q1
 refine⟨(Ah2 q1.m (by omega) (by omega)),fun h1=>?_,fun h1=>?_⟩
 obtain ⟨q,hq⟩:=Option.isSome_iff_exists.1 h1
 have hg:(Aq q1.m).getD q1.m=q:=by rw[hq];rfl
 exact Bm (j:=(⟨((Aq q1.m).getD q1.m)⟩:Lv)) rfl rfl (by dsimp only[Lw];exact⟨by rw[hg,←v1];exact(Bu hq).symm,by rw[hg];have:=Bg hq;omega,by rw[hg];have:=(D8 hq).1;omega⟩) (by dsimp only[Lw];rw[hg];exact(Bg hq).1)
 have hz:Aq q1.m=none:=by simpa using h1
 have hg:(Aq q1.m).getD q1.m=q1.m:=by rw[hz];rfl
 have hst:Ad m=q1.m:=by rw[←v1,Bv hz]
 refine have hm1:Ad m=((Aq q1.m).getD q1.m):=?_;?_
 rotate_left
 exact⟨rfl,(by rw[hm1]<;>rfl)⟩
 all_goals first|((rw[hst,hg];done))|((rw[hst];done))|(grind)
theorem Aec (m:Mac) (u:Int) (hp1:A5 (m).d=true) (hp2:List.length (m).out≤100000000) (hp3:(0:Int)≤u∧u≤18446744073709551615):Fun Tryz.prog 229 [vP 0,.c (.int .u64 u)] [.cells (Ab 1 2 3 m),.tree m.d.plan.shapes,.lst .lev m.d.stack,.lst .ev m.out] (.tup []) [.cells (Ab 4 5 6 (Cj m u)),.dead,.dead,.dead,.tree (Cj m u).d.plan.shapes,.lst .lev (Cj m u).d.stack,.lst .ev (Cj m u).out]:=by
 have hN:bigN=274877906944:=rfl
 have hlv:=Bs hp1
 have hpt:=By hlv.1
 have htb:=Gm hp1
 have hwm:=Acc m
 refine Af Tryz.func229 (by kernel_rfl) (by kernel_rfl) (w:=let zi:Int→C:= .int .i64;let z1:List C:=[.own 2,.int .u64 0,zi 0,zi m.d.start,zi m.d.at_,zi m.d.field.number,zi m.d.field.kind,.bool m.d.field.rep,.bool m.d.field.packed,zi m.d.field.msg,zi m.d.wire,zi m.d.want,zi m.d.utf.want,zi m.d.utf.low,zi m.d.utf.high,zi m.d.end_.kind,zi m.d.end_.field,.int .u64 m.d.end_.bits,zi m.d.end_.len,.str m.d.end_.text,zi m.d.end_.code,zi m.d.end_.at_,.own 3];let z2:List C:=[.own 1,zi m.d.plan.root,zi m.d.plan.deep,zi m.d.plan.most,zi m.d.mode,.own 2,.int .u64 0,zi 0,zi m.d.start,zi m.d.at_,zi m.d.field.number,zi m.d.field.kind,.bool m.d.field.rep,.bool m.d.field.packed,zi m.d.field.msg,zi m.d.wire,zi m.d.want,zi m.d.utf.want,zi m.d.utf.low,zi m.d.utf.high,zi m.d.end_.kind,zi m.d.end_.field,.int .u64 m.d.end_.bits,zi m.d.end_.len,.str m.d.end_.text,zi m.d.end_.code,zi m.d.end_.at_,.own 4];let z4:=As (⟨(⟨m.d.plan,m.d.mode,m.d.stack,(⟨0,0⟩:Scn),m.d.start,m.d.at_,m.d.field,m.d.wire,m.d.want,m.d.utf,m.d.end_⟩:Dcd),m.out⟩:Mac) 7 m.d.start;let z6:List Blk:=[.cells (.own 1::zi m.d.plan.root::zi m.d.plan.deep::zi m.d.plan.most::zi m.d.mode::z1),.tree m.d.plan.shapes,.lst .lev m.d.stack,.lst .ev m.out];let z7:List Blk:=[.cells (Ab 4 5 6 (Cj m u)),.dead,.dead,.dead,.tree (Cj m u).d.plan.shapes,.lst .lev (Cj m u).d.stack,.lst .ev (Cj m u).out];let z9:List Blk:=[.cells (Ab 1 2 4 z4),.tree z4.d.plan.shapes,.lst .lev z4.d.stack,.dead,.lst .ev z4.out];let z10:=(⟨1,0,0,u,[],0,0⟩:Ev);let z3:=Ad (⟨(⟨m.d.plan,2,[(⟨m.d.plan.root,u⟩:Lev)],(⟨0,0⟩:Scn),m.d.start,m.d.at_,m.d.field,m.d.wire,m.d.want,m.d.utf,m.d.end_⟩:Dcd),m.out++[z10]⟩:Mac);let z5:List Blk:=[.cells (Ab 4 5 6 z3),.dead,.dead,.dead,.tree z3.d.plan.shapes,.lst .lev z3.d.stack,.lst .ev z3.out];let z8:List Blk:=[.cells z2,.tree m.d.plan.shapes,.lst .lev m.d.stack,.dead,.lst .ev (m.out++[z10])];let z11:=(.v (vI (IntKind.i64.wrap (u))):S)= .v (vI u);(.seg [.as 16 (.v (.c (.int .u64 m.d.plan.most)))] (.br (.seg [.call [0,1,2,3] (.tup []) z9,.at 0,.cut 0 0,.cut 0 5] (.leaf () [0,1,2,3,5,6,4])) (.seg [.as 27 (.v (vI u)),.call [0,1,2,3] (.tup []) z8,.as 39 (.v (vI u)),.ty .lev,.call [0,1,5,4] (.tup []) z5,.at 0,.kill 2] (.leaf () [0,1,2,3,6,7,8]))),((.v (.c (.int .u64 (IntKind.u64.wrap (m.d.plan.most)))):S)= .v (.c (.int .u64 m.d.plan.most)))∧((decide (m.d.plan.most<u))=true→(Fun Tryz.prog 219 [vP 0,vI 7,vI m.d.start] z6 (.tup []) z9)∧(.tup []:S)= .tup []∧([.cells (Ab 4 5 6 z4),.dead,.dead,.dead,.tree z4.d.plan.shapes,.lst .lev z4.d.stack,.lst .ev z4.out]:List Blk)=z7)∧((decide (m.d.plan.most<u))=false→z11∧(Fun Tryz.prog 218 [vP 0,.agg [zi 1,zi 0,.int .u64 0,zi u,.str [],zi 0,zi 0]] z6 (.tup []) z8)∧z11∧(Fun Tryz.prog 199 [vP 0] [.cells (.own 1::zi m.d.plan.root::zi m.d.plan.deep::zi m.d.plan.most::zi 2::z1),.tree m.d.plan.shapes,.lst .lev [(⟨m.d.plan.root,u⟩:Lev)],.lst .ev (m.out++[z10])] (.tup []) z5)∧(.tup []:S)= .tup []∧(z5:List Blk)=z7))) (by kernel_rfl) ?_
 refine⟨(Dx (by omega) (by omega)),dsp (fun h1 p1=>?_) fun h1 p1=>?_⟩
 refine⟨(B2 (⟨(⟨m.d.plan,m.d.mode,m.d.stack,(⟨0,0⟩:Scn),m.d.start,m.d.at_,m.d.field,m.d.wire,m.d.want,m.d.utf,m.d.end_⟩:Dcd),m.out⟩:Mac) _ _ (by first|omega|rfl|(dsimp only;omega))),?_⟩
 refine have hm1:Cj m u=(As (⟨(⟨m.d.plan,m.d.mode,m.d.stack,(⟨0,0⟩:Scn),m.d.start,m.d.at_,m.d.field,m.d.wire,m.d.want,m.d.utf,m.d.end_⟩:Dcd),m.out⟩:Mac) 7 m.d.start):=?_;?_
 rotate_left
 exact⟨rfl,(by rw[hm1]<;>rfl)⟩
 refine⟨(Ah (by omega) (by omega)),(E9 (⟨(⟨m.d.plan,m.d.mode,m.d.stack,(⟨0,0⟩:Scn),m.d.start,m.d.at_,m.d.field,m.d.wire,m.d.want,m.d.utf,m.d.end_⟩:Dcd),m.out⟩:Mac) (⟨1,0,0,u,[],0,0⟩:Ev) (by first|omega|rfl|(dsimp only;omega))),(Ah (by omega) (by omega)),(D3 (⟨(⟨m.d.plan,2,[(⟨m.d.plan.root,u⟩:Lev)],(⟨0,0⟩:Scn),m.d.start,m.d.at_,m.d.field,m.d.wire,m.d.want,m.d.utf,m.d.end_⟩:Dcd),m.out++[(⟨1,0,0,u,[],0,0⟩:Ev)]⟩:Mac) (Nd hp1 rfl rfl hp3.1 (by omega)) (by simp only[List.length_append,List.length_cons,List.length_nil,List.length_set,List.length_take];omega)),?_⟩
 refine have hm1:Cj m u=(Ad (⟨(⟨m.d.plan,2,[(⟨m.d.plan.root,u⟩:Lev)],(⟨0,0⟩:Scn),m.d.start,m.d.at_,m.d.field,m.d.wire,m.d.want,m.d.utf,m.d.end_⟩:Dcd),m.out++[(⟨1,0,0,u,[],0,0⟩:Ev)]⟩:Mac)):=?_;?_
 rotate_left
 exact⟨rfl,(by rw[hm1]<;>rfl)⟩
 all_goals first|(simp_all[Cj,As,Au,Add,scn0];done)|(grind[Cj,As,Au,Add,scn0])
theorem Ai4 (m:Mac) (u:Int) (hp1:A5 (m).d=true) (hp2:List.length (m).out≤100000000) (hp3:(0:Int)≤u∧u≤18446744073709551615):Fun Tryz.prog 230 [vP 0,.c (.int .u64 u)] [.cells (Ab 1 2 3 m),.tree m.d.plan.shapes,.lst .lev m.d.stack,.lst .ev m.out] (.tup []) [.cells (Ab 4 5 6 (D5 m u)),.dead,.dead,.dead,.tree (D5 m u).d.plan.shapes,.lst .lev (D5 m u).d.stack,.lst .ev (D5 m u).out]:=by
 have hN:bigN=274877906944:=rfl
 have hlv:=Bs hp1
 have hpt:=By hlv.1
 have htb:=Gm hp1
 have hwm:=Acc m
 have htw:=Ag0 u
 have hmx:max (Aw (Ag u)) 1=if 1>Aw (Ag u) then 1 else Aw (Ag u):=by split<;>omega
 refine Af Tryz.func230 (by kernel_rfl) (by kernel_rfl) (w:=let zi:Int→C:= .int .i64;let z9:List C:=[zi m.d.want,zi m.d.utf.want,zi m.d.utf.low,zi m.d.utf.high,zi m.d.end_.kind,zi m.d.end_.field,.int .u64 m.d.end_.bits,zi m.d.end_.len,.str m.d.end_.text,zi m.d.end_.code,zi m.d.end_.at_,.own 3];let z8:List C:= .own 1::zi m.d.plan.root::zi m.d.plan.deep::zi m.d.plan.most::zi m.d.mode:: .own 2:: .int .u64 0::zi 0::zi m.d.start::zi m.d.at_::zi m.d.field.number::zi m.d.field.kind:: .bool m.d.field.rep:: .bool m.d.field.packed::zi m.d.field.msg::zi m.d.wire::z9;let z13:List Blk:=[.cells (Ab 4 5 6 (D5 m u)),.dead,.dead,.dead,.tree (D5 m u).d.plan.shapes,.lst .lev (D5 m u).d.stack,.lst .ev (D5 m u).out];let z16:=(⟨0,0⟩:Scn);let z12:=(⟨m.d.plan,m.d.mode,m.d.stack,z16,m.d.start,m.d.at_,m.d.field,m.d.wire,m.d.want,m.d.utf,m.d.end_⟩:Dcd);let z15:=As (⟨z12,m.out⟩:Mac) 2 m.d.start;let z17:=(m.d.stack.length:Int);let z18:=As (⟨z12,m.out⟩:Mac) 3 m.d.start;let z19:=As (⟨z12,m.out⟩:Mac) 4 m.d.start;let z20:=Ag u;let z10:List C:=[zi z20,zi m.d.want,zi m.d.utf.want,zi m.d.utf.low,zi m.d.utf.high,zi m.d.end_.kind,zi m.d.end_.field,.int .u64 m.d.end_.bits,zi m.d.end_.len,.str m.d.end_.text,zi m.d.end_.code,zi m.d.end_.at_,.own 6];let z11:List C:=[zi z20,zi m.d.want,zi m.d.utf.want,zi m.d.utf.low,zi m.d.utf.high,zi m.d.end_.kind,zi m.d.end_.field,.int .u64 m.d.end_.bits,zi m.d.end_.len,.str m.d.end_.text,zi m.d.end_.code,zi m.d.end_.at_];let z14:=decide (Dm m.d<(if 1>(Aw z20) then 1 else Aw z20));let z21:List Blk:=[.cells (Ab 1 2 4 z15),.tree z15.d.plan.shapes,.lst .lev z15.d.stack,.dead,.lst .ev z15.out];let z22:List Blk:=[.cells z8,.tree m.d.plan.shapes,.lst .lev m.d.stack,.lst .ev m.out];let z23:=vI (Aw z20);let z24:=(.tup []:S);let z25:=vI (Dm m.d);let z26:=([.cells (Ab 4 5 6 z15),.dead,.dead,.dead,.tree z15.d.plan.shapes,.lst .lev z15.d.stack,.lst .ev z15.out]:List Blk);let z27:List V:=[vP 0,vI 9,vI m.d.at_];let z28:List Blk:=[.cells (Ab 1 2 4 z18),.tree z18.d.plan.shapes,.lst .lev z18.d.stack,.dead,.lst .ev z18.out];let z29:List Blk:=[.cells (Ab 1 2 4 z19),.tree z19.d.plan.shapes,.lst .lev z19.d.stack,.dead,.lst .ev z19.out];let z30:=decide (Ag u=0);let z31:=decide (Ag u=2);let z32:=(.v (vI (IntKind.i64.wrap (z17-1))):S)= .v (vI (z17-1));let z33:=Bp u;(.seg [.call [] (.tup [vI z33,vI z20,vB (J5 u)]) []] (.br (.seg [.call [0,1,2,3] (.tup []) z21,.at 0,.cut 0 0,.cut 0 5] (.leaf () [0,1,2,3,5,6,4])) (.br (.seg [.call [0,1,2,3] (.tup []) z21,.at 0,.cut 0 0,.cut 0 5] (.leaf () [0,1,2,3,5,6,4])) (.intro (fun (x1:Lev)=>m.d.stack[Int.toNat (z17-1)]? =some x1) fun x1=>let z4:=fieldAt m.d.plan.shapes x1.msg z33;let z1:=As (⟨(⟨m.d.plan,3,m.d.stack,z16,m.d.start,m.d.at_,(z4.getD fld0),Ag u,m.d.want,m.d.utf,m.d.end_⟩:Dcd),m.out⟩:Mac) 9 m.d.at_;let z2:=As (⟨(⟨m.d.plan,4,m.d.stack,z16,m.d.start,m.d.at_,(z4.getD fld0),Ag u,m.d.want,m.d.utf,m.d.end_⟩:Dcd),m.out⟩:Mac) 9 m.d.at_;let z3:=As (⟨(⟨m.d.plan,5,m.d.stack,z16,m.d.start,m.d.at_,(z4.getD fld0),Ag u,m.d.want,m.d.utf,m.d.end_⟩:Dcd),m.out⟩:Mac) 9 m.d.at_;.seg [.tree (fr (.two 22 (fr (.one 26 (.one 27 (.first 28 (.done)))) 23 3) 26 (.one 22 (fr (.one 27 (.first 28 (.done))) 23 3))) 0 22) 29 [],.as 56 (.v (vI (z17-1))),.el .lev x1,.call [] (.tup [.agg (Fd (z4.getD fld0)),vB z4.isSome]) [],.at 0,.keep [0,5,7,8],.sel [0,1,2,3,4],.call [] (.tup [.agg (Fd (z4.getD fld0)),vB z4.isSome]) [],.at 0,.keep [0,5,7,8],.sel [0,1,2,3,4],.call [] (.v (vB (C4 z20))) []] (.br (.seg [.call [0,1,2,3] (.tup []) z28,.at 0,.cut 0 0,.cut 0 5] (.leaf () [0,1,2,3,6,7,5])) (.br (.seg [.call [] (.v (vB (Cx (z4.getD fld0) z20))) []] (.br (.seg [.call [0,1,2,3] (.tup []) z29,.at 0,.cut 0 0,.cut 0 5] (.leaf () [0,1,2,3,6,7,5])) (.br (.seg [.call [] (.v z25) [],.call [] (.v z23) []] (.br (.seg [.call [0,1,2,3] (.tup []) [.cells (Ab 1 2 4 z1),.tree z1.d.plan.shapes,.lst .lev z1.d.stack,.dead,.lst .ev z1.out],.at 0,.cut 0 0,.cut 0 5] (.leaf () [0,1,2,3,6,7,5])) (.seg [.at 0,.cut 0 0,.cut 0 5,.cut 0 27] (.leaf () [0,1,2,3,5,6,7])))) (.br (.seg [.call [] (.v z25) [],.call [] (.v z23) []] (.br (.seg [.call [0,1,2,3] (.tup []) [.cells (Ab 1 2 4 z2),.tree z2.d.plan.shapes,.lst .lev z2.d.stack,.dead,.lst .ev z2.out],.at 0,.cut 0 0,.cut 0 5] (.leaf () [0,1,2,3,6,7,5])) (.seg [.at 0,.cut 0 0,.cut 0 5,.cut 0 27] (.leaf () [0,1,2,3,5,6,7])))) (.seg [.call [] (.v z25) [],.call [] (.v z23) []] (.br (.seg [.call [0,1,2,3] (.tup []) [.cells (Ab 1 2 4 z3),.tree z3.d.plan.shapes,.lst .lev z3.d.stack,.dead,.lst .ev z3.out],.at 0,.cut 0 0,.cut 0 5] (.leaf () [0,1,2,3,6,7,5])) (.seg [.at 0,.cut 0 0,.cut 0 5,.cut 0 27] (.leaf () [0,1,2,3,5,6,7])))))))) (.br (.seg [.call [] (.v z25) [],.call [] (.v z23) []] (.br (.seg [.call [0,1,2,3] (.tup []) [.cells (Ab 1 2 4 z1),.tree z1.d.plan.shapes,.lst .lev z1.d.stack,.dead,.lst .ev z1.out],.at 0,.cut 0 0,.cut 0 5] (.leaf () [0,1,2,3,6,7,5])) (.seg [.at 0,.cut 0 0,.cut 0 5,.cut 0 27] (.leaf () [0,1,2,3,5,6,7])))) (.br (.seg [.call [] (.v z25) [],.call [] (.v z23) []] (.br (.seg [.call [0,1,2,3] (.tup []) [.cells (Ab 1 2 4 z2),.tree z2.d.plan.shapes,.lst .lev z2.d.stack,.dead,.lst .ev z2.out],.at 0,.cut 0 0,.cut 0 5] (.leaf () [0,1,2,3,6,7,5])) (.seg [.at 0,.cut 0 0,.cut 0 5,.cut 0 27] (.leaf () [0,1,2,3,5,6,7])))) (.seg [.call [] (.v z25) [],.call [] (.v z23) []] (.br (.seg [.call [0,1,2,3] (.tup []) [.cells (Ab 1 2 4 z3),.tree z3.d.plan.shapes,.lst .lev z3.d.stack,.dead,.lst .ev z3.out],.at 0,.cut 0 0,.cut 0 5] (.leaf () [0,1,2,3,6,7,5])) (.seg [.at 0,.cut 0 0,.cut 0 5,.cut 0 27] (.leaf () [0,1,2,3,5,6,7]))))))))))),(Fun Tryz.prog 241 [.c (.int .u64 u)] [] (.tup [vI z33,vI z20,vB (J5 u)]) [])∧((!(J5 u))=true→(Fun Tryz.prog 219 [vP 0,vI 2,vI m.d.start] z22 (.tup []) z21)∧z24= .tup []∧z26=z13)∧((!(J5 u))=false→((decide (z17=0))=true→(Fun Tryz.prog 219 [vP 0,vI 2,vI m.d.start] z22 (.tup []) z21)∧z24= .tup []∧z26=z13)∧((decide (z17=0))=false→(∃(x1:Lev),m.d.stack[Int.toNat (z17-1)]? =some x1)∧∀(x1:Lev),(m.d.stack[Int.toNat (z17-1)]? =some x1)→(let z6:=fieldAt m.d.plan.shapes x1.msg z33;let z5:=z6.getD fld0;let z7:=m.d.stack[Int.toNat (z17-1)]? =some x1;z32∧z32∧(z17-1<z17)∧((0:Int)≤z17-1)∧(z17-1<z17)∧((0:Int)≤z17-1)∧z7∧z7∧(Fun Tryz.prog 209 [.agg [.seq .shp m.d.plan.shapes],vI x1.msg,vI z33] [] (.tup [.agg (Fd z5),vB z6.isSome]) [])∧(Fun Tryz.prog 209 [.agg [.seq .shp m.d.plan.shapes],vI x1.msg,vI z33] [] (.tup [.agg (Fd z5),vB z6.isSome]) [])∧(([.cells z8,.tree m.d.plan.shapes,.lst .lev m.d.stack,.lst .ev m.out,.cells (Fd z5)]:List Blk)=[.cells z8,.tree m.d.plan.shapes,.lst .lev m.d.stack,.lst .ev m.out,.cells (Fd z5)])∧(([(0,.v (vP 0)),(5,.v (vI z20)),(7,.v (vP 4)),(8,.v (vB z6.isSome))]:List (Nat×S))=[(0,.v (vP 0)),(5,.v (vI z20)),(7,.v (vP 4)),(8,.v (vB z6.isSome))])∧(Fun Tryz.prog 176 [vI z20] [] (.v (vB (C4 z20))) [])∧((!(C4 z20))=true→(Fun Tryz.prog 219 [vP 0,vI 3,vI m.d.start] z22 (.tup []) z28)∧z24= .tup []∧([.cells (Ab 4 5 6 z18),.dead,.dead,.dead,.tree z18.d.plan.shapes,.lst .lev z18.d.stack,.lst .ev z18.out]:List Blk)=z13)∧((!(C4 z20))=false→(z6.isSome=true→(Fun Tryz.prog 214 [.agg (Fd z5),vI z20] [] (.v (vB (Cx z5 z20))) [])∧((!(Cx z5 z20))=true→(Fun Tryz.prog 219 [vP 0,vI 4,vI m.d.start] z22 (.tup []) z29)∧z24= .tup []∧([.cells (Ab 4 5 6 z19),.dead,.dead,.dead,.tree z19.d.plan.shapes,.lst .lev z19.d.stack,.lst .ev z19.out]:List Blk)=z13)∧((!(Cx z5 z20))=false→(z30=true→(Fun Tryz.prog 179 [.agg (.seq .shp m.d.plan.shapes::zi m.d.plan.root::zi m.d.plan.deep::zi m.d.plan.most::zi 3:: .seq .lev m.d.stack:: .int .u64 0::zi 0::zi m.d.start::zi m.d.at_::zi z5.number::zi z5.kind:: .bool z5.rep:: .bool z5.packed::zi z5.msg::z11)] [] (.v z25) [])∧(Fun Tryz.prog 215 [vI z20] [] (.v z23) [])∧(z14=true→(Fun Tryz.prog 219 z27 [.cells (.own 1::zi m.d.plan.root::zi m.d.plan.deep::zi m.d.plan.most::zi 3:: .own 2:: .int .u64 0::zi 0::zi m.d.start::zi m.d.at_::zi z5.number::zi z5.kind:: .bool z5.rep:: .bool z5.packed::zi z5.msg::zi z20::z9),.tree m.d.plan.shapes,.lst .lev m.d.stack,.lst .ev m.out] (.tup []) [.cells (Ab 1 2 4 (As (⟨(⟨m.d.plan,3,m.d.stack,z16,m.d.start,m.d.at_,z5,Ag u,m.d.want,m.d.utf,m.d.end_⟩:Dcd),m.out⟩:Mac) 9 m.d.at_)),.tree (As (⟨(⟨m.d.plan,3,m.d.stack,z16,m.d.start,m.d.at_,z5,Ag u,m.d.want,m.d.utf,m.d.end_⟩:Dcd),m.out⟩:Mac) 9 m.d.at_).d.plan.shapes,.lst .lev (As (⟨(⟨m.d.plan,3,m.d.stack,z16,m.d.start,m.d.at_,z5,Ag u,m.d.want,m.d.utf,m.d.end_⟩:Dcd),m.out⟩:Mac) 9 m.d.at_).d.stack,.dead,.lst .ev (As (⟨(⟨m.d.plan,3,m.d.stack,z16,m.d.start,m.d.at_,z5,Ag u,m.d.want,m.d.utf,m.d.end_⟩:Dcd),m.out⟩:Mac) 9 m.d.at_).out])∧z24= .tup []∧([.cells (Ab 4 5 6 (As (⟨(⟨m.d.plan,3,m.d.stack,z16,m.d.start,m.d.at_,z5,Ag u,m.d.want,m.d.utf,m.d.end_⟩:Dcd),m.out⟩:Mac) 9 m.d.at_)),.dead,.dead,.dead,.tree (As (⟨(⟨m.d.plan,3,m.d.stack,z16,m.d.start,m.d.at_,z5,Ag u,m.d.want,m.d.utf,m.d.end_⟩:Dcd),m.out⟩:Mac) 9 m.d.at_).d.plan.shapes,.lst .lev (As (⟨(⟨m.d.plan,3,m.d.stack,z16,m.d.start,m.d.at_,z5,Ag u,m.d.want,m.d.utf,m.d.end_⟩:Dcd),m.out⟩:Mac) 9 m.d.at_).d.stack,.lst .ev (As (⟨(⟨m.d.plan,3,m.d.stack,z16,m.d.start,m.d.at_,z5,Ag u,m.d.want,m.d.utf,m.d.end_⟩:Dcd),m.out⟩:Mac) 9 m.d.at_).out]:List Blk)=z13)∧(z14=false→z24= .tup []∧([.cells (.own 4::zi m.d.plan.root::zi m.d.plan.deep::zi m.d.plan.most::zi 3:: .own 5:: .int .u64 0::zi 0::zi m.d.start::zi m.d.at_::zi z5.number::zi z5.kind:: .bool z5.rep:: .bool z5.packed::zi z5.msg::z10),.dead,.dead,.dead,.tree m.d.plan.shapes,.lst .lev m.d.stack,.lst .ev m.out]:List Blk)=z13))∧(z30=false→(z31=true→(Fun Tryz.prog 179 [.agg (.seq .shp m.d.plan.shapes::zi m.d.plan.root::zi m.d.plan.deep::zi m.d.plan.most::zi 4:: .seq .lev m.d.stack:: .int .u64 0::zi 0::zi m.d.start::zi m.d.at_::zi z5.number::zi z5.kind:: .bool z5.rep:: .bool z5.packed::zi z5.msg::z11)] [] (.v z25) [])∧(Fun Tryz.prog 215 [vI z20] [] (.v z23) [])∧(z14=true→(Fun Tryz.prog 219 z27 [.cells (.own 1::zi m.d.plan.root::zi m.d.plan.deep::zi m.d.plan.most::zi 4:: .own 2:: .int .u64 0::zi 0::zi m.d.start::zi m.d.at_::zi z5.number::zi z5.kind:: .bool z5.rep:: .bool z5.packed::zi z5.msg::zi z20::z9),.tree m.d.plan.shapes,.lst .lev m.d.stack,.lst .ev m.out] (.tup []) [.cells (Ab 1 2 4 (As (⟨(⟨m.d.plan,4,m.d.stack,z16,m.d.start,m.d.at_,z5,Ag u,m.d.want,m.d.utf,m.d.end_⟩:Dcd),m.out⟩:Mac) 9 m.d.at_)),.tree (As (⟨(⟨m.d.plan,4,m.d.stack,z16,m.d.start,m.d.at_,z5,Ag u,m.d.want,m.d.utf,m.d.end_⟩:Dcd),m.out⟩:Mac) 9 m.d.at_).d.plan.shapes,.lst .lev (As (⟨(⟨m.d.plan,4,m.d.stack,z16,m.d.start,m.d.at_,z5,Ag u,m.d.want,m.d.utf,m.d.end_⟩:Dcd),m.out⟩:Mac) 9 m.d.at_).d.stack,.dead,.lst .ev (As (⟨(⟨m.d.plan,4,m.d.stack,z16,m.d.start,m.d.at_,z5,Ag u,m.d.want,m.d.utf,m.d.end_⟩:Dcd),m.out⟩:Mac) 9 m.d.at_).out])∧z24= .tup []∧([.cells (Ab 4 5 6 (As (⟨(⟨m.d.plan,4,m.d.stack,z16,m.d.start,m.d.at_,z5,Ag u,m.d.want,m.d.utf,m.d.end_⟩:Dcd),m.out⟩:Mac) 9 m.d.at_)),.dead,.dead,.dead,.tree (As (⟨(⟨m.d.plan,4,m.d.stack,z16,m.d.start,m.d.at_,z5,Ag u,m.d.want,m.d.utf,m.d.end_⟩:Dcd),m.out⟩:Mac) 9 m.d.at_).d.plan.shapes,.lst .lev (As (⟨(⟨m.d.plan,4,m.d.stack,z16,m.d.start,m.d.at_,z5,Ag u,m.d.want,m.d.utf,m.d.end_⟩:Dcd),m.out⟩:Mac) 9 m.d.at_).d.stack,.lst .ev (As (⟨(⟨m.d.plan,4,m.d.stack,z16,m.d.start,m.d.at_,z5,Ag u,m.d.want,m.d.utf,m.d.end_⟩:Dcd),m.out⟩:Mac) 9 m.d.at_).out]:List Blk)=z13)∧(z14=false→z24= .tup []∧([.cells (.own 4::zi m.d.plan.root::zi m.d.plan.deep::zi m.d.plan.most::zi 4:: .own 5:: .int .u64 0::zi 0::zi m.d.start::zi m.d.at_::zi z5.number::zi z5.kind:: .bool z5.rep:: .bool z5.packed::zi z5.msg::z10),.dead,.dead,.dead,.tree m.d.plan.shapes,.lst .lev m.d.stack,.lst .ev m.out]:List Blk)=z13))∧(z31=false→(Fun Tryz.prog 179 [.agg (.seq .shp m.d.plan.shapes::zi m.d.plan.root::zi m.d.plan.deep::zi m.d.plan.most::zi 5:: .seq .lev m.d.stack:: .int .u64 0::zi 0::zi m.d.start::zi m.d.at_::zi z5.number::zi z5.kind:: .bool z5.rep:: .bool z5.packed::zi z5.msg::z11)] [] (.v z25) [])∧(Fun Tryz.prog 215 [vI z20] [] (.v z23) [])∧(z14=true→(Fun Tryz.prog 219 z27 [.cells (.own 1::zi m.d.plan.root::zi m.d.plan.deep::zi m.d.plan.most::zi 5:: .own 2:: .int .u64 0::zi 0::zi m.d.start::zi m.d.at_::zi z5.number::zi z5.kind:: .bool z5.rep:: .bool z5.packed::zi z5.msg::zi z20::z9),.tree m.d.plan.shapes,.lst .lev m.d.stack,.lst .ev m.out] (.tup []) [.cells (Ab 1 2 4 (As (⟨(⟨m.d.plan,5,m.d.stack,z16,m.d.start,m.d.at_,z5,Ag u,m.d.want,m.d.utf,m.d.end_⟩:Dcd),m.out⟩:Mac) 9 m.d.at_)),.tree (As (⟨(⟨m.d.plan,5,m.d.stack,z16,m.d.start,m.d.at_,z5,Ag u,m.d.want,m.d.utf,m.d.end_⟩:Dcd),m.out⟩:Mac) 9 m.d.at_).d.plan.shapes,.lst .lev (As (⟨(⟨m.d.plan,5,m.d.stack,z16,m.d.start,m.d.at_,z5,Ag u,m.d.want,m.d.utf,m.d.end_⟩:Dcd),m.out⟩:Mac) 9 m.d.at_).d.stack,.dead,.lst .ev (As (⟨(⟨m.d.plan,5,m.d.stack,z16,m.d.start,m.d.at_,z5,Ag u,m.d.want,m.d.utf,m.d.end_⟩:Dcd),m.out⟩:Mac) 9 m.d.at_).out])∧z24= .tup []∧([.cells (Ab 4 5 6 (As (⟨(⟨m.d.plan,5,m.d.stack,z16,m.d.start,m.d.at_,z5,Ag u,m.d.want,m.d.utf,m.d.end_⟩:Dcd),m.out⟩:Mac) 9 m.d.at_)),.dead,.dead,.dead,.tree (As (⟨(⟨m.d.plan,5,m.d.stack,z16,m.d.start,m.d.at_,z5,Ag u,m.d.want,m.d.utf,m.d.end_⟩:Dcd),m.out⟩:Mac) 9 m.d.at_).d.plan.shapes,.lst .lev (As (⟨(⟨m.d.plan,5,m.d.stack,z16,m.d.start,m.d.at_,z5,Ag u,m.d.want,m.d.utf,m.d.end_⟩:Dcd),m.out⟩:Mac) 9 m.d.at_).d.stack,.lst .ev (As (⟨(⟨m.d.plan,5,m.d.stack,z16,m.d.start,m.d.at_,z5,Ag u,m.d.want,m.d.utf,m.d.end_⟩:Dcd),m.out⟩:Mac) 9 m.d.at_).out]:List Blk)=z13)∧(z14=false→z24= .tup []∧([.cells (.own 4::zi m.d.plan.root::zi m.d.plan.deep::zi m.d.plan.most::zi 5:: .own 5:: .int .u64 0::zi 0::zi m.d.start::zi m.d.at_::zi z5.number::zi z5.kind:: .bool z5.rep:: .bool z5.packed::zi z5.msg::z10),.dead,.dead,.dead,.tree m.d.plan.shapes,.lst .lev m.d.stack,.lst .ev m.out]:List Blk)=z13)))))∧(z6.isSome=false→(z30=true→(Fun Tryz.prog 179 [.agg (.seq .shp m.d.plan.shapes::zi m.d.plan.root::zi m.d.plan.deep::zi m.d.plan.most::zi 3:: .seq .lev m.d.stack:: .int .u64 0::zi 0::zi m.d.start::zi m.d.at_::zi z5.number::zi z5.kind:: .bool z5.rep:: .bool z5.packed::zi z5.msg::z11)] [] (.v z25) [])∧(Fun Tryz.prog 215 [vI z20] [] (.v z23) [])∧(z14=true→(Fun Tryz.prog 219 z27 [.cells (.own 1::zi m.d.plan.root::zi m.d.plan.deep::zi m.d.plan.most::zi 3:: .own 2:: .int .u64 0::zi 0::zi m.d.start::zi m.d.at_::zi z5.number::zi z5.kind:: .bool z5.rep:: .bool z5.packed::zi z5.msg::zi z20::z9),.tree m.d.plan.shapes,.lst .lev m.d.stack,.lst .ev m.out] (.tup []) [.cells (Ab 1 2 4 (As (⟨(⟨m.d.plan,3,m.d.stack,z16,m.d.start,m.d.at_,z5,Ag u,m.d.want,m.d.utf,m.d.end_⟩:Dcd),m.out⟩:Mac) 9 m.d.at_)),.tree (As (⟨(⟨m.d.plan,3,m.d.stack,z16,m.d.start,m.d.at_,z5,Ag u,m.d.want,m.d.utf,m.d.end_⟩:Dcd),m.out⟩:Mac) 9 m.d.at_).d.plan.shapes,.lst .lev (As (⟨(⟨m.d.plan,3,m.d.stack,z16,m.d.start,m.d.at_,z5,Ag u,m.d.want,m.d.utf,m.d.end_⟩:Dcd),m.out⟩:Mac) 9 m.d.at_).d.stack,.dead,.lst .ev (As (⟨(⟨m.d.plan,3,m.d.stack,z16,m.d.start,m.d.at_,z5,Ag u,m.d.want,m.d.utf,m.d.end_⟩:Dcd),m.out⟩:Mac) 9 m.d.at_).out])∧z24= .tup []∧([.cells (Ab 4 5 6 (As (⟨(⟨m.d.plan,3,m.d.stack,z16,m.d.start,m.d.at_,z5,Ag u,m.d.want,m.d.utf,m.d.end_⟩:Dcd),m.out⟩:Mac) 9 m.d.at_)),.dead,.dead,.dead,.tree (As (⟨(⟨m.d.plan,3,m.d.stack,z16,m.d.start,m.d.at_,z5,Ag u,m.d.want,m.d.utf,m.d.end_⟩:Dcd),m.out⟩:Mac) 9 m.d.at_).d.plan.shapes,.lst .lev (As (⟨(⟨m.d.plan,3,m.d.stack,z16,m.d.start,m.d.at_,z5,Ag u,m.d.want,m.d.utf,m.d.end_⟩:Dcd),m.out⟩:Mac) 9 m.d.at_).d.stack,.lst .ev (As (⟨(⟨m.d.plan,3,m.d.stack,z16,m.d.start,m.d.at_,z5,Ag u,m.d.want,m.d.utf,m.d.end_⟩:Dcd),m.out⟩:Mac) 9 m.d.at_).out]:List Blk)=z13)∧(z14=false→z24= .tup []∧([.cells (.own 4::zi m.d.plan.root::zi m.d.plan.deep::zi m.d.plan.most::zi 3:: .own 5:: .int .u64 0::zi 0::zi m.d.start::zi m.d.at_::zi z5.number::zi z5.kind:: .bool z5.rep:: .bool z5.packed::zi z5.msg::z10),.dead,.dead,.dead,.tree m.d.plan.shapes,.lst .lev m.d.stack,.lst .ev m.out]:List Blk)=z13))∧(z30=false→(z31=true→(Fun Tryz.prog 179 [.agg (.seq .shp m.d.plan.shapes::zi m.d.plan.root::zi m.d.plan.deep::zi m.d.plan.most::zi 4:: .seq .lev m.d.stack:: .int .u64 0::zi 0::zi m.d.start::zi m.d.at_::zi z5.number::zi z5.kind:: .bool z5.rep:: .bool z5.packed::zi z5.msg::z11)] [] (.v z25) [])∧(Fun Tryz.prog 215 [vI z20] [] (.v z23) [])∧(z14=true→(Fun Tryz.prog 219 z27 [.cells (.own 1::zi m.d.plan.root::zi m.d.plan.deep::zi m.d.plan.most::zi 4:: .own 2:: .int .u64 0::zi 0::zi m.d.start::zi m.d.at_::zi z5.number::zi z5.kind:: .bool z5.rep:: .bool z5.packed::zi z5.msg::zi z20::z9),.tree m.d.plan.shapes,.lst .lev m.d.stack,.lst .ev m.out] (.tup []) [.cells (Ab 1 2 4 (As (⟨(⟨m.d.plan,4,m.d.stack,z16,m.d.start,m.d.at_,z5,Ag u,m.d.want,m.d.utf,m.d.end_⟩:Dcd),m.out⟩:Mac) 9 m.d.at_)),.tree (As (⟨(⟨m.d.plan,4,m.d.stack,z16,m.d.start,m.d.at_,z5,Ag u,m.d.want,m.d.utf,m.d.end_⟩:Dcd),m.out⟩:Mac) 9 m.d.at_).d.plan.shapes,.lst .lev (As (⟨(⟨m.d.plan,4,m.d.stack,z16,m.d.start,m.d.at_,z5,Ag u,m.d.want,m.d.utf,m.d.end_⟩:Dcd),m.out⟩:Mac) 9 m.d.at_).d.stack,.dead,.lst .ev (As (⟨(⟨m.d.plan,4,m.d.stack,z16,m.d.start,m.d.at_,z5,Ag u,m.d.want,m.d.utf,m.d.end_⟩:Dcd),m.out⟩:Mac) 9 m.d.at_).out])∧z24= .tup []∧([.cells (Ab 4 5 6 (As (⟨(⟨m.d.plan,4,m.d.stack,z16,m.d.start,m.d.at_,z5,Ag u,m.d.want,m.d.utf,m.d.end_⟩:Dcd),m.out⟩:Mac) 9 m.d.at_)),.dead,.dead,.dead,.tree (As (⟨(⟨m.d.plan,4,m.d.stack,z16,m.d.start,m.d.at_,z5,Ag u,m.d.want,m.d.utf,m.d.end_⟩:Dcd),m.out⟩:Mac) 9 m.d.at_).d.plan.shapes,.lst .lev (As (⟨(⟨m.d.plan,4,m.d.stack,z16,m.d.start,m.d.at_,z5,Ag u,m.d.want,m.d.utf,m.d.end_⟩:Dcd),m.out⟩:Mac) 9 m.d.at_).d.stack,.lst .ev (As (⟨(⟨m.d.plan,4,m.d.stack,z16,m.d.start,m.d.at_,z5,Ag u,m.d.want,m.d.utf,m.d.end_⟩:Dcd),m.out⟩:Mac) 9 m.d.at_).out]:List Blk)=z13)∧(z14=false→z24= .tup []∧([.cells (.own 4::zi m.d.plan.root::zi m.d.plan.deep::zi m.d.plan.most::zi 4:: .own 5:: .int .u64 0::zi 0::zi m.d.start::zi m.d.at_::zi z5.number::zi z5.kind:: .bool z5.rep:: .bool z5.packed::zi z5.msg::z10),.dead,.dead,.dead,.tree m.d.plan.shapes,.lst .lev m.d.stack,.lst .ev m.out]:List Blk)=z13))∧(z31=false→(Fun Tryz.prog 179 [.agg (.seq .shp m.d.plan.shapes::zi m.d.plan.root::zi m.d.plan.deep::zi m.d.plan.most::zi 5:: .seq .lev m.d.stack:: .int .u64 0::zi 0::zi m.d.start::zi m.d.at_::zi z5.number::zi z5.kind:: .bool z5.rep:: .bool z5.packed::zi z5.msg::z11)] [] (.v z25) [])∧(Fun Tryz.prog 215 [vI z20] [] (.v z23) [])∧(z14=true→(Fun Tryz.prog 219 z27 [.cells (.own 1::zi m.d.plan.root::zi m.d.plan.deep::zi m.d.plan.most::zi 5:: .own 2:: .int .u64 0::zi 0::zi m.d.start::zi m.d.at_::zi z5.number::zi z5.kind:: .bool z5.rep:: .bool z5.packed::zi z5.msg::zi z20::z9),.tree m.d.plan.shapes,.lst .lev m.d.stack,.lst .ev m.out] (.tup []) [.cells (Ab 1 2 4 (As (⟨(⟨m.d.plan,5,m.d.stack,z16,m.d.start,m.d.at_,z5,Ag u,m.d.want,m.d.utf,m.d.end_⟩:Dcd),m.out⟩:Mac) 9 m.d.at_)),.tree (As (⟨(⟨m.d.plan,5,m.d.stack,z16,m.d.start,m.d.at_,z5,Ag u,m.d.want,m.d.utf,m.d.end_⟩:Dcd),m.out⟩:Mac) 9 m.d.at_).d.plan.shapes,.lst .lev (As (⟨(⟨m.d.plan,5,m.d.stack,z16,m.d.start,m.d.at_,z5,Ag u,m.d.want,m.d.utf,m.d.end_⟩:Dcd),m.out⟩:Mac) 9 m.d.at_).d.stack,.dead,.lst .ev (As (⟨(⟨m.d.plan,5,m.d.stack,z16,m.d.start,m.d.at_,z5,Ag u,m.d.want,m.d.utf,m.d.end_⟩:Dcd),m.out⟩:Mac) 9 m.d.at_).out])∧z24= .tup []∧([.cells (Ab 4 5 6 (As (⟨(⟨m.d.plan,5,m.d.stack,z16,m.d.start,m.d.at_,z5,Ag u,m.d.want,m.d.utf,m.d.end_⟩:Dcd),m.out⟩:Mac) 9 m.d.at_)),.dead,.dead,.dead,.tree (As (⟨(⟨m.d.plan,5,m.d.stack,z16,m.d.start,m.d.at_,z5,Ag u,m.d.want,m.d.utf,m.d.end_⟩:Dcd),m.out⟩:Mac) 9 m.d.at_).d.plan.shapes,.lst .lev (As (⟨(⟨m.d.plan,5,m.d.stack,z16,m.d.start,m.d.at_,z5,Ag u,m.d.want,m.d.utf,m.d.end_⟩:Dcd),m.out⟩:Mac) 9 m.d.at_).d.stack,.lst .ev (As (⟨(⟨m.d.plan,5,m.d.stack,z16,m.d.start,m.d.at_,z5,Ag u,m.d.want,m.d.utf,m.d.end_⟩:Dcd),m.out⟩:Mac) 9 m.d.at_).out]:List Blk)=z13)∧(z14=false→z24= .tup []∧([.cells (.own 4::zi m.d.plan.root::zi m.d.plan.deep::zi m.d.plan.most::zi 5:: .own 5:: .int .u64 0::zi 0::zi m.d.start::zi m.d.at_::zi z5.number::zi z5.kind:: .bool z5.rep:: .bool z5.packed::zi z5.msg::z10),.dead,.dead,.dead,.tree m.d.plan.shapes,.lst .lev m.d.stack,.lst .ev m.out]:List Blk)=z13)))))))))) (by kernel_rfl) ?_
 refine⟨(Aho _ (by omega)),fun h1=>have q1:=Am h1;?_,fun h1=>have q1:=Aj h1;?_⟩
 refine⟨(B2 (⟨(⟨m.d.plan,m.d.mode,m.d.stack,(⟨0,0⟩:Scn),m.d.start,m.d.at_,m.d.field,m.d.wire,m.d.want,m.d.utf,m.d.end_⟩:Dcd),m.out⟩:Mac) _ _ (by first|omega|rfl|(dsimp only;omega))),?_⟩
 refine have hm1:D5 m u=(As (⟨(⟨m.d.plan,m.d.mode,m.d.stack,(⟨0,0⟩:Scn),m.d.start,m.d.at_,m.d.field,m.d.wire,m.d.want,m.d.utf,m.d.end_⟩:Dcd),m.out⟩:Mac) 2 m.d.start):=?_;?_
 rotate_left
 exact⟨rfl,(by rw[hm1]<;>rfl)⟩
 refine dsp (fun h2 p2=>?_) fun h2 p2=>?_
 refine⟨(B2 (⟨(⟨m.d.plan,m.d.mode,m.d.stack,(⟨0,0⟩:Scn),m.d.start,m.d.at_,m.d.field,m.d.wire,m.d.want,m.d.utf,m.d.end_⟩:Dcd),m.out⟩:Mac) _ _ (by first|omega|rfl|(dsimp only;omega))),?_⟩
 refine have hm1:D5 m u=(As (⟨(⟨m.d.plan,m.d.mode,m.d.stack,(⟨0,0⟩:Scn),m.d.start,m.d.at_,m.d.field,m.d.wire,m.d.want,m.d.utf,m.d.end_⟩:Dcd),m.out⟩:Mac) 2 m.d.start):=?_;?_
 rotate_left
 exact⟨rfl,(by rw[hm1]<;>rfl)⟩
 refine⟨(Bo (l:=m.d.stack) (i:=Int.toNat ((m.d.stack.length:Int)-1)) (by omega)),fun x1 hx1=>?_⟩
 have hll:=Jb (d:=m.d) (by rw[←hx1];congr 1;omega)
 have hix:Int.toNat ((m.d.stack.length:Int)-1)=m.d.stack.length-1:=by omega
 refine⟨(Ah (by omega) (by omega)),(Ah (by omega) (by omega)),(by omega),(by omega),(by omega),(by omega),hx1,hx1,(Sw m.d.plan.shapes _ _ (by omega) (Dr hpt.2.1)),(Sw m.d.plan.shapes _ _ (by omega) (Dr hpt.2.1)),rfl,rfl,(Z9 _),fun h3=>have q3:=Am h3;?_,fun h3=>have q3:=Aj h3;?_⟩
 refine⟨(B2 (⟨(⟨m.d.plan,m.d.mode,m.d.stack,(⟨0,0⟩:Scn),m.d.start,m.d.at_,m.d.field,m.d.wire,m.d.want,m.d.utf,m.d.end_⟩:Dcd),m.out⟩:Mac) _ _ (by first|omega|rfl|(dsimp only;omega))),?_⟩
 refine have hm1:D5 m u=(As (⟨(⟨m.d.plan,m.d.mode,m.d.stack,(⟨0,0⟩:Scn),m.d.start,m.d.at_,m.d.field,m.d.wire,m.d.want,m.d.utf,m.d.end_⟩:Dcd),m.out⟩:Mac) 3 m.d.start):=?_;?_
 rotate_left
 exact⟨rfl,(by rw[hm1]<;>rfl)⟩
 refine⟨fun h4=>?_,fun h4=>?_⟩
 refine⟨(Ka ((fieldAt m.d.plan.shapes x1.msg (Bp u)).getD fld0) _ (by omega)),fun h5=>have q5:=Am h5;?_,fun h5=>have q5:=Aj h5;?_⟩
 refine⟨(B2 (⟨(⟨m.d.plan,m.d.mode,m.d.stack,(⟨0,0⟩:Scn),m.d.start,m.d.at_,m.d.field,m.d.wire,m.d.want,m.d.utf,m.d.end_⟩:Dcd),m.out⟩:Mac) _ _ (by first|omega|rfl|(dsimp only;omega))),?_⟩
 refine have hm1:D5 m u=(As (⟨(⟨m.d.plan,m.d.mode,m.d.stack,(⟨0,0⟩:Scn),m.d.start,m.d.at_,m.d.field,m.d.wire,m.d.want,m.d.utf,m.d.end_⟩:Dcd),m.out⟩:Mac) 4 m.d.start):=?_;?_
 rotate_left
 exact⟨rfl,(by rw[hm1]<;>rfl)⟩
 refine dsp (fun h6 p6=>?_) fun h6 p6=>?_
 refine⟨(Dz (⟨m.d.plan,3,m.d.stack,(⟨0,0⟩:Scn),m.d.start,m.d.at_,((fieldAt m.d.plan.shapes x1.msg (Bp u)).getD fld0),Ag u,m.d.want,m.d.utf,m.d.end_⟩:Dcd) (by first|omega|rfl|(dsimp only;omega))),(E5 _),dsp (fun h7 p7=>?_) fun h7 p7=>?_⟩
 refine⟨(B2 (⟨(⟨m.d.plan,3,m.d.stack,(⟨0,0⟩:Scn),m.d.start,m.d.at_,((fieldAt m.d.plan.shapes x1.msg (Bp u)).getD fld0),Ag u,m.d.want,m.d.utf,m.d.end_⟩:Dcd),m.out⟩:Mac) _ _ (by first|omega|rfl|(dsimp only;omega))),?_⟩
 refine have hm1:D5 m u=(As (⟨(⟨m.d.plan,3,m.d.stack,(⟨0,0⟩:Scn),m.d.start,m.d.at_,((fieldAt m.d.plan.shapes x1.msg (Bp u)).getD fld0),Ag u,m.d.want,m.d.utf,m.d.end_⟩:Dcd),m.out⟩:Mac) 9 m.d.at_):=?_;?_
 rotate_left
 exact⟨rfl,(by rw[hm1]<;>rfl)⟩
 refine have hm1:D5 m u=(⟨(⟨m.d.plan,3,m.d.stack,(⟨0,0⟩:Scn),m.d.start,m.d.at_,((fieldAt m.d.plan.shapes x1.msg (Bp u)).getD fld0),Ag u,m.d.want,m.d.utf,m.d.end_⟩:Dcd),m.out⟩:Mac):=?_;?_
 rotate_left
 exact⟨rfl,(by rw[hm1]<;>rfl)⟩
 refine dsp (fun h7 p7=>?_) fun h7 p7=>?_
 refine⟨(Dz (⟨m.d.plan,4,m.d.stack,(⟨0,0⟩:Scn),m.d.start,m.d.at_,((fieldAt m.d.plan.shapes x1.msg (Bp u)).getD fld0),Ag u,m.d.want,m.d.utf,m.d.end_⟩:Dcd) (by first|omega|rfl|(dsimp only;omega))),(E5 _),dsp (fun h8 p8=>?_) fun h8 p8=>?_⟩
 refine⟨(B2 (⟨(⟨m.d.plan,4,m.d.stack,(⟨0,0⟩:Scn),m.d.start,m.d.at_,((fieldAt m.d.plan.shapes x1.msg (Bp u)).getD fld0),Ag u,m.d.want,m.d.utf,m.d.end_⟩:Dcd),m.out⟩:Mac) _ _ (by first|omega|rfl|(dsimp only;omega))),?_⟩
 refine have hm1:D5 m u=(As (⟨(⟨m.d.plan,4,m.d.stack,(⟨0,0⟩:Scn),m.d.start,m.d.at_,((fieldAt m.d.plan.shapes x1.msg (Bp u)).getD fld0),Ag u,m.d.want,m.d.utf,m.d.end_⟩:Dcd),m.out⟩:Mac) 9 m.d.at_):=?_;?_
 rotate_left
 exact⟨rfl,(by rw[hm1]<;>rfl)⟩
 refine have hm1:D5 m u=(⟨(⟨m.d.plan,4,m.d.stack,(⟨0,0⟩:Scn),m.d.start,m.d.at_,((fieldAt m.d.plan.shapes x1.msg (Bp u)).getD fld0),Ag u,m.d.want,m.d.utf,m.d.end_⟩:Dcd),m.out⟩:Mac):=?_;?_
 rotate_left
 exact⟨rfl,(by rw[hm1]<;>rfl)⟩
 refine⟨(Dz (⟨m.d.plan,5,m.d.stack,(⟨0,0⟩:Scn),m.d.start,m.d.at_,((fieldAt m.d.plan.shapes x1.msg (Bp u)).getD fld0),Ag u,m.d.want,m.d.utf,m.d.end_⟩:Dcd) (by first|omega|rfl|(dsimp only;omega))),(E5 _),dsp (fun h8 p8=>?_) fun h8 p8=>?_⟩
 refine⟨(B2 (⟨(⟨m.d.plan,5,m.d.stack,(⟨0,0⟩:Scn),m.d.start,m.d.at_,((fieldAt m.d.plan.shapes x1.msg (Bp u)).getD fld0),Ag u,m.d.want,m.d.utf,m.d.end_⟩:Dcd),m.out⟩:Mac) _ _ (by first|omega|rfl|(dsimp only;omega))),?_⟩
 refine have hm1:D5 m u=(As (⟨(⟨m.d.plan,5,m.d.stack,(⟨0,0⟩:Scn),m.d.start,m.d.at_,((fieldAt m.d.plan.shapes x1.msg (Bp u)).getD fld0),Ag u,m.d.want,m.d.utf,m.d.end_⟩:Dcd),m.out⟩:Mac) 9 m.d.at_):=?_;?_
 rotate_left
 exact⟨rfl,(by rw[hm1]<;>rfl)⟩
 refine have hm1:D5 m u=(⟨(⟨m.d.plan,5,m.d.stack,(⟨0,0⟩:Scn),m.d.start,m.d.at_,((fieldAt m.d.plan.shapes x1.msg (Bp u)).getD fld0),Ag u,m.d.want,m.d.utf,m.d.end_⟩:Dcd),m.out⟩:Mac):=?_;?_
 rotate_left
 exact⟨rfl,(by rw[hm1]<;>rfl)⟩
 refine dsp (fun h5 p5=>?_) fun h5 p5=>?_
 refine⟨(Dz (⟨m.d.plan,3,m.d.stack,(⟨0,0⟩:Scn),m.d.start,m.d.at_,((fieldAt m.d.plan.shapes x1.msg (Bp u)).getD fld0),Ag u,m.d.want,m.d.utf,m.d.end_⟩:Dcd) (by first|omega|rfl|(dsimp only;omega))),(E5 _),dsp (fun h6 p6=>?_) fun h6 p6=>?_⟩
 refine⟨(B2 (⟨(⟨m.d.plan,3,m.d.stack,(⟨0,0⟩:Scn),m.d.start,m.d.at_,((fieldAt m.d.plan.shapes x1.msg (Bp u)).getD fld0),Ag u,m.d.want,m.d.utf,m.d.end_⟩:Dcd),m.out⟩:Mac) _ _ (by first|omega|rfl|(dsimp only;omega))),?_⟩
 refine have hm1:D5 m u=(As (⟨(⟨m.d.plan,3,m.d.stack,(⟨0,0⟩:Scn),m.d.start,m.d.at_,((fieldAt m.d.plan.shapes x1.msg (Bp u)).getD fld0),Ag u,m.d.want,m.d.utf,m.d.end_⟩:Dcd),m.out⟩:Mac) 9 m.d.at_):=?_;?_
 rotate_left
 exact⟨rfl,(by rw[hm1]<;>rfl)⟩
 refine have hm1:D5 m u=(⟨(⟨m.d.plan,3,m.d.stack,(⟨0,0⟩:Scn),m.d.start,m.d.at_,((fieldAt m.d.plan.shapes x1.msg (Bp u)).getD fld0),Ag u,m.d.want,m.d.utf,m.d.end_⟩:Dcd),m.out⟩:Mac):=?_;?_
 rotate_left
 exact⟨rfl,(by rw[hm1]<;>rfl)⟩
 refine dsp (fun h6 p6=>?_) fun h6 p6=>?_
 refine⟨(Dz (⟨m.d.plan,4,m.d.stack,(⟨0,0⟩:Scn),m.d.start,m.d.at_,((fieldAt m.d.plan.shapes x1.msg (Bp u)).getD fld0),Ag u,m.d.want,m.d.utf,m.d.end_⟩:Dcd) (by first|omega|rfl|(dsimp only;omega))),(E5 _),dsp (fun h7 p7=>?_) fun h7 p7=>?_⟩
 refine⟨(B2 (⟨(⟨m.d.plan,4,m.d.stack,(⟨0,0⟩:Scn),m.d.start,m.d.at_,((fieldAt m.d.plan.shapes x1.msg (Bp u)).getD fld0),Ag u,m.d.want,m.d.utf,m.d.end_⟩:Dcd),m.out⟩:Mac) _ _ (by first|omega|rfl|(dsimp only;omega))),?_⟩
 refine have hm1:D5 m u=(As (⟨(⟨m.d.plan,4,m.d.stack,(⟨0,0⟩:Scn),m.d.start,m.d.at_,((fieldAt m.d.plan.shapes x1.msg (Bp u)).getD fld0),Ag u,m.d.want,m.d.utf,m.d.end_⟩:Dcd),m.out⟩:Mac) 9 m.d.at_):=?_;?_
 rotate_left
 exact⟨rfl,(by rw[hm1]<;>rfl)⟩
 refine have hm1:D5 m u=(⟨(⟨m.d.plan,4,m.d.stack,(⟨0,0⟩:Scn),m.d.start,m.d.at_,((fieldAt m.d.plan.shapes x1.msg (Bp u)).getD fld0),Ag u,m.d.want,m.d.utf,m.d.end_⟩:Dcd),m.out⟩:Mac):=?_;?_
 rotate_left
 exact⟨rfl,(by rw[hm1]<;>rfl)⟩
 refine⟨(Dz (⟨m.d.plan,5,m.d.stack,(⟨0,0⟩:Scn),m.d.start,m.d.at_,((fieldAt m.d.plan.shapes x1.msg (Bp u)).getD fld0),Ag u,m.d.want,m.d.utf,m.d.end_⟩:Dcd) (by first|omega|rfl|(dsimp only;omega))),(E5 _),dsp (fun h7 p7=>?_) fun h7 p7=>?_⟩
 refine⟨(B2 (⟨(⟨m.d.plan,5,m.d.stack,(⟨0,0⟩:Scn),m.d.start,m.d.at_,((fieldAt m.d.plan.shapes x1.msg (Bp u)).getD fld0),Ag u,m.d.want,m.d.utf,m.d.end_⟩:Dcd),m.out⟩:Mac) _ _ (by first|omega|rfl|(dsimp only;omega))),?_⟩
 refine have hm1:D5 m u=(As (⟨(⟨m.d.plan,5,m.d.stack,(⟨0,0⟩:Scn),m.d.start,m.d.at_,((fieldAt m.d.plan.shapes x1.msg (Bp u)).getD fld0),Ag u,m.d.want,m.d.utf,m.d.end_⟩:Dcd),m.out⟩:Mac) 9 m.d.at_):=?_;?_
 rotate_left
 exact⟨rfl,(by rw[hm1]<;>rfl)⟩
 refine have hm1:D5 m u=(⟨(⟨m.d.plan,5,m.d.stack,(⟨0,0⟩:Scn),m.d.start,m.d.at_,((fieldAt m.d.plan.shapes x1.msg (Bp u)).getD fld0),Ag u,m.d.want,m.d.utf,m.d.end_⟩:Dcd),m.out⟩:Mac):=?_;?_
 rotate_left
 exact⟨rfl,(by rw[hm1]<;>rfl)⟩
 all_goals first|(simp_all[D5,As,Au,scn0];done)|(grind[D5,As,Au,scn0])
end Go.Proofs.YtpchkcpcdbdhdaaGreat.Ax
