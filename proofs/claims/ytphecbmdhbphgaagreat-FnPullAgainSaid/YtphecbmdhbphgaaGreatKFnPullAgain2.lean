/- Models: Ft events. Chunks. Chunks of an input. Models: streams. Varints. Numbers of so An2 bytes; tags. Utf-8. Schemas. Events. Decoders: what is valid. Decoders: what is valid, more. Decoders: what is valid, whole. -/
import Derived.Test.YtphecbmdhbphgaaGreatKFnPullAgain1
set_option linter.unusedSimpArgs false
set_option linter.unusedVariables false
namespace Go.Proofs.YtphecbmdhbphgaaGreat.Ax
open Go.RowKit
theorem Gk (s:List UInt8):List.map Bh (List.map (fun b=>(UInt8.toNat b:Int)) s)=s:=by
 rw[List.map_map]
 conv=>rhs;rw[←List.map_id s]
 apply List.map_congr_left
 intro b _
 simp[Bh]
def T7 (l:List Ev):Ev:=l.getD (l.length-1) ev0
def Vb (e:Ev) (t:List UInt8):Ev:=⟨e.kind,e.field,e.bits,e.len,t,e.code,e.at_⟩
def tx:List Ev→Nat
 |[]=>0
 |e::r=>e.text.length+tx r
def J3 (o:List Ev) (e:Ev):List Ev:=
 if e.kind=4∧e.text=[] then o
 else if e.kind=4∧0<o.length∧(T7 o).kind=4 then o.set (o.length-1) (Vb (T7 o) ((T7 o).text++e.text))
 else o++[e]
def Pq (o l:List Ev):List Ev:=l.foldl J3 o
def Ft (l:List Ev):List Ev:=Pq [] l
theorem Yo (o:List Ev):Pq o []=o:=rfl
theorem H3 (o:List Ev) (e:Ev) (r:List Ev):Pq o (e::r)=Pq (J3 o e) r:=List.foldl_cons ..
theorem Wy: ∀(a b:List Ev),tx (a++b)=tx a+tx b
 |[],b=>by simp[tx]
 |e::r,b=>by rw[List.cons_append,tx,tx,Wy r b];omega
theorem Aku: ∀ {l:List Ev} {i:Nat} {x:Ev},l[i]? =some x→x.text.length≤tx l
 |[],i,x,h=>by simp at h
 |y::r,0,x,h=>by simp at h;subst h;rw[tx];omega
 |y::r,i+1,x,h=>by
  have:=Aku (l:=r) (i:=i) (x:=x) (by simpa using h)
  rw[tx];omega
theorem Akv: ∀ {l:List Ev} {i:Nat} {x:Ev} (t:List UInt8),l[i]? =some x→tx (l.set i (Vb x (x.text++t)))=tx l+t.length
 |[],i,x,t,h=>by simp at h
 |y::r,0,x,t,h=>by simp at h;subst h;simp only[List.set_cons_zero,tx,Vb,List.length_append];omega
 |y::r,i+1,x,t,h=>by
  have:=Akv (l:=r) (i:=i) (x:=x) t (by simpa using h)
  simp only[List.set_cons_succ,tx,this];omega
theorem Vk {l:List Ev} {x:Ev} (h:l[l.length-1]? =some x):T7 l=x:=by unfold T7;exact Wi h
theorem Aey (o:List Ev) (e:Ev):T7 (o++[e])=e:=Vk (by simp)
theorem Np {o:List Ev} {e:Ev} (h:e.kind=4) (ht:e.text=[]):J3 o e=o:=by unfold J3;rw[if_pos ⟨h,ht⟩]
theorem U0 {o:List Ev} {e:Ev} (h:e.kind≠4):J3 o e=o++[e]:=by unfold J3;rw[if_neg (fun x=>h x.1),if_neg (fun x=>h x.1)]
theorem T8 {o:List Ev} {e:Ev} (ht:e.text≠[]) (hs: ¬(0<o.length∧(T7 o).kind=4)):J3 o e=o++[e]:=by unfold J3;rw[if_neg (fun x=>ht x.2),if_neg (fun x=>hs x.2)]
theorem Wz {o:List Ev} {e x:Ev} (hk:e.kind=4) (ht:e.text≠[]) (h0:0<o.length) (hx:o[o.length-1]? =some x) (hx4:x.kind=4):J3 o e=o.set (o.length-1) (Vb x (x.text++e.text)):=by
 unfold J3
 rw[if_neg (fun y=>ht y.2),if_pos ⟨hk,h0,by rw[Vk hx];exact hx4⟩,Vk hx]
theorem Ach {o:List Ev} {e f:Ev} {t:List UInt8} (hk:e.kind=4) (ht:e.text≠[]) (hf:f.kind=4):J3 (o++[Vb f t]) e=o++[Vb f (t++e.text)]:=by
 rw[Wz (x:=Vb f t) hk ht (by simp) (by simp) hf]
 have e1:(o++[Vb f t]).length-1=o.length:=by simp
 rw[e1,List.set_append_right _ _ (Nat.le_refl _)]
 simp[Vb]
def sep (o r:List Ev):Prop:= ∀x q,r=x::q→x.kind=4→¬(0<o.length∧(T7 o).kind=4)
theorem An9 {o l:List Ev} {i:Nat} {x:Ev} (h:sep o (l.drop i)) (hx:l[i]? =some x) (hk:x.kind=4): ¬(0<o.length∧(T7 o).kind=4):=h x _ (Dj hx) hk
theorem Ahd {o r:List Ev} {e:Ev} (h:e.kind≠4):sep (o++[e]) r:=fun _ _ _ _ x=>h (by rw[Aey] at x;exact x.2)
theorem Amr {r:List Ev} :sep [] r:=fun _ _ _ _ x=>absurd x.1 (Nat.lt_irrefl 0)
theorem Adv {o l:List Ev} {i:Nat} (h:l.length≤i∨∃x,l[i]? =some x∧x.kind≠4):sep o (l.drop i):=by
 intro x q hx hk
 exfalso
 rcases h with h|⟨y,hy,hn⟩
 ·rw[List.drop_eq_nil_of_le h] at hx;cases hx
 ·rw[Dj hy] at hx
  cases hx
  exact hn hk
theorem Aci {o:List Ev} {f e:Ev} {t:List UInt8} (hf:f.kind=4) (hk:e.kind=4):J3 (o++[Vb f t]) e=o++[Vb f (t++e.text)]:=by
 by_cases ht:e.text=[]
 ·rw[Np hk ht,ht,List.append_nil]
 ·exact Ach hk ht hf
def Zx (o:List Ev) (f:Ev) (t:List UInt8) (fd:Bool) (r m:List Ev):Prop:=(fd=true→f.kind=4∧Pq (o++[Vb f t]) r=m)∧(fd=false→t=[]∧Pq o r=m)
theorem Ajk {o r m:List Ev} {e:Ev} (hk:e.kind=4) (hs: ¬(0<o.length∧(T7 o).kind=4)) (h:Pq (J3 o e) r=m):Zx o e e.text (!decide (e.text=[])) r m:=by
 by_cases ht:e.text=[]
 ·rw[Np hk ht] at h;exact⟨fun x=>by simp[ht] at x,fun _=>⟨ht,h⟩⟩
 ·rw[T8 ht hs] at h;exact⟨fun _=>⟨hk,h⟩,fun x=>by simp[ht] at x⟩
theorem Apo {o r m:List Ev} {f x:Ev} {t:List UInt8} {fd:Bool} (h:Zx o f t fd (x::r) m) (hk:x.kind=4) (hf:fd=true):Zx o f (t++x.text) fd r m:=by
 have h1:=h.1 hf
 refine⟨fun _=>⟨h1.1,?_⟩,fun y=>by rw[hf] at y;cases y⟩
 rw[H3,Aci h1.1 hk] at h1
 exact h1.2
theorem App {o r m:List Ev} {f x:Ev} {t:List UInt8} {fd:Bool} (h:Zx o f t fd (x::r) m) (hk:x.kind=4) (ht:x.text≠[]) (hf:fd=false) (hs: ¬(0<o.length∧(T7 o).kind=4)):Zx o x (t++x.text) true r m:=by
 have h1:=h.2 hf
 refine⟨fun _=>⟨hk,?_⟩,fun y=>by cases y⟩
 rw[H3,T8 ht hs] at h1
 rw[h1.1]
 exact h1.2
theorem Apq {o r m:List Ev} {f x:Ev} {t:List UInt8} {fd:Bool} (h:Zx o f t fd (x::r) m) (hk:x.kind=4) (ht:x.text=[]) (hf:fd=false):Zx o f (t++x.text) fd r m:=by
 have h1:=h.2 hf
 refine⟨fun y=>(by rw[hf] at y;cases y),fun _=>⟨by rw[h1.1,ht];rfl,?_⟩⟩
 rw[H3,Np hk ht] at h1
 exact h1.2
theorem Ahe: ∀(l:List Ev) (i:Nat),tx (l.drop i)≤tx l
 |[],i=>by simp[tx]
 |e::r,0=>Nat.le_refl _
 |e::r,i+1=>by have:=Ahe r i;rw[List.drop_succ_cons,tx];omega
theorem Aez (o:List Ev) (e:Ev):(J3 o e).length≤o.length+1:=by
 unfold J3
 split
 ·omega
 ·split<;>simp
theorem Yp: ∀(l o:List Ev),(Pq o l).length≤o.length+l.length
 |[],o=>Nat.le_refl _
 |e::r,o=>by
  have h1:=Aez o e
  have h2:=Yp r (J3 o e)
  rw[H3,List.length_cons];omega
theorem Yq (l:List Ev):(Ft l).length≤l.length:=by have:=Yp l [];simpa [Ft] using this
def Vm (l:List Ev):Prop:= ∀e∈l,e.text.length≤1
theorem Zy:Vm []:=fun _ h=>by cases h
theorem Adw {a b:List Ev} (ha:Vm a) (hb:Vm b):Vm (a++b):=fun e h=>(List.mem_append.1 h).elim (ha e) (hb e)
theorem Ajm {e:Ev} (h:e.text.length≤1):Vm [e]:=fun x hx=>by simp at hx;rw[hx];exact h
theorem Hc {a:List Ev} {e:Ev} (ha:Vm a) (h:e.text.length≤1):Vm (a++[e]):=Adw ha (Ajm h)
theorem Ahf: ∀ {l:List Ev},Vm l→tx l≤l.length
 |[],_=>Nat.le_refl _
 |e::r,h=>by
  have h1:=h e (List.mem_cons_self ..)
  have h2:=Ahf (l:=r) fun x hx=>h x (List.mem_cons_of_mem _ hx)
  rw[tx,List.length_cons];omega
theorem D5 {m:Mac} {c a:Int} (h:Vm m.out):Vm (Az m c a).out:=Hc h (Nat.zero_le _)
theorem Acj {m q:Mac} (h:Vm m.out) (hc:A0 m=some q):Vm q.out:=by
 unfold A0 at hc
 split at hc
 ·split at hc
  ·cases hc;exact D5 h
  ·cases hc;exact Hc h (Nat.zero_le _)
 ·split at hc
  ·cases hc;exact h
  ·split at hc
   ·split at hc<;>(cases hc;exact Hc h (Nat.zero_le _))
   ·cases hc
theorem D3 {m:Mac} (h:Vm m.out):Vm (Af m).out:=by
 suffices ∀(k:Nat) (m:Mac),wM m≤k→Vm m.out→Vm (Af m).out from this _ m (Nat.le_refl _) h
 intro k
 induction k with
 |zero=>
  intro m hk h
  cases hc:A0 m with
  |none=>rw[B6 hc];exact h
  |some q=>have:=(Cc hc).1;omega
 |succ k ih=>
  intro m hk h
  cases hc:A0 m with
  |none=>rw[B6 hc];exact h
  |some q=>rw[Cq hc];exact ih q (by have:=(Cc hc).1;omega) (Acj h hc)
theorem Sh {m:Mac} {u:Int} (h:Vm m.out):Vm (Br m u).out:=by
 unfold Br
 simp only
 split
 ·exact h
 ·exact Hc h (Nat.zero_le _)
theorem Ae0 {m:Mac} {b:Int} (h:Vm m.out):Vm (Ep m b).out:=by
 unfold Ep
 split
 ·unfold Ez
  split
  ·split
   ·exact D5 h
   ·exact D3 (Hc h (Nat.le_refl _))
  ·exact D3 (Hc h (Nat.le_refl _))
 ·split
  ·exact D3 h
  ·split
   ·unfold D2
    split
    ·exact h
    ·split
     ·exact D5 (Sh h)
     ·exact D3 (Sh h)
   ·unfold Bx
    split
    ·exact D5 h
    ·split
     ·unfold Wq
      split
      ·exact D5 h
      ·exact h
     ·split
      ·unfold C1
       split
       ·exact D5 h
       ·exact D3 (Hc h (Nat.zero_le _))
      ·split
       ·unfold Ew
        split
        ·exact D5 h
        ·split
         ·exact D5 h
         ·split
          ·exact D5 h
          ·split
           ·exact D5 h
           ·exact h
       ·split
        ·unfold Ct
         split
         ·exact D5 h
         ·split
          ·exact D3 h
          ·split
           ·split
            ·exact D5 h
            ·exact D3 (Hc h (Nat.zero_le _))
           ·split
            ·exact D3 (Hc h (Nat.zero_le _))
            ·split
             ·exact D5 h
             ·exact D3 h
        ·exact D3 (Sh h)
theorem Ae1 {m:Mac} {b:Int} (h:Vm m.out):Vm (Rr m b).out:=by
 unfold Rr
 refine Adw h ?_
 unfold Cp
 split
 ·exact Ae0 Zy
 ·exact Zy
theorem Yr: ∀(s:List UInt8) (m:Mac),Vm m.out→Vm (Cv m s).out
 |[],m,h=>h
 |b::r,m,h=>by rw[G0];exact Yr r _ (Ae1 h)
theorem Ahg (d:Dcd) (s:List UInt8):(Cv ⟨d,[]⟩ s).out.length≤14*s.length∧tx (Cv ⟨d,[]⟩ s).out≤14*s.length:=by
 have h1:=(Wx s ⟨d,[]⟩).2.2.1
 have h2:=Ahf (Yr s ⟨d,[]⟩ Zy)
 simp only[List.length_nil] at h1
 omega
def Bk (d:Dcd) (s:List UInt8):Mac:=⟨(Cv ⟨d,[]⟩ s).d,Ft (Cv ⟨d,[]⟩ s).out⟩
theorem W0 (d:Dcd) (s:List UInt8):(Bk d s).d.plan=d.plan∧((Bk d s).d.stack.length:Int)≤max (d.stack.length:Int) 8∧(Bk d s).out.length≤14*s.length∧((0≤d.scan.bits∧d.scan.bits≤18446744073709551615)→0≤(Bk d s).d.scan.bits∧(Bk d s).d.scan.bits≤18446744073709551615):=by
 have h:=Wx s ⟨d,[]⟩
 have h2:=Ahg d s
 have h3:=Yq (Cv ⟨d,[]⟩ s).out
 exact⟨h.1,h.2.1,Nat.le_trans h3 h2.1,h.2.2.2⟩
def Ack (a:Int):Ev:=⟨9,0,0,0,[],0,a⟩
def Ee (d:Dcd):Bool:=Bv d&&decide (d.mode=1)&&decide (d.scan.have_=0)
def G5 (d:Dcd):Mac:=if Bv d=false∨d.mode=9 then ⟨d,[]⟩ else if d.mode=1∧d.scan.have_=0 then ⟨⟨d.plan,9,d.stack,d.scan,d.start,d.at_,d.field,d.wire,d.want,d.utf,Ack d.at_⟩,[Ack d.at_]⟩ else ⟨A9 d 10 d.at_,[A3 10 d.at_]⟩
theorem Zz (d:Dcd):(G5 d).out.length≤1:=by unfold G5;split;simp;split<;>simp
def Dn (s:Strm):Bool:=Bo s.reader&&Bv s.dec&&decide (0≤s.reads)
def Jx (d:Dcd) (c:Int):Mac:=if Bv d=true∧d.mode≠9∧1≤c then ⟨A9 d c d.at_,[A3 c d.at_]⟩ else ⟨d,[]⟩
def W1 (d:Dcd) (c:Int):Mac:=if d.mode=9 then ⟨d,[]⟩ else if c=1 then G5 d else if 20≤c then Jx d c else ⟨d,[]⟩
def Cw (s:Strm):Strm:=
 ⟨A7 s.reader 16,(W1 (Bk s.dec (A2 s.reader 16)).d (B0 s.reader 16)).d,s.queue++(Bk s.dec (A2 s.reader 16)).out++(W1 (Bk s.dec (A2 s.reader 16)).d (B0 s.reader 16)).out,IntKind.i64.wrap (s.reads+1)⟩
def Jk:Nat→Strm→Strm
 |0,s=>s
 |k+1,s=>if s.queue=[]∧s.dec.mode≠9 then Jk k (Cw s) else s
theorem Vn: ∀(s:List UInt8) {m:Mac},Bv m.d=true→Bv (Cv m s).d=true
 |[],_,h=>h
 |b::r,m,h=>by rw[G0];exact Vn r (Zv h)
theorem Acm {d:Dcd} (h:Bv d=true):Bv (G5 d).d=true∧(d.mode≠9→(G5 d).d.mode=9):=by
 unfold G5
 rw[h]
 obtain ⟨h1,h2,h3,h4,h5,h6,h7,h8,hs,h10,h11,h12⟩:=Mi h
 split
 ·rename_i hx
  rcases hx with hx|hx
  ·cases hx
  ·exact⟨h,fun h9=>absurd hx h9⟩
 ·rename_i hx
  simp only[not_or] at hx
  split
  ·rename_i hy
   refine⟨?_,fun _=>rfl⟩
   have hsc:d.scan=scn0:=by
    unfold J6 at h12
    have hw:Bu d=0:=by unfold Bu;rw[if_neg (by omega),if_neg (by omega)]
    rw[hw,if_neg (by decide),if_neg (by omega)] at h12
    simp only[Dr,Bool.and_eq_true,decide_eq_true_eq] at h12
    have h0:=h12.2
    rw[hy.2] at h0
    have hb:d.scan.bits=0:=by simpa using h0
    cases hd:d.scan with
    |mk b k=>rw[hd] at hb hy;simp only at hb hy;rw[hb,hy.2];rfl
   have hw0:d.want=0:=(Zp h10).2 (by omega)
   refine Jb (B9 h1 rfl rfl) (show (1:Int)≤9∧(9:Int)≤9 by decide) h3 h4 h5 h6 h7 ?_ ?_ ?_ ?_ ?_
   ·simp[Zj,Fn,Mh,Ak,S6,Eo,Ack,E0,Dg];exact decide_eq_true h3.1
   ·simp[J2]
   ·simp[Ji,hw0]
   ·simp[Jj]
   ·simp[J6,Bu,hsc]
  ·exact⟨Adq h1 h3 h4 h5 h6 h7 (by decide) h3.1,fun _=>rfl⟩
theorem Ams {d:Dcd} {c:Int} (h:Bv d=true):Bv (Jx d c).d=true:=by
 unfold Jx
 split
 ·rename_i hx
  obtain ⟨h1,h2,h3,h4,h5,h6,h7,-⟩:=Mi h
  exact Adq h1 h3 h4 h5 h6 h7 hx.2.2 h3.1
 ·exact h
theorem Amt {d:Dcd} {c:Int} (h:Bv d=true):Bv (W1 d c).d=true:=by
 unfold W1
 split
 ·exact h
 ·split
  ·exact(Acm h).1
  ·split
   ·exact Ams h
   ·exact h
theorem K9 {s:Strm} (h:Bv s.dec=true):Bv (Cw s).dec=true:=Amt (Vn _ h)
def rmu (r:Rdr):Nat:=((r.script.length:Int)-r.next).toNat+((r.data.length:Int)-r.at_).toNat
theorem Fu {r:Rdr} (h:Bo r=true):Bo (A7 r 16)=true:=by
 have ht:=Eg h
 unfold A7
 split
 ·exact h
 ·have hc:=(Td (Dm r 16).n 16 ((r.data.length:Int)-r.at_))
  have hn:rsN r 16=Dv (Dm r 16).n 16 ((r.data.length:Int)-r.at_):=rfl
  have hnx:K5 r=if r.next<(r.script.length:Int) then r.next+1 else r.next:=rfl
  have hcd:Mq r 16=if 20≤(Dm r 16).code then (Dm r 16).code else if (Dm r 16).code=1∧r.at_+rsN r 16=(r.data.length:Int) then 1 else r.code:=rfl
  simp only[Bo,Ak,Bool.and_eq_true,Bool.or_eq_true,decide_eq_true_eq]
  split at hnx<;>split at hcd<;>(try split at hcd)<;>omega
theorem Xz {r:Rdr} (h:Bo r=true):B0 r 16=1∨20≤B0 r 16∨(B0 r 16=0∧rmu (A7 r 16)<rmu r):=by
 have ht:=Eg h
 unfold B0
 rw[h]
 simp only[Bool.not_true,Bool.false_or]
 rw[if_neg (by decide)]
 by_cases hc:r.code=0
 ·rw[if_neg (by simp[hc])]
  have hb:Va r 16=false:=by simp[Va,h,hc]
  have hs:A7 r 16=⟨r.data,r.at_+rsN r 16,r.script,K5 r,Mq r 16⟩:=by unfold A7;rw[hb];rfl
  rw[hs]
  have hcl:=Td (Dm r 16).n 16 ((r.data.length:Int)-r.at_)
  have hn:rsN r 16=Dv (Dm r 16).n 16 ((r.data.length:Int)-r.at_):=rfl
  have hcd:Mq r 16=if 20≤(Dm r 16).code then (Dm r 16).code else if (Dm r 16).code=1∧r.at_+rsN r 16=(r.data.length:Int) then 1 else r.code:=rfl
  by_cases hx:r.next<(r.script.length:Int)
  ·have hnx:K5 r=r.next+1:=by unfold K5;rw[if_pos hx]
   split at hcd
   ·right;left;omega
   ·split at hcd
    ·left;exact hcd
    ·right;right
     refine⟨by omega,?_⟩
     unfold rmu
     simp only
     omega
  ·have hnx:K5 r=r.next:=by unfold K5;rw[if_neg hx]
   have he:Dm r 16=⟨16,1⟩:=by unfold Dm;rw[if_neg hx]
   rw[he] at hn hcd hcl
   simp only at hn hcd hcl
   rw[if_neg (by decide)] at hcd
   split at hcd
   ·left;exact hcd
   ·rename_i hy
    right;right
    have h16:rsN r 16=16:=by
     have: ¬r.at_+rsN r 16=(r.data.length:Int):=fun e=>hy ⟨by first|rfl|trivial,e⟩
     unfold Dv at hn
     omega
    refine⟨by omega,?_⟩
    unfold rmu
    simp only
    have:r.at_+16≤(r.data.length:Int):=by
     unfold Dv at hn
     omega
    omega
 ·rw[if_pos (by simp[hc])]
  omega
def G6 (s:Strm):Strm:=Jk (rmu s.reader+1) s
theorem Abb (s:Strm):(Cw s).reader=A7 s.reader 16:=rfl
theorem Ra {s:Strm} (hr:Bo s.reader=true) (hd:Bv s.dec=true):(Cw s).dec.mode=9∨rmu (Cw s).reader<rmu s.reader:=by
 have hm:=Vn (A2 s.reader 16) (m:=⟨s.dec,[]⟩) hd
 have hm:Bv (Bk s.dec (A2 s.reader 16)).d=true:=hm
 have he:(Cw s).dec=(W1 (Bk s.dec (A2 s.reader 16)).d (B0 s.reader 16)).d:=rfl
 rw[he,Abb]
 generalize (Bk s.dec (A2 s.reader 16)).d=d at *
 rcases Xz hr with h|h|⟨_,h⟩
 ·left
  unfold W1
  rw[h]
  by_cases h9:d.mode=9
  ·rw[if_pos h9];exact h9
  ·rw[if_neg h9,if_pos rfl];exact(Acm hm).2 h9
 ·left
  unfold W1
  by_cases h9:d.mode=9
  ·rw[if_pos h9];exact h9
  ·rw[if_neg h9,if_neg (by omega),if_pos h]
   unfold Jx
   rw[if_pos ⟨hm,h9,by omega⟩];rfl
 ·exact .inr h
theorem D9 {s:Strm} (h: ¬(s.queue=[]∧s.dec.mode≠9)): ∀k,Jk k s=s
 |0=>rfl
 |k+1=>by rw[Jk,if_neg h]
theorem Acn: ∀(n:Nat) {s:Strm} {k:Nat},rmu s.reader≤n→Bo s.reader=true→Bv s.dec=true→rmu s.reader+1≤k→Jk k s=Jk (rmu s.reader+1) s:=by
 intro n
 induction n with
 |zero=>
  intro s k hn hr hd hk
  by_cases hs:s.queue=[]∧s.dec.mode≠9
  ·obtain ⟨j,rfl⟩: ∃j,k=j+1:=⟨k-1,by omega⟩
   rw[Jk,if_pos hs,Jk,if_pos hs]
   rcases Ra hr hd with h|h
   ·rw[D9 (fun x=>x.2 h),D9 (fun x=>x.2 h)]
   ·omega
  ·rw[D9 hs,D9 hs]
 |succ n ih=>
  intro s k hn hr hd hk
  by_cases hs:s.queue=[]∧s.dec.mode≠9
  ·obtain ⟨j,rfl⟩: ∃j,k=j+1:=⟨k-1,by omega⟩
   rw[Jk,if_pos hs,Jk,if_pos hs]
   rcases Ra hr hd with h|h
   ·rw[D9 (fun x=>x.2 h),D9 (fun x=>x.2 h)]
   ·have h1:=ih (s:=Cw s) (k:=j) (by omega) (Fu hr) (K9 hd) (by omega)
    have h2:=ih (s:=Cw s) (k:=rmu s.reader) (by omega) (Fu hr) (K9 hd) (by omega)
    rw[h1,h2]
  ·rw[D9 hs,D9 hs]
theorem Ys {s:Strm} (hr:Bo s.reader=true) (hd:Bv s.dec=true) (hs:s.queue=[]∧s.dec.mode≠9):G6 s=G6 (Cw s):=by
 unfold G6
 rw[Jk,if_pos hs]
 rcases Ra hr hd with h|h
 ·rw[D9 (fun x=>x.2 h),D9 (fun x=>x.2 h)]
 ·exact Acn _ (Nat.le_refl _) (Fu hr) (K9 hd) (by omega)
theorem H4 {s:Strm} (h: ¬(s.queue=[]∧s.dec.mode≠9)):G6 s=s:=D9 h _
structure Nq where
 u:Int
 out:List Int
def Nr (u:Int):Fam:=⟨Nq,fun q1=>[(0,.v (.c (.int .u64 q1.u))),(3,.v (vO 0))],fun q1=>[.lst .u8 q1.out],fun q1=>(0:Int)≤q1.u∧q1.u≤18446744073709551615∧List.map Bh q1.out++Ec q1.u=Ec u∧q1.out.length+List.length (Ec q1.u)≤10,fun q1=>q1.u.toNat⟩
theorem Vo (u:Int) (hp1:(0:Int)≤u∧u≤18446744073709551615):Fun Tryz.prog 202 [.c (.int .u64 u)] [] (.v (vT (Ec u))) []:=by
 have hN:A8=274877906944:=rfl
 refine Aq Tryz.func202 Q4 Q4 (w:=let z2:=Nr u;(.seg [.ty .u8,.at 0,.keep [0,3],.sel [0]] (.loop z2 fun q1=> .br (.seg [.as 9 (.v (.c (.int .u64 (q1.u % 128)))),.as 10 (.v (.c (.int .u64 (q1.u % 128+128)))),.as 11 (.v (.c (.int .u8 (q1.u % 128+128)))),.ty .u8,.ty .u8,.as 15 (.v (.c (.int .u64 (q1.u / 128)))),.at 0,.keep [0,3],.sel [2]] (.next)) (.seg [.as 18 (.v (.c (.int .u8 q1.u))),.ty .u8,.ty .u8] (.leaf () []))),z2.Has [(0,.v (.c (.int .u64 u))),(3,.v (vO 0))] [.lst .u8 ([]:List Int)]∧∀q1,z2.inv q1→(let z1:=q1.u % 128+128;Bc (decide (127<q1.u)) (((128:Int)≠0)∧((.v (.c (.int .u64 (Int.tmod q1.u 128))):S)= .v (.c (.int .u64 (q1.u % 128))))∧((.v (.c (.int .u64 (IntKind.u64.wrap ((q1.u % 128)+128)))):S)= .v (.c (.int .u64 z1)))∧((.v (.c (.int .u8 (IntKind.u8.wrap z1))):S)= .v (.c (.int .u8 z1)))∧(q1.out.length+List.length [q1.u % 128+128]≤A8)∧((128:Int)≠0)∧((.v (.c (.int .u64 (IntKind.u64.wrap (Int.tdiv q1.u 128)))):S)= .v (.c (.int .u64 (q1.u / 128))))∧z2.Nxt q1 [(0,.v (.c (.int .u64 (q1.u / 128)))),(3,.v (vO 0))] [.lst .u8 (q1.out++[q1.u % 128+128])]) (((.v (.c (.int .u8 (IntKind.u8.wrap (q1.u)))):S)= .v (.c (.int .u8 q1.u)))∧(q1.out.length+List.length [q1.u]≤A8)∧Lf (.v (vT (List.map Bh (q1.out++[q1.u])))) (.v (vT (Ec u))) [] [])))) Q4 ?_
 refine⟨Bj (j:=(⟨u,([]:List Int)⟩:Nq)) rfl rfl (by dsimp only[Nr];exact⟨by omega,by omega,by simp,by have:=Adi (u:=u) Q2;unfold Lk at this;simp;omega⟩),fun (q1:Nq) hq_q1=>?_⟩
 have hi_q1:(0:Int)≤q1.u∧q1.u≤18446744073709551615∧List.map Bh q1.out++Ec q1.u=Ec u∧q1.out.length+List.length (Ec q1.u)≤10:=hq_q1
 obtain ⟨v1,v2,v3,v4⟩:=hi_q1
 refine dsp (fun h1 p1=>?_) fun h1 p1=>?_
 exact⟨Q30,(Zi Q2),(B3 Q2 Q2),(Mn Q2 Q2),(by have:=Yg q1.u;simp;omega),Q30,(Wj Q2 Q2 Q30),A5 (j:=(⟨q1.u / 128,q1.out++[q1.u % 128+128]⟩:Nq)) rfl rfl (by dsimp only[Nr];exact⟨by omega,by omega,by rw[←v3,Yf (u:=q1.u) (by omega) (by omega)];simp[Bh],by rw[Yf (u:=q1.u) (by omega) (by omega)] at v4;simp at v4 ⊢;omega⟩) (by dsimp only[Nr];omega)⟩
 refine⟨(Mn Q2 Q2),(by have:=Yg q1.u;simp;omega),(congrArg S.v (congrArg V.c (congrArg C.str ?_))),rfl⟩
 rotate_left
 all_goals rw[←v3,Aa1 (u:=q1.u) (by omega) (by omega)];simp[Bh]
structure Aiq where
 u:Int
 k:Nat
structure Amu where
 u:Int
 i:Int
theorem Cx (n:Int) (w:Int):Fun Tryz.prog 222 [vI n,vI w] [] (.v (.c (.int .u64 (C5 n w)))) []:=by
 have hN:A8=274877906944:=rfl
 refine Aq Tryz.func222 Q4 Q4 (w:=let z2:=(8*n)+w;let z3:=Ak n 1 536870911;let z4:S:= .v (.c (.int .u64 (C5 n w)));let z1:=Lf (.v (.c (.int .u64 0))) z4 [] [];(.seg [.call [] (.v (vB z3)) []] (.br (.leaf () []) (.seg [.call [] (.v (vB (Ak w 0 7))) []] (.br (.leaf () []) (.seg [.as 14 (.v (vI (8*n))),.as 16 (.v (vI z2)),.as 17 (.v (.c (.int .u64 z2)))] (.leaf () []))))),(Fp 44 [vI n,vI 1,vI 536870911] [] (.v (vB z3)) [])∧Bc (!z3) z1 ((Fp 44 [vI w,vI 0,vI 7] [] (.v (vB (Ak w 0 7))) [])∧Bc (!(Ak w 0 7)) z1 ((wI (8*n))∧(wI z2)∧(wU z2)∧Lf (.v (.c (.int .u64 z2))) z4 [] [])))) Q4 ?_
 refine⟨(Bf _ _ _),fun h1=>have q1:=An h1;have p1:=Ay q1;?_,fun h1=>have q1:=Am h1;have p1:=As q1;?_⟩
 exact⟨(congrArg S.v (congrArg V.c (congrArg (C.int .u64) (by simp[C5, *])))),rfl⟩
 refine⟨(Bf _ _ _),fun h2=>have q2:=An h2;have p2:=Ay q2;?_,fun h2=>have q2:=Am h2;have p2:=As q2;?_⟩
 exact⟨(congrArg S.v (congrArg V.c (congrArg (C.int .u64) (by simp[C5, *])))),rfl⟩
 exact⟨(Ad Q2 Q2),(Ad Q2 Q2),(B3 Q2 Q2),(congrArg S.v (congrArg V.c (congrArg (C.int .u64) (by simp[C5, *])))),rfl⟩
theorem Amv (u:Int) (hp1:(0:Int)≤u∧u≤18446744073709551615):Fun Tryz.prog 216 [.c (.int .u64 u)] [] (.tup [vI (Bw u),vI (Aj u),vB (Nh u)]) []:=by
 have hN:A8=274877906944:=rfl
 refine Aq Tryz.func216 Q4 Q4 (w:=let z1:S:= .tup [vI (Bw u),vI (Aj u),vB (Nh u)];let z2:=(.v (.c (.int .u64 (Int.fdiv u (2 ^ 3)))):S)= .v (.c (.int .u64 (u / 8)));let z3:=Lf (.tup [vI 0,vI 0,vB false]) z1 [] [];(.br (.leaf () []) (.seg [.as 9 (.v (.c (.int .u64 (u / 8))))] (.br (.leaf () []) (.seg [.as 13 (.v (.c (.int .u64 (u / 8)))),.as 14 (.v (vI (u / 8))),.as 16 (.v (.c (.int .u64 (u % 8)))),.as 17 (.v (vI (u % 8)))] (.leaf () [])))),Bc (decide (u<8)) z3 (((0:Int)≤3)∧z2∧Bc (decide (536870911<u / 8)) z3 (((0:Int)≤3)∧z2∧(wI (u / 8))∧((.v (.c (.int .u64 (IntKind.u64.wrap (((BitVec.ofInt 64 u&&&BitVec.ofInt 64 7).toNat:Nat))))):S)= .v (.c (.int .u64 (u % 8))))∧(wI (u % 8))∧Lf (.tup [vI (u / 8),vI (u % 8),vB true]) z1 [] [])))) Q4 ?_
 refine dsp (fun h1 p1=>?_) fun h1 p1=>?_
 refine⟨(congrArg S.tup (Ab (congrArg V.c (congrArg (C.int .i64) ?_)) (Ab (congrArg V.c (congrArg (C.int .i64) ?_)) (Ab (congrArg V.c (congrArg C.bool ?_)) rfl)))),rfl⟩
 rotate_left 3
 refine⟨Q30,(Yb (k:=3) Q30 Q30),dsp (fun h2 p2=>?_) fun h2 p2=>?_⟩
 refine⟨(congrArg S.tup (Ab (congrArg V.c (congrArg (C.int .i64) ?_)) (Ab (congrArg V.c (congrArg (C.int .i64) ?_)) (Ab (congrArg V.c (congrArg C.bool ?_)) rfl)))),rfl⟩
 rotate_left 3
 refine⟨Q30,(Yb (k:=3) Q30 Q30),(Ad Q2 Q2),(Ab9 (k:=3) Q30 Q30),(Ad Q2 Q2),(congrArg S.tup (Ab (congrArg V.c (congrArg (C.int .i64) ?_)) (Ab (congrArg V.c (congrArg (C.int .i64) ?_)) (Ab (congrArg V.c (congrArg C.bool ?_)) rfl)))),rfl⟩
 rotate_left 3
 all_goals first|((have ht:Nh u=true:=by (simp[Nh,Ak];omega));simp[Bw,Aj,ht])|((have ht:Nh u=false:=by (simp[Nh,Ak];omega));simp[Bw,Aj,ht])
theorem Amw (u:Int) (hp1:(0:Int)≤u∧u≤18446744073709551615):Fun Tryz.prog 191 [.c (.int .u64 u)] [] (.tup [vI (Bw u),vI (Aj u),vB (Nh u)]) []:=by
 have hN:A8=274877906944:=rfl
 refine Aq Tryz.func191 Q4 Q4 (w:=let z1:S:= .tup [vI (Bw u),vI (Aj u),vB (Nh u)];let z2:=Lf (.tup [vI 0,vI 0,vB false]) z1 [] [];(.br (.leaf () []) (.br (.leaf () []) (.seg [.as 12 (.v (.c (.int .u64 (u / 8)))),.as 13 (.v (vI (u / 8))),.as 15 (.v (.c (.int .u64 (u % 8)))),.as 16 (.v (vI (u % 8)))] (.leaf () []))),Bc (decide (u<8)) z2 (Bc (decide (4294967295<u)) z2 (((8:Int)≠0)∧((.v (.c (.int .u64 (IntKind.u64.wrap (Int.tdiv u 8)))):S)= .v (.c (.int .u64 (u / 8))))∧(wI (u / 8))∧((8:Int)≠0)∧((.v (.c (.int .u64 (Int.tmod u 8))):S)= .v (.c (.int .u64 (u % 8))))∧(wI (u % 8))∧Lf (.tup [vI (u / 8),vI (u % 8),vB true]) z1 [] [])))) Q4 ?_
 refine dsp (fun h1 p1=>?_) fun h1 p1=>?_
 refine⟨(congrArg S.tup (Ab (congrArg V.c (congrArg (C.int .i64) ?_)) (Ab (congrArg V.c (congrArg (C.int .i64) ?_)) (Ab (congrArg V.c (congrArg C.bool ?_)) rfl)))),rfl⟩
 rotate_left 3
 refine dsp (fun h2 p2=>?_) fun h2 p2=>?_
 refine⟨(congrArg S.tup (Ab (congrArg V.c (congrArg (C.int .i64) ?_)) (Ab (congrArg V.c (congrArg (C.int .i64) ?_)) (Ab (congrArg V.c (congrArg C.bool ?_)) rfl)))),rfl⟩
 rotate_left 3
 refine⟨Q30,(Wj Q2 Q2 Q30),(Ad Q2 Q2),Q30,(Zi Q2),(Ad Q2 Q2),(congrArg S.tup (Ab (congrArg V.c (congrArg (C.int .i64) ?_)) (Ab (congrArg V.c (congrArg (C.int .i64) ?_)) (Ab (congrArg V.c (congrArg C.bool ?_)) rfl)))),rfl⟩
 rotate_left 3
 all_goals first|((have ht:Nh u=true:=by (simp[Nh,Ak];omega));simp[Bw,Aj,ht])|((have ht:Nh u=false:=by (simp[Nh,Ak];omega));simp[Bw,Aj,ht])
theorem Ahh (c:Int) (a:Int):Fun Tryz.prog 111 [vI c,vI a] [] (.v (.agg (cEv (A3 c a)))) []:=by
 have hN:A8=274877906944:=rfl
 refine Aq Tryz.func111 Q4 Q4 (w:=(.leaf () [],Lf (.v (.agg [.int .i64 10,.int .i64 0,.int .u64 0,.int .i64 0,.str [],.int .i64 c,.int .i64 a])) (.v (.agg (cEv (A3 c a)))) [] [])) Q4 ?_
 have hm1:A3 c a=(⟨10,0,0,0,[],c,a⟩:Ev):=by rfl
 exact⟨Q6,rfl⟩
theorem Ahi (c:Int) (a:Int):Fun Tryz.prog 94 [vI c,vI a] [] (.v (.agg (cEv (A3 c a)))) []:=by
 have hN:A8=274877906944:=rfl
 refine Aq Tryz.func94 Q4 Q4 (w:=(.leaf () [],Lf (.v (.agg [.int .i64 10,.int .i64 0,.int .u64 0,.int .i64 0,.str [],.int .i64 c,.int .i64 a])) (.v (.agg (cEv (A3 c a)))) [] [])) Q4 ?_
 have hm1:A3 c a=(⟨10,0,0,0,[],c,a⟩:Ev):=by rfl
 exact⟨Q6,rfl⟩
theorem Yt (f:Fld) (u:Int) (hp1:(0:Int)≤u):Fun Tryz.prog 215 [.agg (Gb f),.c (.int .u64 u)] [] (.v (.agg (cEv (Hs f u)))) []:=by
 have hN:A8=274877906944:=rfl
 refine Aq Tryz.func215 Q4 Q4 (w:=let zi:Int→C:= .int .i64;let z1:List C:=[zi 2,zi f.number,.int .u64 u,zi 0,.str [],zi 0,zi 0];let z2:=Lf (.v (.agg z1)) (.v (.agg (cEv (Hs f u)))) [] [];(.br (.br (.leaf () []) (.leaf () [])) (.leaf () []),Bc (decide (f.kind=3)) (Bc (!decide (u=0)) (Lf (.v (.agg [zi 2,zi f.number,.int .u64 1,zi 0,.str [],zi 0,zi 0])) (.v (.agg (cEv (Hs f u)))) [] []) z2) z2)) Q4 ?_
 refine dsp (fun h1 p1=>?_) fun h1 p1=>?_
 refine⟨fun h2=>have q2:=An h2;have p2:=of_decide_eq_false q2;?_,fun h2=>have q2:=Am h2;have p2:=of_decide_eq_true q2;?_⟩
 refine zE (Hs f u) (⟨2,f.number,1,0,[],0,0⟩:Ev) (fun hm1=>⟨Q6,rfl⟩) ?_
 rotate_left
 refine zE (Hs f u) (⟨2,f.number,u,0,[],0,0⟩:Ev) (fun hm1=>⟨Q6,rfl⟩) ?_
 rotate_left
 refine zE (Hs f u) (⟨2,f.number,u,0,[],0,0⟩:Ev) (fun hm1=>⟨Q6,rfl⟩) ?_
 rotate_left
 all_goals simp[Hs, *]<;>omega
theorem T9 (f:Fld) (u:Int) (hp1:(0:Int)≤u):Fun Tryz.prog 134 [.agg (Gb f),.c (.int .u64 u)] [] (.v (.agg (cEv (Hs f u)))) []:=by
 have hN:A8=274877906944:=rfl
 refine Aq Tryz.func134 Q4 Q4 (w:=let zi:Int→C:= .int .i64;let z1:List C:=[zi 2,zi f.number,.int .u64 u,zi 0,.str [],zi 0,zi 0];let z2:=Lf (.v (.agg z1)) (.v (.agg (cEv (Hs f u)))) [] [];(.br (.br (.leaf () []) (.leaf () [])) (.leaf () []),Bc (decide (f.kind=3)) (Bc (decide (1<u)) (Lf (.v (.agg [zi 2,zi f.number,.int .u64 1,zi 0,.str [],zi 0,zi 0])) (.v (.agg (cEv (Hs f u)))) [] []) z2) z2)) Q4 ?_
 refine dsp (fun h1 p1=>?_) fun h1 p1=>?_
 refine dsp (fun h2 p2=>?_) fun h2 p2=>?_
 refine zE (Hs f u) (⟨2,f.number,1,0,[],0,0⟩:Ev) (fun hm1=>⟨Q6,rfl⟩) ?_
 rotate_left
 refine zE (Hs f u) (⟨2,f.number,u,0,[],0,0⟩:Ev) (fun hm1=>⟨Q6,rfl⟩) ?_
 rotate_left
 refine zE (Hs f u) (⟨2,f.number,u,0,[],0,0⟩:Ev) (fun hm1=>⟨Q6,rfl⟩) ?_
 rotate_left
 all_goals simp[Hs, *]<;>omega
theorem Ahj (u:Utf):Fun Tryz.prog 103 [.agg (K3 u)] [] (.v (vB (E4 u))) []:=by
 have hN:A8=274877906944:=rfl
 refine Aq Tryz.func103 Q4 Q4 (w:=let z1:=decide (u.low=128)&&decide (u.high=191);let z2:S:= .v (vB (E4 u));let z3:S:= .v (vB true);let z4:=decide (u.want=2)&&(decide (u.low=160)&&decide (u.high=191));let z5:=decide (u.want=2)&&(decide (u.low=128)&&decide (u.high=159));let z6:=decide (u.want=3)&&(decide (u.low=144)&&decide (u.high=191));let z7:=decide (u.want=0)&&(decide (u.low=0)&&decide (u.high=0));(.br (.seg [.br true] (.leaf () [])) (.br (.seg [.br true] (.leaf () [])) (.br (.seg [.br true] (.leaf () [])) (.br (.seg [.br true] (.leaf () [])) (.br (.seg [.br true] (.leaf () [])) (.br (.seg [.br true] (.leaf () [])) (.br (.seg [.br true] (.leaf () [])) (.br (.leaf () []) (.leaf () [])))))))),Bc z7 ((z7=true)∧Lf z3 z2 [] []) (Bc (decide (u.want=1)&&z1) (((decide (u.want=1)&&z1)=true)∧Lf z3 z2 [] []) (Bc (decide (u.want=2)&&z1) (((decide (u.want=2)&&z1)=true)∧Lf z3 z2 [] []) (Bc (decide (u.want=3)&&z1) (((decide (u.want=3)&&z1)=true)∧Lf z3 z2 [] []) (Bc z4 ((z4=true)∧Lf z3 z2 [] []) (Bc z5 ((z5=true)∧Lf z3 z2 [] []) (Bc z6 ((z6=true)∧Lf z3 z2 [] []) (Bc (decide (u.want=3)&&(decide (u.low=128)&&decide (u.high=143))) (Lf z3 z2 [] []) (Lf (.v (vB false)) z2 [] [])))))))))) Q4 ?_
 refine⟨fun h1=>have p1:=(Ch dT (Ch dT dT)).1 h1;?_,fun h1=>have p1:=(Ci dT (Ci dT dF)).1 h1;?_⟩
 refine⟨h1,(sB ?_),rfl⟩
 rotate_left
 refine⟨fun h2=>have p2:=(Ch dT (Ch dT dT)).1 h2;?_,fun h2=>have p2:=(Ci dT (Ci dT dF)).1 h2;?_⟩
 refine⟨h2,(sB ?_),rfl⟩
 rotate_left
 refine⟨fun h3=>have p3:=(Ch dT (Ch dT dT)).1 h3;?_,fun h3=>have p3:=(Ci dT (Ci dT dF)).1 h3;?_⟩
 refine⟨h3,(sB ?_),rfl⟩
 rotate_left
 refine⟨fun h4=>have p4:=(Ch dT (Ch dT dT)).1 h4;?_,fun h4=>have p4:=(Ci dT (Ci dT dF)).1 h4;?_⟩
 refine⟨h4,(sB ?_),rfl⟩
 rotate_left
 refine⟨fun h5=>have p5:=(Ch dT (Ch dT dT)).1 h5;?_,fun h5=>have p5:=(Ci dT (Ci dT dF)).1 h5;?_⟩
 refine⟨h5,(sB ?_),rfl⟩
 rotate_left
 refine⟨fun h6=>have p6:=(Ch dT (Ch dT dT)).1 h6;?_,fun h6=>have p6:=(Ci dT (Ci dT dF)).1 h6;?_⟩
 refine⟨h6,(sB ?_),rfl⟩
 rotate_left
 refine⟨fun h7=>have p7:=(Ch dT (Ch dT dT)).1 h7;?_,fun h7=>have p7:=(Ci dT (Ci dT dF)).1 h7;?_⟩
 refine⟨h7,(sB ?_),rfl⟩
 rotate_left
 refine⟨fun h8=>have p8:=(Ch dT (Ch dT dT)).1 h8;?_,fun h8=>have p8:=(Ci dT (Ci dT dF)).1 h8;?_⟩
 refine⟨(sB ?_),rfl⟩
 rotate_left
 refine⟨(sB ?_),rfl⟩
 rotate_left
 all_goals first|(rw[Bool.eq_iff_iff];simp[E4,Pu];omega)|(rw[Bool.eq_iff_iff];simp[E4,Pu,Ak];omega)|(simp_all[E4,Pu,Ak];done)
theorem Ahk (u:Utf):Fun Tryz.prog 121 [.agg (K3 u)] [] (.v (vB (E4 u))) []:=by
 have hN:A8=274877906944:=rfl
 refine Aq Tryz.func121 Q4 Q4 (w:=let z2:S:= .v (vB (E4 u));let z3:=decide (u.low=128);let z1:=(z3=false)∧Lf (.v (vB false)) z2 [] [];let z4:=decide (u.high=191);let z5:S:= .v (vB (Ak u.want 1 3));let z6:=Lf (.v (vB true)) z2 [] [];let z7:S:= .v (vB (decide (u.high=159)));let z8:S:= .v (vB (decide (u.high=143)));(.br (.leaf () []) (.br (.br (.seg [.call [] z5 []] (.leaf () [])) (.br (.br (.seg [.br false,.br true] (.leaf () [])) (.seg [.br true] (.leaf () []))) (.br (.br (.seg [.br false,.br true] (.leaf () [])) (.seg [.br true] (.leaf () []))) (.leaf () [])))) (.br (.br (.br (.leaf () []) (.seg [.br false] (.leaf () []))) (.seg [.br false] (.leaf () []))) (.br (.br (.br (.leaf () []) (.seg [.br false] (.leaf () []))) (.seg [.br false] (.leaf () []))) (.leaf () [])))),Bc (decide (u.want=0)&&(decide (u.low=0)&&decide (u.high=0))) z6 (Bc z3 (Bc z4 ((Fp 44 [vI u.want,vI 1,vI 3] [] z5 [])∧Lf z5 z2 [] []) (Bc (decide (u.want=2)) (Bc (decide (u.low=160)) ((z4=false)∧(z3=true)∧Lf z7 z2 [] []) ((z3=true)∧Lf z7 z2 [] [])) (Bc (decide (u.want=3)) (Bc (decide (u.low=144)) ((z4=false)∧(z3=true)∧Lf z8 z2 [] []) ((z3=true)∧Lf z8 z2 [] [])) (Lf (.v (vB false)) z2 [] [])))) (Bc (decide (u.want=2)) (Bc (decide (u.low=160)) (Bc z4 z6 z1) z1) (Bc (decide (u.want=3)) (Bc (decide (u.low=144)) (Bc z4 z6 z1) z1) (Lf (.v (vB false)) z2 [] [])))))) Q4 ?_
 refine⟨fun h1=>have p1:=(Ch dT (Ch dT dT)).1 h1;?_,fun h1=>have p1:=(Ci dT (Ci dT dF)).1 h1;?_⟩
 refine⟨(sB ?_),rfl⟩
 rotate_left
 refine dsp (fun h2 p2=>?_) fun h2 p2=>?_
 refine dsp (fun h3 p3=>?_) fun h3 p3=>?_
 refine⟨(Bf _ _ _),(sB ?_),rfl⟩
 rotate_left
 refine dsp (fun h4 p4=>?_) fun h4 p4=>?_
 refine dsp (fun h5 p5=>?_) fun h5 p5=>?_
 refine⟨h3,h2,(sB ?_),rfl⟩
 rotate_left
 refine⟨h2,(sB ?_),rfl⟩
 rotate_left
 refine dsp (fun h5 p5=>?_) fun h5 p5=>?_
 refine dsp (fun h6 p6=>?_) fun h6 p6=>?_
 refine⟨h3,h2,(sB ?_),rfl⟩
 rotate_left
 refine⟨h2,(sB ?_),rfl⟩
 rotate_left
 refine⟨(sB ?_),rfl⟩
 rotate_left
 refine dsp (fun h3 p3=>?_) fun h3 p3=>?_
 refine dsp (fun h4 p4=>?_) fun h4 p4=>?_
 refine dsp (fun h5 p5=>?_) fun h5 p5=>?_
 refine⟨(sB ?_),rfl⟩
 rotate_left
 refine⟨h2,(sB ?_),rfl⟩
 rotate_left
 refine⟨h2,(sB ?_),rfl⟩
 rotate_left
 refine dsp (fun h4 p4=>?_) fun h4 p4=>?_
 refine dsp (fun h5 p5=>?_) fun h5 p5=>?_
 refine dsp (fun h6 p6=>?_) fun h6 p6=>?_
 refine⟨(sB ?_),rfl⟩
 rotate_left
 refine⟨h2,(sB ?_),rfl⟩
 rotate_left
 refine⟨h2,(sB ?_),rfl⟩
 rotate_left
 refine⟨(sB ?_),rfl⟩
 rotate_left
 all_goals first|(rw[Bool.eq_iff_iff];simp[E4,Pu];omega)|(rw[Bool.eq_iff_iff];simp[E4,Pu,Ak];omega)|(simp_all[E4,Pu,Ak];done)
theorem Ae2 (b:Int):Fun Tryz.prog 214 [vI b] [] (.tup [.agg (K3 ((Bd b).getD utf0)),vB (Bd b).isSome]) []:=by
 have hN:A8=274877906944:=rfl
 refine Aq Tryz.func214 Q4 Q4 (w:=let zi:Int→C:= .int .i64;let z1:S:= .tup [.agg (K3 ((Bd b).getD utf0)),vB (Bd b).isSome];let z2:=Ak b 194 223;let z3:=Ak b 224 239;let z4:=Ak b 240 244;let z5:=decide (b=224);let z6:=decide (b=237);let z7:=decide (b=240);let z8:=decide (b=244);(.seg [.call [] (.v (vB (Ak b 0 127))) []] (.br (.leaf () []) (.seg [.call [] (.v (vB z2)) []] (.br (.br (.leaf () []) (.br (.leaf () []) (.br (.leaf () []) (.br (.leaf () []) (.leaf () []))))) (.seg [.call [] (.v (vB z3)) []] (.br (.br (.leaf () []) (.br (.leaf () []) (.br (.leaf () []) (.br (.leaf () []) (.leaf () []))))) (.seg [.call [] (.v (vB z4)) []] (.br (.br (.leaf () []) (.br (.leaf () []) (.br (.leaf () []) (.br (.leaf () []) (.leaf () []))))) (.leaf () [])))))))),(Fp 97 [vI b,vI 0,vI 127] [] (.v (vB (Ak b 0 127))) [])∧Bc (Ak b 0 127) (Lf (.tup [.agg [zi 0,zi 0,zi 0],vB true]) z1 [] []) ((Fp 97 [vI b,vI 194,vI 223] [] (.v (vB z2)) [])∧Bc z2 (Bc z5 (Lf (.tup [.agg [zi 1,zi 160,zi 191],vB true]) z1 [] []) (Bc z6 (Lf (.tup [.agg [zi 1,zi 128,zi 159],vB true]) z1 [] []) (Bc z7 (Lf (.tup [.agg [zi 1,zi 144,zi 191],vB true]) z1 [] []) (Bc z8 (Lf (.tup [.agg [zi 1,zi 128,zi 143],vB true]) z1 [] []) (Lf (.tup [.agg [zi 1,zi 128,zi 191],vB true]) z1 [] []))))) ((Fp 97 [vI b,vI 224,vI 239] [] (.v (vB z3)) [])∧Bc z3 (Bc z5 (Lf (.tup [.agg [zi 2,zi 160,zi 191],vB true]) z1 [] []) (Bc z6 (Lf (.tup [.agg [zi 2,zi 128,zi 159],vB true]) z1 [] []) (Bc z7 (Lf (.tup [.agg [zi 2,zi 144,zi 191],vB true]) z1 [] []) (Bc z8 (Lf (.tup [.agg [zi 2,zi 128,zi 143],vB true]) z1 [] []) (Lf (.tup [.agg [zi 2,zi 128,zi 191],vB true]) z1 [] []))))) ((Fp 97 [vI b,vI 240,vI 244] [] (.v (vB z4)) [])∧Bc z4 (Bc z5 (Lf (.tup [.agg [zi 3,zi 160,zi 191],vB true]) z1 [] []) (Bc z6 (Lf (.tup [.agg [zi 3,zi 128,zi 159],vB true]) z1 [] []) (Bc z7 (Lf (.tup [.agg [zi 3,zi 144,zi 191],vB true]) z1 [] []) (Bc z8 (Lf (.tup [.agg [zi 3,zi 128,zi 143],vB true]) z1 [] []) (Lf (.tup [.agg [zi 3,zi 128,zi 191],vB true]) z1 [] []))))) (Lf (.tup [.agg [zi 0,zi 0,zi 0],vB false]) z1 [] [])))))) Q4 ?_
 refine⟨(Cf _ _ _),fun h1=>have p1:=As h1;?_,fun h1=>have p1:=Ay h1;?_⟩
 refine zE ((Bd b).getD utf0) utf0 (fun hm1=>⟨(congrArg S.tup (Ab (congrArg V.agg (Ab (congrArg (C.int .i64) ?_) (Ab (congrArg (C.int .i64) ?_) (Ab (congrArg (C.int .i64) ?_) rfl)))) (Ab (congrArg V.c (congrArg C.bool ?_)) rfl))),rfl⟩) ?_
 rotate_left 5
 refine⟨(Cf _ _ _),fun h2=>have p2:=As h2;?_,fun h2=>have p2:=Ay h2;?_⟩
 refine dsp (fun h3 p3=>?_) fun h3 p3=>?_
 refine zE ((Bd b).getD utf0) (⟨1,160,191⟩:Utf) (fun hm1=>⟨(congrArg S.tup (Ab (congrArg V.agg (Ab (congrArg (C.int .i64) ?_) (Ab (congrArg (C.int .i64) ?_) (Ab (congrArg (C.int .i64) ?_) rfl)))) (Ab (congrArg V.c (congrArg C.bool ?_)) rfl))),rfl⟩) ?_
 rotate_left 5
 refine dsp (fun h4 p4=>?_) fun h4 p4=>?_
 refine zE ((Bd b).getD utf0) (⟨1,128,159⟩:Utf) (fun hm1=>⟨(congrArg S.tup (Ab (congrArg V.agg (Ab (congrArg (C.int .i64) ?_) (Ab (congrArg (C.int .i64) ?_) (Ab (congrArg (C.int .i64) ?_) rfl)))) (Ab (congrArg V.c (congrArg C.bool ?_)) rfl))),rfl⟩) ?_
 rotate_left 5
 refine dsp (fun h5 p5=>?_) fun h5 p5=>?_
 refine zE ((Bd b).getD utf0) (⟨1,144,191⟩:Utf) (fun hm1=>⟨(congrArg S.tup (Ab (congrArg V.agg (Ab (congrArg (C.int .i64) ?_) (Ab (congrArg (C.int .i64) ?_) (Ab (congrArg (C.int .i64) ?_) rfl)))) (Ab (congrArg V.c (congrArg C.bool ?_)) rfl))),rfl⟩) ?_
 rotate_left 5
 refine dsp (fun h6 p6=>?_) fun h6 p6=>?_
 refine zE ((Bd b).getD utf0) (⟨1,128,143⟩:Utf) (fun hm1=>⟨(congrArg S.tup (Ab (congrArg V.agg (Ab (congrArg (C.int .i64) ?_) (Ab (congrArg (C.int .i64) ?_) (Ab (congrArg (C.int .i64) ?_) rfl)))) (Ab (congrArg V.c (congrArg C.bool ?_)) rfl))),rfl⟩) ?_
 rotate_left 5
 refine zE ((Bd b).getD utf0) (⟨1,128,191⟩:Utf) (fun hm1=>⟨(congrArg S.tup (Ab (congrArg V.agg (Ab (congrArg (C.int .i64) ?_) (Ab (congrArg (C.int .i64) ?_) (Ab (congrArg (C.int .i64) ?_) rfl)))) (Ab (congrArg V.c (congrArg C.bool ?_)) rfl))),rfl⟩) ?_
 rotate_left 5
 refine⟨(Cf _ _ _),fun h3=>have p3:=As h3;?_,fun h3=>have p3:=Ay h3;?_⟩
 refine dsp (fun h4 p4=>?_) fun h4 p4=>?_
 refine zE ((Bd b).getD utf0) (⟨2,160,191⟩:Utf) (fun hm1=>⟨(congrArg S.tup (Ab (congrArg V.agg (Ab (congrArg (C.int .i64) ?_) (Ab (congrArg (C.int .i64) ?_) (Ab (congrArg (C.int .i64) ?_) rfl)))) (Ab (congrArg V.c (congrArg C.bool ?_)) rfl))),rfl⟩) ?_
 rotate_left 5
 refine dsp (fun h5 p5=>?_) fun h5 p5=>?_
 refine zE ((Bd b).getD utf0) (⟨2,128,159⟩:Utf) (fun hm1=>⟨(congrArg S.tup (Ab (congrArg V.agg (Ab (congrArg (C.int .i64) ?_) (Ab (congrArg (C.int .i64) ?_) (Ab (congrArg (C.int .i64) ?_) rfl)))) (Ab (congrArg V.c (congrArg C.bool ?_)) rfl))),rfl⟩) ?_
 rotate_left 5
 refine dsp (fun h6 p6=>?_) fun h6 p6=>?_
 refine zE ((Bd b).getD utf0) (⟨2,144,191⟩:Utf) (fun hm1=>⟨(congrArg S.tup (Ab (congrArg V.agg (Ab (congrArg (C.int .i64) ?_) (Ab (congrArg (C.int .i64) ?_) (Ab (congrArg (C.int .i64) ?_) rfl)))) (Ab (congrArg V.c (congrArg C.bool ?_)) rfl))),rfl⟩) ?_
 rotate_left 5
 refine dsp (fun h7 p7=>?_) fun h7 p7=>?_
 refine zE ((Bd b).getD utf0) (⟨2,128,143⟩:Utf) (fun hm1=>⟨(congrArg S.tup (Ab (congrArg V.agg (Ab (congrArg (C.int .i64) ?_) (Ab (congrArg (C.int .i64) ?_) (Ab (congrArg (C.int .i64) ?_) rfl)))) (Ab (congrArg V.c (congrArg C.bool ?_)) rfl))),rfl⟩) ?_
 rotate_left 5
 refine zE ((Bd b).getD utf0) (⟨2,128,191⟩:Utf) (fun hm1=>⟨(congrArg S.tup (Ab (congrArg V.agg (Ab (congrArg (C.int .i64) ?_) (Ab (congrArg (C.int .i64) ?_) (Ab (congrArg (C.int .i64) ?_) rfl)))) (Ab (congrArg V.c (congrArg C.bool ?_)) rfl))),rfl⟩) ?_
 rotate_left 5
 refine⟨(Cf _ _ _),fun h4=>have p4:=As h4;?_,fun h4=>have p4:=Ay h4;?_⟩
 refine dsp (fun h5 p5=>?_) fun h5 p5=>?_
 refine zE ((Bd b).getD utf0) (⟨3,160,191⟩:Utf) (fun hm1=>⟨(congrArg S.tup (Ab (congrArg V.agg (Ab (congrArg (C.int .i64) ?_) (Ab (congrArg (C.int .i64) ?_) (Ab (congrArg (C.int .i64) ?_) rfl)))) (Ab (congrArg V.c (congrArg C.bool ?_)) rfl))),rfl⟩) ?_
 rotate_left 5
 refine dsp (fun h6 p6=>?_) fun h6 p6=>?_
 refine zE ((Bd b).getD utf0) (⟨3,128,159⟩:Utf) (fun hm1=>⟨(congrArg S.tup (Ab (congrArg V.agg (Ab (congrArg (C.int .i64) ?_) (Ab (congrArg (C.int .i64) ?_) (Ab (congrArg (C.int .i64) ?_) rfl)))) (Ab (congrArg V.c (congrArg C.bool ?_)) rfl))),rfl⟩) ?_
 rotate_left 5
 refine dsp (fun h7 p7=>?_) fun h7 p7=>?_
 refine zE ((Bd b).getD utf0) (⟨3,144,191⟩:Utf) (fun hm1=>⟨(congrArg S.tup (Ab (congrArg V.agg (Ab (congrArg (C.int .i64) ?_) (Ab (congrArg (C.int .i64) ?_) (Ab (congrArg (C.int .i64) ?_) rfl)))) (Ab (congrArg V.c (congrArg C.bool ?_)) rfl))),rfl⟩) ?_
 rotate_left 5
 refine dsp (fun h8 p8=>?_) fun h8 p8=>?_
 refine zE ((Bd b).getD utf0) (⟨3,128,143⟩:Utf) (fun hm1=>⟨(congrArg S.tup (Ab (congrArg V.agg (Ab (congrArg (C.int .i64) ?_) (Ab (congrArg (C.int .i64) ?_) (Ab (congrArg (C.int .i64) ?_) rfl)))) (Ab (congrArg V.c (congrArg C.bool ?_)) rfl))),rfl⟩) ?_
 rotate_left 5
 refine zE ((Bd b).getD utf0) (⟨3,128,191⟩:Utf) (fun hm1=>⟨(congrArg S.tup (Ab (congrArg V.agg (Ab (congrArg (C.int .i64) ?_) (Ab (congrArg (C.int .i64) ?_) (Ab (congrArg (C.int .i64) ?_) rfl)))) (Ab (congrArg V.c (congrArg C.bool ?_)) rfl))),rfl⟩) ?_
 rotate_left 5
 refine zE ((Bd b).getD utf0) utf0 (fun hm1=>⟨(congrArg S.tup (Ab (congrArg V.agg (Ab (congrArg (C.int .i64) ?_) (Ab (congrArg (C.int .i64) ?_) (Ab (congrArg (C.int .i64) ?_) rfl)))) (Ab (congrArg V.c (congrArg C.bool ?_)) rfl))),rfl⟩) ?_
 rotate_left 5
 all_goals first|(simp[Bd,utf0, *];done)|(simp_all[Bd,utf0,Ak];done)|(simp_all[Bd,utf0,Ak];omega)
theorem Ae3 (b:Int):Fun Tryz.prog 132 [vI b] [] (.tup [.agg (K3 ((Bd b).getD utf0)),vB (Bd b).isSome]) []:=by
 have hN:A8=274877906944:=rfl
 refine Aq Tryz.func132 Q4 Q4 (w:=let zi:Int→C:= .int .i64;let z1:S:= .tup [.agg (K3 ((Bd b).getD utf0)),vB (Bd b).isSome];let z2:=Ak b 194 223;let z3:=Ak b 224 239;let z4:=Ak b 240 244;let z5:=decide (b=224);let z6:=decide (b=237);let z7:=decide (b=240);let z8:=decide (b=244);(.seg [.call [] (.v (vB (Ak b 0 127))) []] (.br (.leaf () []) (.seg [.call [] (.v (vB z2)) []] (.br (.br (.leaf () []) (.br (.leaf () []) (.br (.leaf () []) (.br (.leaf () []) (.leaf () []))))) (.seg [.call [] (.v (vB z3)) []] (.br (.br (.leaf () []) (.br (.leaf () []) (.br (.leaf () []) (.br (.leaf () []) (.leaf () []))))) (.seg [.call [] (.v (vB z4)) []] (.br (.br (.leaf () []) (.br (.leaf () []) (.br (.leaf () []) (.br (.leaf () []) (.leaf () []))))) (.leaf () [])))))))),(Fp 44 [vI b,vI 0,vI 127] [] (.v (vB (Ak b 0 127))) [])∧Bc (Ak b 0 127) (Lf (.tup [.agg [zi 0,zi 0,zi 0],vB true]) z1 [] []) ((Fp 44 [vI b,vI 194,vI 223] [] (.v (vB z2)) [])∧Bc z2 (Bc z5 (Lf (.tup [.agg [zi 1,zi 160,zi 191],vB true]) z1 [] []) (Bc z6 (Lf (.tup [.agg [zi 1,zi 128,zi 159],vB true]) z1 [] []) (Bc z7 (Lf (.tup [.agg [zi 1,zi 144,zi 191],vB true]) z1 [] []) (Bc z8 (Lf (.tup [.agg [zi 1,zi 128,zi 143],vB true]) z1 [] []) (Lf (.tup [.agg [zi 1,zi 128,zi 191],vB true]) z1 [] []))))) ((Fp 44 [vI b,vI 224,vI 239] [] (.v (vB z3)) [])∧Bc z3 (Bc z5 (Lf (.tup [.agg [zi 2,zi 160,zi 191],vB true]) z1 [] []) (Bc z6 (Lf (.tup [.agg [zi 2,zi 128,zi 159],vB true]) z1 [] []) (Bc z7 (Lf (.tup [.agg [zi 2,zi 144,zi 191],vB true]) z1 [] []) (Bc z8 (Lf (.tup [.agg [zi 2,zi 128,zi 143],vB true]) z1 [] []) (Lf (.tup [.agg [zi 2,zi 128,zi 191],vB true]) z1 [] []))))) ((Fp 44 [vI b,vI 240,vI 244] [] (.v (vB z4)) [])∧Bc z4 (Bc z5 (Lf (.tup [.agg [zi 3,zi 160,zi 191],vB true]) z1 [] []) (Bc z6 (Lf (.tup [.agg [zi 3,zi 128,zi 159],vB true]) z1 [] []) (Bc z7 (Lf (.tup [.agg [zi 3,zi 144,zi 191],vB true]) z1 [] []) (Bc z8 (Lf (.tup [.agg [zi 3,zi 128,zi 143],vB true]) z1 [] []) (Lf (.tup [.agg [zi 3,zi 128,zi 191],vB true]) z1 [] []))))) (Lf (.tup [.agg [zi 0,zi 0,zi 0],vB false]) z1 [] [])))))) Q4 ?_
 refine⟨(Bf _ _ _),fun h1=>have p1:=As h1;?_,fun h1=>have p1:=Ay h1;?_⟩
 refine zE ((Bd b).getD utf0) utf0 (fun hm1=>⟨(congrArg S.tup (Ab (congrArg V.agg (Ab (congrArg (C.int .i64) ?_) (Ab (congrArg (C.int .i64) ?_) (Ab (congrArg (C.int .i64) ?_) rfl)))) (Ab (congrArg V.c (congrArg C.bool ?_)) rfl))),rfl⟩) ?_
 rotate_left 5
 refine⟨(Bf _ _ _),fun h2=>have p2:=As h2;?_,fun h2=>have p2:=Ay h2;?_⟩
 refine dsp (fun h3 p3=>?_) fun h3 p3=>?_
 refine zE ((Bd b).getD utf0) (⟨1,160,191⟩:Utf) (fun hm1=>⟨(congrArg S.tup (Ab (congrArg V.agg (Ab (congrArg (C.int .i64) ?_) (Ab (congrArg (C.int .i64) ?_) (Ab (congrArg (C.int .i64) ?_) rfl)))) (Ab (congrArg V.c (congrArg C.bool ?_)) rfl))),rfl⟩) ?_
 rotate_left 5
 refine dsp (fun h4 p4=>?_) fun h4 p4=>?_
 refine zE ((Bd b).getD utf0) (⟨1,128,159⟩:Utf) (fun hm1=>⟨(congrArg S.tup (Ab (congrArg V.agg (Ab (congrArg (C.int .i64) ?_) (Ab (congrArg (C.int .i64) ?_) (Ab (congrArg (C.int .i64) ?_) rfl)))) (Ab (congrArg V.c (congrArg C.bool ?_)) rfl))),rfl⟩) ?_
 rotate_left 5
 refine dsp (fun h5 p5=>?_) fun h5 p5=>?_
 refine zE ((Bd b).getD utf0) (⟨1,144,191⟩:Utf) (fun hm1=>⟨(congrArg S.tup (Ab (congrArg V.agg (Ab (congrArg (C.int .i64) ?_) (Ab (congrArg (C.int .i64) ?_) (Ab (congrArg (C.int .i64) ?_) rfl)))) (Ab (congrArg V.c (congrArg C.bool ?_)) rfl))),rfl⟩) ?_
 rotate_left 5
 refine dsp (fun h6 p6=>?_) fun h6 p6=>?_
 refine zE ((Bd b).getD utf0) (⟨1,128,143⟩:Utf) (fun hm1=>⟨(congrArg S.tup (Ab (congrArg V.agg (Ab (congrArg (C.int .i64) ?_) (Ab (congrArg (C.int .i64) ?_) (Ab (congrArg (C.int .i64) ?_) rfl)))) (Ab (congrArg V.c (congrArg C.bool ?_)) rfl))),rfl⟩) ?_
 rotate_left 5
 refine zE ((Bd b).getD utf0) (⟨1,128,191⟩:Utf) (fun hm1=>⟨(congrArg S.tup (Ab (congrArg V.agg (Ab (congrArg (C.int .i64) ?_) (Ab (congrArg (C.int .i64) ?_) (Ab (congrArg (C.int .i64) ?_) rfl)))) (Ab (congrArg V.c (congrArg C.bool ?_)) rfl))),rfl⟩) ?_
 rotate_left 5
 refine⟨(Bf _ _ _),fun h3=>have p3:=As h3;?_,fun h3=>have p3:=Ay h3;?_⟩
 refine dsp (fun h4 p4=>?_) fun h4 p4=>?_
 refine zE ((Bd b).getD utf0) (⟨2,160,191⟩:Utf) (fun hm1=>⟨(congrArg S.tup (Ab (congrArg V.agg (Ab (congrArg (C.int .i64) ?_) (Ab (congrArg (C.int .i64) ?_) (Ab (congrArg (C.int .i64) ?_) rfl)))) (Ab (congrArg V.c (congrArg C.bool ?_)) rfl))),rfl⟩) ?_
 rotate_left 5
 refine dsp (fun h5 p5=>?_) fun h5 p5=>?_
 refine zE ((Bd b).getD utf0) (⟨2,128,159⟩:Utf) (fun hm1=>⟨(congrArg S.tup (Ab (congrArg V.agg (Ab (congrArg (C.int .i64) ?_) (Ab (congrArg (C.int .i64) ?_) (Ab (congrArg (C.int .i64) ?_) rfl)))) (Ab (congrArg V.c (congrArg C.bool ?_)) rfl))),rfl⟩) ?_
 rotate_left 5
 refine dsp (fun h6 p6=>?_) fun h6 p6=>?_
 refine zE ((Bd b).getD utf0) (⟨2,144,191⟩:Utf) (fun hm1=>⟨(congrArg S.tup (Ab (congrArg V.agg (Ab (congrArg (C.int .i64) ?_) (Ab (congrArg (C.int .i64) ?_) (Ab (congrArg (C.int .i64) ?_) rfl)))) (Ab (congrArg V.c (congrArg C.bool ?_)) rfl))),rfl⟩) ?_
 rotate_left 5
 refine dsp (fun h7 p7=>?_) fun h7 p7=>?_
 refine zE ((Bd b).getD utf0) (⟨2,128,143⟩:Utf) (fun hm1=>⟨(congrArg S.tup (Ab (congrArg V.agg (Ab (congrArg (C.int .i64) ?_) (Ab (congrArg (C.int .i64) ?_) (Ab (congrArg (C.int .i64) ?_) rfl)))) (Ab (congrArg V.c (congrArg C.bool ?_)) rfl))),rfl⟩) ?_
 rotate_left 5
 refine zE ((Bd b).getD utf0) (⟨2,128,191⟩:Utf) (fun hm1=>⟨(congrArg S.tup (Ab (congrArg V.agg (Ab (congrArg (C.int .i64) ?_) (Ab (congrArg (C.int .i64) ?_) (Ab (congrArg (C.int .i64) ?_) rfl)))) (Ab (congrArg V.c (congrArg C.bool ?_)) rfl))),rfl⟩) ?_
 rotate_left 5
 refine⟨(Bf _ _ _),fun h4=>have p4:=As h4;?_,fun h4=>have p4:=Ay h4;?_⟩
 refine dsp (fun h5 p5=>?_) fun h5 p5=>?_
 refine zE ((Bd b).getD utf0) (⟨3,160,191⟩:Utf) (fun hm1=>⟨(congrArg S.tup (Ab (congrArg V.agg (Ab (congrArg (C.int .i64) ?_) (Ab (congrArg (C.int .i64) ?_) (Ab (congrArg (C.int .i64) ?_) rfl)))) (Ab (congrArg V.c (congrArg C.bool ?_)) rfl))),rfl⟩) ?_
 rotate_left 5
 refine dsp (fun h6 p6=>?_) fun h6 p6=>?_
 refine zE ((Bd b).getD utf0) (⟨3,128,159⟩:Utf) (fun hm1=>⟨(congrArg S.tup (Ab (congrArg V.agg (Ab (congrArg (C.int .i64) ?_) (Ab (congrArg (C.int .i64) ?_) (Ab (congrArg (C.int .i64) ?_) rfl)))) (Ab (congrArg V.c (congrArg C.bool ?_)) rfl))),rfl⟩) ?_
 rotate_left 5
 refine dsp (fun h7 p7=>?_) fun h7 p7=>?_
 refine zE ((Bd b).getD utf0) (⟨3,144,191⟩:Utf) (fun hm1=>⟨(congrArg S.tup (Ab (congrArg V.agg (Ab (congrArg (C.int .i64) ?_) (Ab (congrArg (C.int .i64) ?_) (Ab (congrArg (C.int .i64) ?_) rfl)))) (Ab (congrArg V.c (congrArg C.bool ?_)) rfl))),rfl⟩) ?_
 rotate_left 5
 refine dsp (fun h8 p8=>?_) fun h8 p8=>?_
 refine zE ((Bd b).getD utf0) (⟨3,128,143⟩:Utf) (fun hm1=>⟨(congrArg S.tup (Ab (congrArg V.agg (Ab (congrArg (C.int .i64) ?_) (Ab (congrArg (C.int .i64) ?_) (Ab (congrArg (C.int .i64) ?_) rfl)))) (Ab (congrArg V.c (congrArg C.bool ?_)) rfl))),rfl⟩) ?_
 rotate_left 5
 refine zE ((Bd b).getD utf0) (⟨3,128,191⟩:Utf) (fun hm1=>⟨(congrArg S.tup (Ab (congrArg V.agg (Ab (congrArg (C.int .i64) ?_) (Ab (congrArg (C.int .i64) ?_) (Ab (congrArg (C.int .i64) ?_) rfl)))) (Ab (congrArg V.c (congrArg C.bool ?_)) rfl))),rfl⟩) ?_
 rotate_left 5
 refine zE ((Bd b).getD utf0) utf0 (fun hm1=>⟨(congrArg S.tup (Ab (congrArg V.agg (Ab (congrArg (C.int .i64) ?_) (Ab (congrArg (C.int .i64) ?_) (Ab (congrArg (C.int .i64) ?_) rfl)))) (Ab (congrArg V.c (congrArg C.bool ?_)) rfl))),rfl⟩) ?_
 rotate_left 5
 all_goals first|(simp[Bd,utf0, *];done)|(simp_all[Bd,utf0,Ak];done)|(simp_all[Bd,utf0,Ak];omega)
theorem Ahm (u:Utf) (b:Int):Fun Tryz.prog 179 [.agg (K3 u),vI b] [] (.tup [.agg (K3 ((By u b).getD u)),vB (By u b).isSome]) []:=by
 have hN:A8=274877906944:=rfl
 refine Aq Tryz.func179 Q4 Q4 (w:=let z1:S:= .tup [.agg (K3 ((By u b).getD u)),vB (By u b).isSome];let z2:=Lf (.tup [.agg (K3 u),vB false]) z1 [] [];let z3:S:= .tup [.agg (K3 ((Bd b).getD utf0)),vB (Bd b).isSome];let z4:=Ak b u.low u.high;(.seg [.call [] (.v (vB (E4 u))) []] (.br (.leaf () []) (.br (.seg [.call [] z3 []] (.br (.leaf () []) (.leaf () []))) (.seg [.call [] (.v (vB z4)) []] (.br (.leaf () []) (.br (.leaf () []) (.seg [.as 42 (.v (vI (u.want-1)))] (.leaf () []))))))),(Fp 103 [.agg (K3 u)] [] (.v (vB (E4 u))) [])∧Bc (!(E4 u)) z2 (Bc (decide (u.want=0)) ((Fp 214 [vI b] [] z3 [])∧Bc (!(Bd b).isSome) z2 (Lf (.tup [.agg (K3 ((Bd b).getD utf0)),vB true]) z1 [] [])) ((Fp 97 [vI b,vI u.low,vI u.high] [] (.v (vB z4)) [])∧Bc (!z4) z2 (Bc (decide (u.want=1)) (Lf (.tup [.agg [.int .i64 0,.int .i64 0,.int .i64 0],vB true]) z1 [] []) ((wI (u.want-1))∧Lf (.tup [.agg [.int .i64 (u.want-1),.int .i64 128,.int .i64 191],vB true]) z1 [] [])))))) Q4 ?_
 refine⟨(Ahj u),fun h1=>have q1:=An h1;?_,fun h1=>have q1:=Am h1;have p1:=Mo q1;?_⟩
 refine zE ((By u b).getD u) u (fun hm1=>⟨(congrArg S.tup (Ab (congrArg V.agg (Ab (congrArg (C.int .i64) ?_) (Ab (congrArg (C.int .i64) ?_) (Ab (congrArg (C.int .i64) ?_) rfl)))) (Ab (congrArg V.c (congrArg C.bool ?_)) rfl))),rfl⟩) ?_
 rotate_left 5
 refine dsp (fun h2 p2=>?_) fun h2 p2=>?_
 have hu:=Ye q1 p2
 refine⟨(Ae2 _),fun h3=>have q3:=An h3;?_,fun h3=>have q3:=Am h3;?_⟩
 refine zE ((By u b).getD u) u (fun hm1=>⟨(congrArg S.tup (Ab (congrArg V.agg (Ab (congrArg (C.int .i64) ?_) (Ab (congrArg (C.int .i64) ?_) (Ab (congrArg (C.int .i64) ?_) rfl)))) (Ab (congrArg V.c (congrArg C.bool ?_)) rfl))),rfl⟩) ?_
 rotate_left 5
 refine zE ((By u b).getD u) ((Bd b).getD utf0) (fun hm1=>⟨(congrArg S.tup (Ab (congrArg V.agg (Ab (congrArg (C.int .i64) ?_) (Ab (congrArg (C.int .i64) ?_) (Ab (congrArg (C.int .i64) ?_) rfl)))) (Ab (congrArg V.c (congrArg C.bool ?_)) rfl))),rfl⟩) ?_
 rotate_left 5
 refine⟨(Cf _ _ _),fun h3=>have q3:=An h3;have p3:=Ay q3;?_,fun h3=>have q3:=Am h3;have p3:=As q3;?_⟩
 refine zE ((By u b).getD u) u (fun hm1=>⟨(congrArg S.tup (Ab (congrArg V.agg (Ab (congrArg (C.int .i64) ?_) (Ab (congrArg (C.int .i64) ?_) (Ab (congrArg (C.int .i64) ?_) rfl)))) (Ab (congrArg V.c (congrArg C.bool ?_)) rfl))),rfl⟩) ?_
 rotate_left 5
 refine dsp (fun h4 p4=>?_) fun h4 p4=>?_
 refine zE ((By u b).getD u) utf0 (fun hm1=>⟨(congrArg S.tup (Ab (congrArg V.agg (Ab (congrArg (C.int .i64) ?_) (Ab (congrArg (C.int .i64) ?_) (Ab (congrArg (C.int .i64) ?_) rfl)))) (Ab (congrArg V.c (congrArg C.bool ?_)) rfl))),rfl⟩) ?_
 rotate_left 5
 refine zE ((By u b).getD u) (⟨u.want-1,128,191⟩:Utf) (fun hm1=>⟨(Ad Q2 Q2),(congrArg S.tup (Ab (congrArg V.agg (Ab (congrArg (C.int .i64) ?_) (Ab (congrArg (C.int .i64) ?_) (Ab (congrArg (C.int .i64) ?_) rfl)))) (Ab (congrArg V.c (congrArg C.bool ?_)) rfl))),rfl⟩) ?_
 rotate_left 5
 all_goals first|(simp[By, *];done)|(simp[By,utf0, *];done)|(simp_all[By,utf0,Ak];done)|(simp_all[By,utf0,Ak];omega)
theorem Tf (u:Utf) (b:Int):Fun Tryz.prog 63 [.agg (K3 u),vI b] [] (.tup [.agg (K3 ((By u b).getD u)),vB (By u b).isSome]) []:=by
 have hN:A8=274877906944:=rfl
 refine Aq Tryz.func63 Q4 Q4 (w:=let z1:S:= .tup [.agg (K3 ((By u b).getD u)),vB (By u b).isSome];let z2:S:= .tup [.agg (K3 ((Bd b).getD utf0)),vB (Bd b).isSome];let z3:=Lf (.tup [.agg (K3 u),vB false]) z1 [] [];let z4:=Ak b u.low u.high;(.seg [.call [] (.v (vB (E4 u))) []] (.br (.leaf () []) (.br (.seg [.call [] z2 []] (.leaf () [])) (.seg [.call [] (.v (vB z4)) []] (.br (.leaf () []) (.br (.leaf () []) (.seg [.as 31 (.v (vI (u.want-1)))] (.leaf () []))))))),(Fp 121 [.agg (K3 u)] [] (.v (vB (E4 u))) [])∧Bc (!(E4 u)) z3 (Bc (decide (u.want=0)) ((Fp 132 [vI b] [] z2 [])∧Lf z2 z1 [] []) ((Fp 44 [vI b,vI u.low,vI u.high] [] (.v (vB z4)) [])∧Bc (!z4) z3 (Bc (decide (u.want=1)) (Lf (.tup [.agg [.int .i64 0,.int .i64 0,.int .i64 0],vB true]) z1 [] []) ((wI (u.want-1))∧Lf (.tup [.agg [.int .i64 (u.want-1),.int .i64 128,.int .i64 191],vB true]) z1 [] [])))))) Q4 ?_
 refine⟨(Ahk u),fun h1=>have q1:=An h1;?_,fun h1=>have q1:=Am h1;have p1:=Mo q1;?_⟩
 refine zE ((By u b).getD u) u (fun hm1=>⟨(congrArg S.tup (Ab (congrArg V.agg (Ab (congrArg (C.int .i64) ?_) (Ab (congrArg (C.int .i64) ?_) (Ab (congrArg (C.int .i64) ?_) rfl)))) (Ab (congrArg V.c (congrArg C.bool ?_)) rfl))),rfl⟩) ?_
 rotate_left 5
 refine dsp (fun h2 p2=>?_) fun h2 p2=>?_
 have hu:=Ye q1 p2
 refine zE ((By u b).getD u) ((Bd b).getD utf0) (fun hm1=>⟨(Ae3 _),(congrArg S.tup (Ab (congrArg V.agg (Ab (congrArg (C.int .i64) ?_) (Ab (congrArg (C.int .i64) ?_) (Ab (congrArg (C.int .i64) ?_) rfl)))) (Ab (congrArg V.c (congrArg C.bool ?_)) rfl))),rfl⟩) ?_
 rotate_left 5
 refine⟨(Bf _ _ _),fun h3=>have q3:=An h3;have p3:=Ay q3;?_,fun h3=>have q3:=Am h3;have p3:=As q3;?_⟩
 refine zE ((By u b).getD u) u (fun hm1=>⟨(congrArg S.tup (Ab (congrArg V.agg (Ab (congrArg (C.int .i64) ?_) (Ab (congrArg (C.int .i64) ?_) (Ab (congrArg (C.int .i64) ?_) rfl)))) (Ab (congrArg V.c (congrArg C.bool ?_)) rfl))),rfl⟩) ?_
 rotate_left 5
 refine dsp (fun h4 p4=>?_) fun h4 p4=>?_
 refine zE ((By u b).getD u) utf0 (fun hm1=>⟨(congrArg S.tup (Ab (congrArg V.agg (Ab (congrArg (C.int .i64) ?_) (Ab (congrArg (C.int .i64) ?_) (Ab (congrArg (C.int .i64) ?_) rfl)))) (Ab (congrArg V.c (congrArg C.bool ?_)) rfl))),rfl⟩) ?_
 rotate_left 5
 refine zE ((By u b).getD u) (⟨u.want-1,128,191⟩:Utf) (fun hm1=>⟨(Ad Q2 Q2),(congrArg S.tup (Ab (congrArg V.agg (Ab (congrArg (C.int .i64) ?_) (Ab (congrArg (C.int .i64) ?_) (Ab (congrArg (C.int .i64) ?_) rfl)))) (Ab (congrArg V.c (congrArg C.bool ?_)) rfl))),rfl⟩) ?_
 rotate_left 5
 all_goals first|(simp[By, *];done)|(simp[By,utf0, *];done)|(simp_all[By,utf0,Ak];done)|(simp_all[By,utf0,Ak];omega)
structure Lr where
 u:Utf
 i:Nat
def Lt (u:Utf) (s:List UInt8):Fam:=⟨Lr,fun q1=>[(1,.v (vT s)),(2,.v (vP 0)),(4,.v (vP 1)),(6,.v (vI (q1.i:Int)))],fun q1=>[.cells (K3 q1.u),.cells [.int .i64 0,.int .i64 0,.int .i64 0]],fun q1=>q1.i≤s.length∧Qb q1.u (List.drop q1.i s) q1.i=Qb u s 0,fun q1=>s.length-q1.i⟩
theorem Ahn (u:Utf) (s:List UInt8) (hp1:s.length≤A8):Fun Tryz.prog 212 [.agg (K3 u),vT s] [] (.tup [.agg (K3 (T4 u s)),vI (Aa0 u s)]) []:=by
 have hN:A8=274877906944:=rfl
 refine Aq Tryz.func212 Q4 Q4 (w:=let zi:Int→C:= .int .i64;let z7:=Lt u s;let z8:S:= .tup [.agg (K3 (T4 u s)),vI (Aa0 u s)];(.seg [.at 0,.keep [1,2,4,6],.sel [0,1]] (.loop z7 fun q1=> .br (.intro (Sx (s[q1.i]?)) fun x1=>let z2:=((UInt8.toNat x1:Nat):Int);let z1:S:= .tup [.agg (K3 ((By q1.u z2).getD q1.u)),vB (By q1.u z2).isSome];.seg [.tree (fr (.two 5 (fr (.one 9 (.one 10 (.first 11 (.done)))) 6 3) 9 (.one 5 (fr (.one 10 (.first 11 (.done))) 6 3))) 0 5) 12 [],.ch x1,.as 20 (.v (vI z2)),.call [] z1 [],.at 0,.keep [1,2,4,6,7,8],.sel [0,1,2],.call [] z1 [],.at 0,.keep [1,2,4,6,7,8],.sel [0,1,2]] (.br (.leaf () []) (.seg [.as 14 (.v (vI ((q1.i:Int)+1))),.at 0,.keep [1,2,4,6],.sel [0,1]] (.next)))) (.leaf () [])),z7.Has [(1,.v (vT s)),(2,.v (vP 0)),(4,.v (vP 1)),(6,.v (vI 0))] [.cells (K3 u),.cells [zi 0,zi 0,zi 0]]∧∀q1,z7.inv q1→(let z5:=(q1.i:Int);let z6:=K3 q1.u;Bc (decide (z5<(s.length:Int))) (El (s[q1.i]?) fun x1=>(let z4:=((UInt8.toNat x1:Nat):Int);let z3:=By q1.u z4;(s[q1.i]? =some x1)∧((0:Int)≤z5)∧(s[q1.i]? =some x1)∧((0:Int)≤z5)∧(wI (z4))∧(wI (z4))∧(Fp 63 [.agg z6,vI z4] [] (.tup [.agg (K3 (z3.getD q1.u)),vB z3.isSome]) [])∧(Fp 63 [.agg z6,vI z4] [] (.tup [.agg (K3 (z3.getD q1.u)),vB z3.isSome]) [])∧(([.cells z6,.cells [zi 0,zi 0,zi 0],.cells (K3 (z3.getD q1.u))]:List Blk)=[.cells z6,.cells [zi 0,zi 0,zi 0],.cells (K3 (z3.getD q1.u))])∧(([(1,.v (vT s)),(2,.v (vP 0)),(4,.v (vP 1)),(6,.v (vI z5)),(7,.v (vP 2)),(8,.v (vB z3.isSome))]:List (Nat×S))=[(1,.v (vT s)),(2,.v (vP 0)),(4,.v (vP 1)),(6,.v (vI z5)),(7,.v (vP 2)),(8,.v (vB z3.isSome))])∧Bc (!z3.isSome) (Lf (.tup [.agg z6,vI z5]) z8 [] []) ((wI (z5+1))∧z7.Nxt q1 [(1,.v (vT s)),(2,.v (vP 0)),(4,.v (vP 1)),(6,.v (vI (z5+1)))] [.cells (K3 (z3.getD q1.u)),.cells [zi 0,zi 0,zi 0]]))) (Lf (.tup [.agg z6,vI (-1)]) z8 [] [])))) Q4 ?_
 refine⟨Bj (j:=(⟨u,0⟩:Lr)) Q9 rfl (by dsimp only[Lt];exact⟨by omega,by simp⟩),fun (q1:Lr) hq_q1=>?_⟩
 have hi_q1:q1.i≤s.length∧Qb q1.u (List.drop q1.i s) q1.i=Qb u s 0:=hq_q1
 obtain ⟨v1,v2⟩:=hi_q1
 refine dsp (fun h1 p1=>?_) fun h1 p1=>?_
 refine⟨(Bm (l:=s) (i:=q1.i) Q2),fun x1 hx1=>?_⟩
 have hb_x1:=UInt8.toNat_lt x1
 refine⟨hx1,Q2,hx1,Q2,(Ad Q2 Q2),(Ad Q2 Q2),(Tf q1.u _),(Tf q1.u _),rfl,rfl,fun h2=>have q2:=An h2;?_,fun h2=>have q2:=Am h2;?_⟩
 rw[Dj hx1,Qb] at v2
 refine zE (T4 u s) q1.u (fun hm1=>⟨(congrArg S.tup (Ab (congrArg V.agg (Ab (congrArg (C.int .i64) ?_) (Ab (congrArg (C.int .i64) ?_) (Ab (congrArg (C.int .i64) ?_) rfl)))) (Ab (congrArg V.c (congrArg (C.int .i64) ?_)) rfl))),rfl⟩) ?_
 rotate_left 5
 rw[Dj hx1,Qb] at v2
 exact⟨(Ad Q2 Q2),A5 (j:=(⟨((By q1.u ((UInt8.toNat x1:Nat):Int)).getD q1.u),q1.i+1⟩:Lr)) Q9 rfl (by dsimp only[Lt];exact⟨by omega,by cases hu:By q1.u (x1.toNat:Int)<;>simp_all⟩) (by dsimp only[Lt];omega)⟩
 rw[Lj p1] at v2
 refine zE (T4 u s) q1.u (fun hm1=>⟨(congrArg S.tup (Ab (congrArg V.agg (Ab (congrArg (C.int .i64) ?_) (Ab (congrArg (C.int .i64) ?_) (Ab (congrArg (C.int .i64) ?_) rfl)))) (Ab (congrArg V.c (congrArg (C.int .i64) ?_)) rfl))),rfl⟩) ?_
 rotate_left 5
 all_goals first|(unfold T4;rw[←v2,Qb];done)|(unfold Aa0;rw[←v2,Qb];done)|(unfold T4;rw[←v2];clear v2;cases hu:By q1.u (x1.toNat:Int)<;>simp_all)|(unfold Aa0;rw[←v2];clear v2;cases hu:By q1.u (x1.toNat:Int)<;>simp_all)
theorem Amx (f:Fld) (before:Int) (n:Int) (hp1:(0:Int)≤n∧n≤1000):Fun Tryz.prog 160 [.agg (Gb f),vI before,vI n] [] (.v (vB (decide (before<(f).number)&&Jh f n))) []:=by
 have hN:A8=274877906944:=rfl
 refine Aq Tryz.func160 Q4 Q4 (w:=let z1:S:= .v (vB (decide (before<(f).number)&&Jh f n));let z2:S:= .v (vB (Ak f.msg 0 (n-1)));let z3:=Lf (.v (vB false)) z1 [] [];let z4:=Lf (.v (vB (decide (f.msg=(-1))))) z1 [] [];let z5:=Dq f.number;(.seg [.call [] (.v (vB z5)) []] (.br (.leaf () []) (.br (.leaf () []) (.seg [.call [] (.v (vB (Ey f.kind))) []] (.br (.leaf () []) (.br (.br (.leaf () []) (.seg [.call [] (.v (vB (Db f.kind))) []] (.br (.leaf () []) (.br (.seg [.as 45 (.v (vI (n-1))),.call [] z2 []] (.leaf () [])) (.leaf () []))))) (.br (.seg [.as 45 (.v (vI (n-1))),.call [] z2 []] (.leaf () [])) (.leaf () []))))))),(Fp 207 [vI f.number] [] (.v (vB z5)) [])∧Bc (!z5) z3 (Bc (decide (f.number≤before)) z3 ((Fp 208 [vI f.kind] [] (.v (vB (Ey f.kind))) [])∧Bc (!(Ey f.kind)) z3 (Bc f.packed (Bc (!f.rep) z3 ((Fp 209 [vI f.kind] [] (.v (vB (Db f.kind))) [])∧Bc (!(Db f.kind)) z3 (Bc (decide (f.kind=8)) ((wI (n-1))∧(Fp 97 [vI f.msg,vI 0,vI (n-1)] [] z2 [])∧Lf z2 z1 [] []) z4))) (Bc (decide (f.kind=8)) ((wI (n-1))∧(Fp 97 [vI f.msg,vI 0,vI (n-1)] [] z2 [])∧Lf z2 z1 [] []) z4)))))) Q4 ?_
 refine⟨(Aes _),fun h1=>have q1:=An h1;?_,fun h1=>have q1:=Am h1;?_⟩
 refine⟨(sB ?_),rfl⟩
 rotate_left
 refine dsp (fun h2 p2=>?_) fun h2 p2=>?_
 refine⟨(sB ?_),rfl⟩
 rotate_left
 refine⟨(Adp _),fun h3=>have q3:=An h3;have p3:=Ay q3;?_,fun h3=>have q3:=Am h3;have p3:=As q3;?_⟩
 refine⟨(sB ?_),rfl⟩
 rotate_left
 refine⟨fun h4=>?_,fun h4=>?_⟩
 refine⟨fun h5=>have q5:=An h5;?_,fun h5=>have q5:=Am h5;?_⟩
 refine⟨(sB ?_),rfl⟩
 rotate_left
 refine⟨(Aa7 _),fun h6=>have q6:=An h6;have p6:=Ay q6;?_,fun h6=>have q6:=Am h6;have p6:=As q6;?_⟩
 refine⟨(sB ?_),rfl⟩
 rotate_left
 refine dsp (fun h7 p7=>?_) fun h7 p7=>?_
 refine⟨(Ad Q2 Q2),(Cf _ _ _),(sB ?_),rfl⟩
 rotate_left
 refine⟨(sB ?_),rfl⟩
 rotate_left
 refine dsp (fun h5 p5=>?_) fun h5 p5=>?_
 refine⟨(Ad Q2 Q2),(Cf _ _ _),(sB ?_),rfl⟩
 rotate_left
 refine⟨(sB ?_),rfl⟩
 rotate_left
 all_goals first|(simp[Jh, *];done)|(simp_all[Jh];done)|(simp_all[Jh];omega)|(rw[Bool.eq_iff_iff];simp_all[Jh];omega)
theorem Ua (s:List Shp) (f:Fld) (hp1:s.length≤1000):Fun Tryz.prog 92 [.agg [.seq .shp s],.agg (Gb f)] [] (.v (vB (Jh f (s.length:Int)))) []:=by
 have hN:A8=274877906944:=rfl
 refine Aq Tryz.func92 Q4 Q4 (w:=let z1:=(s.length:Int);let z2:S:= .v (vB (Ak f.msg 0 (z1-1)));let z4:S:= .v (vB (Jh f z1));let z3:=Lf (.v (vB false)) z4 [] [];let z5:=Lf (.v (vB (decide (f.msg=(-1))))) z4 [] [];let z6:=Dq f.number;(.seg [.call [] (.v (vB z6)) []] (.br (.leaf () []) (.seg [.call [] (.v (vB (Ey f.kind))) []] (.br (.leaf () []) (.br (.br (.leaf () []) (.seg [.call [] (.v (vB (Db f.kind))) []] (.br (.leaf () []) (.br (.seg [.as 38 (.v (vI (z1-1))),.call [] z2 []] (.leaf () [])) (.leaf () []))))) (.br (.seg [.as 38 (.v (vI (z1-1))),.call [] z2 []] (.leaf () [])) (.leaf () [])))))),(Fp 156 [vI f.number] [] (.v (vB z6)) [])∧Bc (!z6) z3 ((Fp 157 [vI f.kind] [] (.v (vB (Ey f.kind))) [])∧Bc (!(Ey f.kind)) z3 (Bc f.packed (Bc (!f.rep) z3 ((Fp 158 [vI f.kind] [] (.v (vB (Db f.kind))) [])∧Bc (!(Db f.kind)) z3 (Bc (decide (f.kind=8)) ((wI (z1-1))∧(Fp 44 [vI f.msg,vI 0,vI (z1-1)] [] z2 [])∧Lf z2 z4 [] []) z5))) (Bc (decide (f.kind=8)) ((wI (z1-1))∧(Fp 44 [vI f.msg,vI 0,vI (z1-1)] [] z2 [])∧Lf z2 z4 [] []) z5))))) Q4 ?_
 refine⟨(Yj _),fun h1=>have q1:=An h1;?_,fun h1=>have q1:=Am h1;?_⟩
 refine⟨(sB ?_),rfl⟩
 rotate_left
 refine⟨(Vj _),fun h2=>have q2:=An h2;have p2:=Ay q2;?_,fun h2=>have q2:=Am h2;have p2:=As q2;?_⟩
 refine⟨(sB ?_),rfl⟩
 rotate_left
 refine⟨fun h3=>?_,fun h3=>?_⟩
 refine⟨fun h4=>have q4:=An h4;?_,fun h4=>have q4:=Am h4;?_⟩
 refine⟨(sB ?_),rfl⟩
 rotate_left
 refine⟨(Mr _),fun h5=>have q5:=An h5;have p5:=Ay q5;?_,fun h5=>have q5:=Am h5;have p5:=As q5;?_⟩
 refine⟨(sB ?_),rfl⟩
 rotate_left
 refine dsp (fun h6 p6=>?_) fun h6 p6=>?_
 refine⟨(Ad Q2 Q2),(Bf _ _ _),(sB ?_),rfl⟩
 rotate_left
 refine⟨(sB ?_),rfl⟩
 rotate_left
 refine dsp (fun h4 p4=>?_) fun h4 p4=>?_
 refine⟨(Ad Q2 Q2),(Bf _ _ _),(sB ?_),rfl⟩
 rotate_left
 refine⟨(sB ?_),rfl⟩
 rotate_left
 all_goals first|(simp[Jh, *];done)|(simp_all[Jh];done)|(simp_all[Jh];omega)|(rw[Bool.eq_iff_iff];simp_all[Jh];omega)
structure Hd where
 id:Int
 v:Nat
def J8 (s:List Shp):Fam:=⟨Hd,fun q1=>[(1,.v (vP 0)),(3,.v (vI q1.id)),(14,.v (.c (.seq .shp s))),(15,.v (vI (s.length:Int))),(16,.v (vI (q1.v:Int)))],fun _=>[.cells [.seq .shp s]],fun q1=>q1.v≤s.length∧En (s.length:Int) q1.id (List.drop q1.v s)=En (s.length:Int) 0 s,fun q1=>s.length-q1.v⟩
structure J9 where
 number:Int
 v:Nat
def He (s:List Shp) (q1:Hd) (x1:Shp):Fam:=⟨J9,fun q2=>[(1,.v (vP 0)),(5,.v (vP 1)),(6,.v (vI q2.number)),(14,.v (.c (.seq .shp s))),(15,.v (vI (s.length:Int))),(16,.v (vI (q1.v:Int))),(36,.v (.c (.seq .fld x1.fields))),(37,.v (vI (x1.fields.length:Int))),(38,.v (vI (q2.v:Int)))],fun _=>[.cells [.seq .shp s],.cells (Akp x1)],fun q2=>q2.v≤x1.fields.length∧Dc (s.length:Int) q2.number (List.drop q2.v x1.fields)=Dc (s.length:Int) 0 x1.fields,fun q2=>x1.fields.length-q2.v⟩
theorem Ae4 (s:List Shp):Fun Tryz.prog 96 [.agg [.seq .shp s]] [] (.v (vB (Dw s))) []:=by
 have hN:A8=274877906944:=rfl
 refine Aq Tryz.func96 Q4 Q4 (w:=let z7:=(s.length:Int);let z8:=Lf (.v (vB false)) (.v (vB (Dw s))) [] [];let z9:=J8 s;(.br (.leaf () []) (.seg [.at 0,.keep [1,3,14,15,16],.sel [0]] (.loop z9 fun q1=> .br (.intro (Sx (s[q1.v]?)) fun x1=> .seg [.el .shp x1] (.br (.leaf () []) (.br (.leaf () []) (.br (.leaf () []) (.seg [.at 0,.keep [1,5,6,14,15,16,36,37,38],.sel [0,1]] (.loop (He s q1 x1) fun q2=> .br (.intro (Sx (x1.fields[q2.v]?)) fun x2=> .seg [.el .fld x2,.call [] (.v (vB (decide (q2.number<(x2).number)&&Jh x2 z7))) []] (.br (.leaf () []) (.seg [.as 51 (.v (vI ((q2.v:Int)+1))),.at 0,.keep [1,5,6,14,15,16,36,37,38],.sel [0,1]] (.next)))) (.seg [.as 54 (.v (vI ((q1.v:Int)+1))),.at 0,.keep [1,3,14,15,16],.sel [0]] (.next)))))))) (.leaf () []))),Bc (decide (6<z7)) z8 (z9.Has [(1,.v (vP 0)),(3,.v (vI 0)),(14,.v (.c (.seq .shp s))),(15,.v (vI z7)),(16,.v (vI 0))] [.cells [.seq .shp s]]∧∀q1,z9.inv q1→(let z6:=(q1.v:Int);Bc (decide (z6<z7)) (El (s[q1.v]?) fun x1=>(let z3:=(x1.fields.length:Int);let z4:=He s q1 x1;let z5:List Blk:=[.cells [.seq .shp s],.cells (Akp x1)];(s[q1.v]? =some x1)∧((0:Int)≤z6)∧Bc (decide (x1.id≤q1.id)) z8 (Bc (decide (99<x1.id)) z8 (Bc (decide (8<z3)) z8 (z4.Has [(1,.v (vP 0)),(5,.v (vP 1)),(6,.v (vI 0)),(14,.v (.c (.seq .shp s))),(15,.v (vI z7)),(16,.v (vI z6)),(36,.v (.c (.seq .fld x1.fields))),(37,.v (vI z3)),(38,.v (vI 0))] z5∧∀q2,z4.inv q2→(let z2:=(q2.v:Int);Bc (decide (z2<z3)) (El (x1.fields[q2.v]?) fun x2=>(let z1:=decide (q2.number<(x2).number)&&Jh x2 z7;(x1.fields[q2.v]? =some x2)∧((0:Int)≤z2)∧(Fp 160 [.agg (Gb x2),vI q2.number,vI z7] [] (.v (vB z1)) [])∧Bc (!z1) z8 ((wI (z2+1))∧z4.Nxt q2 [(1,.v (vP 0)),(5,.v (vP 1)),(6,.v (vI x2.number)),(14,.v (.c (.seq .shp s))),(15,.v (vI z7)),(16,.v (vI z6)),(36,.v (.c (.seq .fld x1.fields))),(37,.v (vI z3)),(38,.v (vI (z2+1)))] z5))) ((wI (z6+1))∧z9.Nxt q1 [(1,.v (vP 0)),(3,.v (vI x1.id)),(14,.v (.c (.seq .shp s))),(15,.v (vI z7)),(16,.v (vI (z6+1)))] [.cells [.seq .shp s]]))))))) (Lf (.v (vB true)) (.v (vB (Dw s))) [] []))))) Q4 ?_
 refine dsp (fun h1 p1=>?_) fun h1 p1=>?_
 refine⟨(sB ?_),rfl⟩
 rotate_left
 refine⟨Bj (j:=(⟨0,0⟩:Hd)) Q9 rfl (by dsimp only[J8];exact⟨by omega,rfl⟩),fun (q1:Hd) hq_q1=>?_⟩
 have hi_q1:q1.v≤s.length∧En (s.length:Int) q1.id (List.drop q1.v s)=En (s.length:Int) 0 s:=hq_q1
 obtain ⟨v1,v2⟩:=hi_q1
 refine dsp (fun h2 p2=>?_) fun h2 p2=>?_
 refine⟨(Bm (l:=s) (i:=q1.v) Q2),fun x1 hx1=>?_⟩
 rw[Dj hx1,En] at v2
 refine⟨hx1,Q2,dsp (fun h3 p3=>?_) fun h3 p3=>?_⟩
 refine⟨(sB ?_),rfl⟩
 rotate_left
 refine dsp (fun h4 p4=>?_) fun h4 p4=>?_
 refine⟨(sB ?_),rfl⟩
 rotate_left
 refine dsp (fun h5 p5=>?_) fun h5 p5=>?_
 refine⟨(sB ?_),rfl⟩
 rotate_left
 refine⟨Bj (j:=(⟨0,0⟩:J9)) Q9 rfl (by dsimp only[He];exact⟨by omega,rfl⟩),fun (q2:J9) hq_q2=>?_⟩
 have hi_q2:q2.v≤x1.fields.length∧Dc (s.length:Int) q2.number (List.drop q2.v x1.fields)=Dc (s.length:Int) 0 x1.fields:=hq_q2
 obtain ⟨w1,w2⟩:=hi_q2
 refine dsp (fun h6 p6=>?_) fun h6 p6=>?_
 refine⟨(Bm (l:=x1.fields) (i:=q2.v) Q2),fun x2 hx2=>?_⟩
 rw[Dj hx2,Dc] at w2
 refine⟨hx2,Q2,(Amx x2 _ _ Q2),fun h7=>have q7:=An h7;have p7:=(Ci dT Iff.rfl).1 q7;?_,fun h7=>have q7:=Am h7;have p7:=(Ch dT Iff.rfl).1 q7;?_⟩
 refine⟨(sB ?_),rfl⟩
 rotate_left
 exact⟨(Ad Q2 Q2),A5 (j:=(⟨x2.number,q2.v+1⟩:J9)) Q9 rfl (by dsimp only[He];exact⟨by omega,by grind[Dc]⟩) (by dsimp only[He];omega)⟩
 rw[Lj p6] at w2
 exact⟨(Ad Q2 Q2),A5 (j:=(⟨x1.id,q1.v+1⟩:Hd)) Q9 rfl (by dsimp only[J8];exact⟨by omega,by grind[En,Dc]⟩) (by dsimp only[J8];omega)⟩
 rw[Lj p2] at v2
 refine⟨(sB ?_),rfl⟩
 rotate_left
 all_goals grind[Dw,En,Dc]
structure F5 where
 i:Nat
 pv:Int
def Hf (s:List Shp):Fam:=⟨F5,fun q1=>[(1,.v (vP 0)),(3,.v (vI (q1.i:Int)))],fun _=>[.cells [.seq .shp s]],fun q1=>q1.i≤s.length∧(0:Int)≤q1.pv∧(q1.i=0→q1.pv=0)∧(∀y,0<q1.i→s[Int.toNat ((q1.i:Int)-1)]? =some y→q1.pv=y.id)∧En (s.length:Int) q1.pv (List.drop q1.i s)=En (s.length:Int) 0 s,fun q1=>s.length-q1.i⟩
structure Dx where
 k:Nat
 pv:Int
def Dd (s:List Shp) (q1:F5) (x1:Shp):Fam:=⟨Dx,fun q2=>[(1,.v (vP 0)),(3,.v (vI (q1.i:Int))),(4,.v (vP 1)),(5,.v (vI (q2.k:Int)))],fun _=>[.cells [.seq .shp s],.cells (Akp x1)],fun q2=>q2.k≤x1.fields.length∧(0:Int)≤q2.pv∧(q2.k=0→q2.pv=0)∧(∀y,0<q2.k→x1.fields[Int.toNat ((q2.k:Int)-1)]? =some y→q2.pv=y.number)∧Dc (s.length:Int) q2.pv (List.drop q2.k x1.fields)=Dc (s.length:Int) 0 x1.fields,fun q2=>x1.fields.length-q2.k⟩
theorem Ae5 (s:List Shp):Fun Tryz.prog 43 [.agg [.seq .shp s]] [] (.v (vB (Dw s))) []:=by
 have hN:A8=274877906944:=rfl
 refine Aq Tryz.func43 Q4 Q4 (w:=let z25:=(s.length:Int);let z26:S:= .v (vB (Dw s));let z27:S:= .v (vB false);let z24:=Lf z27 z26 [] [];let z28:=Hf s;let z29:=os 28 [6];(.br (.leaf () []) (.seg [.at 0,.keep [1,3],.sel [0]] (.loop z28 fun q1=>let z21:=(q1.i:Int);.br (.intro (Sx (s[q1.i]?)) fun x1=>let z15:S:= .v (vB (Ak x1.id 1 99));.seg [.el .shp x1] (.case (!(Ak x1.id 1 99)) (.seg [.ord (os 26 [2]) [],.call [] z15 [],.br true] (.leaf () [])) (.case (decide (0<z21)) (.intro (Sx (s[Int.toNat (z21-1)]?)) fun x2=> .case (decide (x1.id≤x2.id)) (.seg [.ord (os 26 [2]) [],.call [] z15 [],.br false,.br true,.as 33 (.v (vI (z21-1))),.el .shp x2,.br true] (.leaf () [])) (.seg [.ord (os 26 [2]) [],.call [] z15 [],.br false,.br true,.as 33 (.v (vI (z21-1))),.el .shp x2,.br false] (.br (.leaf () []) (.seg [.at 0,.keep [1,3,4,5],.sel [0,1]] (.loop (Dd s q1 x1) fun q2=>let z5:=(q2.k:Int);.br (.intro (Sx (x1.fields[q2.k]?)) fun x3=>let z2:=Jh x3 z25;.case (!z2) (.seg [.ord z29 [],.el .fld x3,.call [] (.v (vB z2)) [],.br true] (.leaf () [])) (.case (decide (0<z5)) (.intro (Sx (x1.fields[Int.toNat (z5-1)]?)) fun x4=> .seg [.ord z29 [],.el .fld x3,.call [] (.v (vB z2)) [],.br false,.br true,.as 70 (.v (vI (z5-1))),.el .fld x4,.el .fld x3] (.br (.leaf () []) (.seg [.as 54 (.v (vI (z5+1))),.at 0,.keep [1,3,4,5],.sel [0,1]] (.next)))) (.seg [.ord z29 [],.el .fld x3,.call [] (.v (vB z2)) [],.br false,.br false,.as 54 (.v (vI (z5+1))),.at 0,.keep [1,3,4,5],.sel [0,1]] (.next)))) (.seg [.as 16 (.v (vI (z21+1))),.at 0,.keep [1,3],.sel [0]] (.next))))))) (.seg [.ord (os 26 [2]) [],.call [] z15 [],.br false,.br false] (.br (.leaf () []) (.seg [.at 0,.keep [1,3,4,5],.sel [0,1]] (.loop (Dd s q1 x1) fun q2=>let z13:=(q2.k:Int);.br (.intro (Sx (x1.fields[q2.k]?)) fun x2=>let z10:=Jh x2 z25;.case (!z10) (.seg [.ord z29 [],.el .fld x2,.call [] (.v (vB z10)) [],.br true] (.leaf () [])) (.case (decide (0<z13)) (.intro (Sx (x1.fields[Int.toNat (z13-1)]?)) fun x3=> .seg [.ord z29 [],.el .fld x2,.call [] (.v (vB z10)) [],.br false,.br true,.as 70 (.v (vI (z13-1))),.el .fld x3,.el .fld x2] (.br (.leaf () []) (.seg [.as 54 (.v (vI (z13+1))),.at 0,.keep [1,3,4,5],.sel [0,1]] (.next)))) (.seg [.ord z29 [],.el .fld x2,.call [] (.v (vB z10)) [],.br false,.br false,.as 54 (.v (vI (z13+1))),.at 0,.keep [1,3,4,5],.sel [0,1]] (.next)))) (.seg [.as 16 (.v (vI (z21+1))),.at 0,.keep [1,3],.sel [0]] (.next))))))))) (.leaf () []))),Bc (decide (6<z25)) z24 (z28.Has [(1,.v (vP 0)),(3,.v (vI 0))] [.cells [.seq .shp s]]∧∀q1,z28.inv q1→(let z22:=(q1.i:Int);let z23:=(wI (z22+1))∧z28.Nxt q1 [(1,.v (vP 0)),(3,.v (vI (z22+1)))] [.cells [.seq .shp s]];Bc (decide (z22<z25)) (El (s[q1.i]?) fun x1=>(let z16:List Blk:=[.cells [.seq .shp s],.cells (Akp x1)];let z17:=Dd s q1 x1;let z18:=Ak x1.id 1 99;let z19:=(x1.fields.length:Int);let z20:List V:=[vI x1.id,vI 1,vI 99];(s[q1.i]? =some x1)∧((0:Int)≤z22)∧Bc (!z18) ((Fp 44 z20 [] (.v (vB z18)) [])∧((!z18)=true)∧Lf z27 z26 [] []) (Bc (decide (0<z22)) (El (s[Int.toNat (z22-1)]?) fun x2=>(let z7:=s[Int.toNat (z22-1)]? =some x2;let z8:=decide (x1.id≤x2.id);Bc z8 ((Fp 44 z20 [] (.v (vB z18)) [])∧((!z18)=false)∧((decide (0<z22))=true)∧(wI (z22-1))∧(wI (z22-1))∧z7∧((0:Int)≤z22-1)∧z7∧((0:Int)≤z22-1)∧(z8=true)∧Lf z27 z26 [] []) ((Fp 44 z20 [] (.v (vB z18)) [])∧((!z18)=false)∧((decide (0<z22))=true)∧(wI (z22-1))∧(wI (z22-1))∧z7∧((0:Int)≤z22-1)∧z7∧((0:Int)≤z22-1)∧(z8=false)∧Bc (decide (8<z19)) z24 (z17.Has [(1,.v (vP 0)),(3,.v (vI z22)),(4,.v (vP 1)),(5,.v (vI 0))] z16∧∀q2,z17.inv q2→(let z6:=(q2.k:Int);Bc (decide (z6<z19)) (El (x1.fields[q2.k]?) fun x3=>(let z3:=Jh x3 z25;let z4:=x1.fields[q2.k]? =some x3;Bc (!z3) (z4∧((0:Int)≤z6)∧z4∧((0:Int)≤z6)∧(Fp 92 [.agg [.seq .shp s],.agg (Gb x3)] [] (.v (vB z3)) [])∧((!z3)=true)∧Lf z27 z26 [] []) (Bc (decide (0<z6)) (El (x1.fields[Int.toNat (z6-1)]?) fun x4=>(let z1:=x1.fields[Int.toNat (z6-1)]? =some x4;z4∧((0:Int)≤z6)∧z4∧((0:Int)≤z6)∧(Fp 92 [.agg [.seq .shp s],.agg (Gb x3)] [] (.v (vB z3)) [])∧((!z3)=false)∧((decide (0<z6))=true)∧(wI (z6-1))∧(wI (z6-1))∧z1∧((0:Int)≤z6-1)∧z1∧((0:Int)≤z6-1)∧z4∧((0:Int)≤z6)∧z4∧((0:Int)≤z6)∧Bc (decide (x3.number≤x4.number)) z24 ((wI (z6+1))∧z17.Nxt q2 [(1,.v (vP 0)),(3,.v (vI z22)),(4,.v (vP 1)),(5,.v (vI (z6+1)))] z16))) (z4∧((0:Int)≤z6)∧z4∧((0:Int)≤z6)∧(Fp 92 [.agg [.seq .shp s],.agg (Gb x3)] [] (.v (vB z3)) [])∧((!z3)=false)∧((decide (0<z6))=false)∧(wI (z6+1))∧z17.Nxt q2 [(1,.v (vP 0)),(3,.v (vI z22)),(4,.v (vP 1)),(5,.v (vI (z6+1)))] z16)))) z23))))) ((Fp 44 z20 [] (.v (vB z18)) [])∧((!z18)=false)∧((decide (0<z22))=false)∧Bc (decide (8<z19)) z24 (z17.Has [(1,.v (vP 0)),(3,.v (vI z22)),(4,.v (vP 1)),(5,.v (vI 0))] z16∧∀q2,z17.inv q2→(let z14:=(q2.k:Int);Bc (decide (z14<z19)) (El (x1.fields[q2.k]?) fun x2=>(let z11:=Jh x2 z25;let z12:=x1.fields[q2.k]? =some x2;Bc (!z11) (z12∧((0:Int)≤z14)∧z12∧((0:Int)≤z14)∧(Fp 92 [.agg [.seq .shp s],.agg (Gb x2)] [] (.v (vB z11)) [])∧((!z11)=true)∧Lf z27 z26 [] []) (Bc (decide (0<z14)) (El (x1.fields[Int.toNat (z14-1)]?) fun x3=>(let z9:=x1.fields[Int.toNat (z14-1)]? =some x3;z12∧((0:Int)≤z14)∧z12∧((0:Int)≤z14)∧(Fp 92 [.agg [.seq .shp s],.agg (Gb x2)] [] (.v (vB z11)) [])∧((!z11)=false)∧((decide (0<z14))=true)∧(wI (z14-1))∧(wI (z14-1))∧z9∧((0:Int)≤z14-1)∧z9∧((0:Int)≤z14-1)∧z12∧((0:Int)≤z14)∧z12∧((0:Int)≤z14)∧Bc (decide (x2.number≤x3.number)) z24 ((wI (z14+1))∧z17.Nxt q2 [(1,.v (vP 0)),(3,.v (vI z22)),(4,.v (vP 1)),(5,.v (vI (z14+1)))] z16))) (z12∧((0:Int)≤z14)∧z12∧((0:Int)≤z14)∧(Fp 92 [.agg [.seq .shp s],.agg (Gb x2)] [] (.v (vB z11)) [])∧((!z11)=false)∧((decide (0<z14))=false)∧(wI (z14+1))∧z17.Nxt q2 [(1,.v (vP 0)),(3,.v (vI z22)),(4,.v (vP 1)),(5,.v (vI (z14+1)))] z16)))) z23)))))) (Lf (.v (vB true)) z26 [] []))))) Q4 ?_
 refine dsp (fun h1 p1=>?_) fun h1 p1=>?_
 exact⟨(congrArg S.v (congrArg V.c (congrArg C.bool Q71))),rfl⟩
 refine⟨Bj (j:=(⟨0,0⟩:F5)) Q9 rfl (by dsimp only[Hf];exact⟨by omega,by omega,by omega,by omega,rfl⟩),fun (q1:F5) hq_q1=>?_⟩
 have hi_q1:q1.i≤s.length∧(0:Int)≤q1.pv∧(q1.i=0→q1.pv=0)∧(∀y,0<q1.i→s[Int.toNat ((q1.i:Int)-1)]? =some y→q1.pv=y.id)∧En (s.length:Int) q1.pv (List.drop q1.i s)=En (s.length:Int) 0 s:=hq_q1
 obtain ⟨v1,v2,v3,v4,v5⟩:=hi_q1
 refine dsp (fun h2 p2=>?_) fun h2 p2=>?_
 refine⟨(Bm (l:=s) (i:=q1.i) Q2),fun x1 hx1=>?_⟩
 rw[Dj hx1,En] at v5
 refine⟨hx1,Q2,fun h3=>have q3:=An h3;have p3:=Ay q3;?_,fun h3=>have q3:=Am h3;have p3:=As q3;?_⟩
 exact⟨(Bf _ _ _),h3,(congrArg S.v (congrArg V.c (congrArg C.bool Q71))),rfl⟩
 refine dsp (fun h4 p4=>?_) fun h4 p4=>?_
 refine⟨(Bm (l:=s) (i:=Int.toNat ((q1.i:Int)-1)) Q2),fun x2 hx2=>?_⟩
 have hy:=v4 _ (by omega) hx2
 refine dsp (fun h5 p5=>?_) fun h5 p5=>?_
 exact⟨(Bf _ _ _),h3,h4,(Ad Q2 Q2),(Ad Q2 Q2),hx2,Q2,hx2,Q2,h5,(congrArg S.v (congrArg V.c (congrArg C.bool Q71))),rfl⟩
 refine⟨(Bf _ _ _),h3,h4,(Ad Q2 Q2),(Ad Q2 Q2),hx2,Q2,hx2,Q2,h5,dsp (fun h6 p6=>?_) fun h6 p6=>?_⟩
 exact⟨(congrArg S.v (congrArg V.c (congrArg C.bool Q71))),rfl⟩
 refine⟨Bj (j:=(⟨0,0⟩:Dx)) Q9 rfl (by dsimp only[Dd];exact⟨by omega,by omega,by omega,by omega,rfl⟩),fun (q2:Dx) hq_q2=>?_⟩
 have hi_q2:q2.k≤x1.fields.length∧(0:Int)≤q2.pv∧(q2.k=0→q2.pv=0)∧(∀y,0<q2.k→x1.fields[Int.toNat ((q2.k:Int)-1)]? =some y→q2.pv=y.number)∧Dc (s.length:Int) q2.pv (List.drop q2.k x1.fields)=Dc (s.length:Int) 0 x1.fields:=hq_q2
 obtain ⟨w1,w2,w3,w4,w5⟩:=hi_q2
 refine dsp (fun h7 p7=>?_) fun h7 p7=>?_
 refine⟨(Bm (l:=x1.fields) (i:=q2.k) Q2),fun x3 hx3=>?_⟩
 rw[Dj hx3,Dc] at w5
 refine⟨fun h8=>have q8:=An h8;?_,fun h8=>have q8:=Am h8;have p8:=Acb q8;?_⟩
 exact⟨hx3,Q2,hx3,Q2,(Ua s x3 Q2),h8,(congrArg S.v (congrArg V.c (congrArg C.bool Q71))),rfl⟩
 refine dsp (fun h9 p9=>?_) fun h9 p9=>?_
 refine⟨(Bm (l:=x1.fields) (i:=Int.toNat ((q2.k:Int)-1)) Q2),fun x4 hx4=>?_⟩
 have hz:=w4 _ (by omega) hx4
 refine⟨hx3,Q2,hx3,Q2,(Ua s x3 Q2),h8,h9,(Ad Q2 Q2),(Ad Q2 Q2),hx4,Q2,hx4,Q2,hx3,Q2,hx3,Q2,dsp (fun h10 p10=>?_) fun h10 p10=>?_⟩
 exact⟨(congrArg S.v (congrArg V.c (congrArg C.bool Q71))),rfl⟩
 exact⟨(Ad Q2 Q2),A5 (j:=(⟨q2.k+1,x3.number⟩:Dx)) Q9 rfl Q62 (by dsimp only[Dd];omega)⟩
 exact⟨hx3,Q2,hx3,Q2,(Ua s x3 Q2),h8,h9,(Ad Q2 Q2),A5 (j:=(⟨q2.k+1,x3.number⟩:Dx)) Q9 rfl Q62 (by dsimp only[Dd];omega)⟩
 rw[Lj p7,Dc] at w5
 exact⟨(Ad Q2 Q2),A5 (j:=(⟨q1.i+1,x1.id⟩:F5)) Q9 rfl Q51 (by dsimp only[Hf];omega)⟩
 refine⟨(Bf _ _ _),h3,h4,dsp (fun h5 p5=>?_) fun h5 p5=>?_⟩
 exact⟨(congrArg S.v (congrArg V.c (congrArg C.bool Q71))),rfl⟩
 refine⟨Bj (j:=(⟨0,0⟩:Dx)) Q9 rfl (by dsimp only[Dd];exact⟨by omega,by omega,by omega,by omega,rfl⟩),fun (q2:Dx) hq_q2=>?_⟩
 have hi_q2:q2.k≤x1.fields.length∧(0:Int)≤q2.pv∧(q2.k=0→q2.pv=0)∧(∀y,0<q2.k→x1.fields[Int.toNat ((q2.k:Int)-1)]? =some y→q2.pv=y.number)∧Dc (s.length:Int) q2.pv (List.drop q2.k x1.fields)=Dc (s.length:Int) 0 x1.fields:=hq_q2
 obtain ⟨w1,w2,w3,w4,w5⟩:=hi_q2
 refine dsp (fun h6 p6=>?_) fun h6 p6=>?_
 refine⟨(Bm (l:=x1.fields) (i:=q2.k) Q2),fun x2 hx2=>?_⟩
 rw[Dj hx2,Dc] at w5
 refine⟨fun h7=>have q7:=An h7;?_,fun h7=>have q7:=Am h7;have p7:=Acb q7;?_⟩
 exact⟨hx2,Q2,hx2,Q2,(Ua s x2 Q2),h7,(congrArg S.v (congrArg V.c (congrArg C.bool Q71))),rfl⟩
 refine dsp (fun h8 p8=>?_) fun h8 p8=>?_
 refine⟨(Bm (l:=x1.fields) (i:=Int.toNat ((q2.k:Int)-1)) Q2),fun x3 hx3=>?_⟩
 have hz:=w4 _ (by omega) hx3
 refine⟨hx2,Q2,hx2,Q2,(Ua s x2 Q2),h7,h8,(Ad Q2 Q2),(Ad Q2 Q2),hx3,Q2,hx3,Q2,hx2,Q2,hx2,Q2,dsp (fun h9 p9=>?_) fun h9 p9=>?_⟩
 exact⟨(congrArg S.v (congrArg V.c (congrArg C.bool Q71))),rfl⟩
 exact⟨(Ad Q2 Q2),A5 (j:=(⟨q2.k+1,x2.number⟩:Dx)) Q9 rfl Q63 (by dsimp only[Dd];omega)⟩
 exact⟨hx2,Q2,hx2,Q2,(Ua s x2 Q2),h7,h8,(Ad Q2 Q2),A5 (j:=(⟨q2.k+1,x2.number⟩:Dx)) Q9 rfl Q63 (by dsimp only[Dd];omega)⟩
 rw[Lj p6,Dc] at w5
 exact⟨(Ad Q2 Q2),A5 (j:=(⟨q1.i+1,x1.id⟩:F5)) Q9 rfl Q51 (by dsimp only[Hf];omega)⟩
 rw[Lj p2,En] at v5
 exact⟨(congrArg S.v (congrArg V.c (congrArg C.bool Q71))),rfl⟩
structure Lu where
 v:Nat
def Jm (n:Int) (x1:Shp):Fam:=⟨Lu,fun q1=>[(2,.v (vI n)),(6,.v (vP 0)),(23,.v (.c (.seq .fld x1.fields))),(24,.v (vI (x1.fields.length:Int))),(25,.v (vI (q1.v:Int)))],fun _=>[.cells [.int .i64 0,.int .i64 0,.bool false,.bool false,.int .i64 0]],fun q1=>q1.v≤x1.fields.length∧Gs (List.drop q1.v x1.fields) n=Gs x1.fields n,fun q1=>x1.fields.length-q1.v⟩
theorem W3 (s:List Shp) (sh:Int) (n:Int) (hp1:s.length≤1000) (hp2: ∀x∈s,x.fields.length≤1000):Fun Tryz.prog 165 [.agg [.seq .shp s],vI sh,vI n] [] (.tup [.agg (Gb ((fieldAt s sh n).getD fld0)),vB (fieldAt s sh n).isSome]) []:=by
 have hN:A8=274877906944:=rfl
 refine Aq Tryz.func165 Q4 Q4 (w:=let z4:List C:=[.int .i64 0,.int .i64 0,.bool false,.bool false,.int .i64 0];let z5:=(s.length:Int)-1;let z6:S:= .tup [.agg (Gb ((fieldAt s sh n).getD fld0)),vB (fieldAt s sh n).isSome];let z7:=Lf (.tup [.agg z4,vB false]) z6 [] [];(.seg [.as 14 (.v (vI z5)),.call [] (.v (vB (Ak sh 0 z5))) []] (.br (.leaf () []) (.intro (Sx (s[sh.toNat]?)) fun x1=> .seg [.el .shp x1,.at 0,.keep [2,6,23,24,25],.sel [1]] (.loop (Jm n x1) fun q1=> .br (.intro (Sx (x1.fields[q1.v]?)) fun x2=> .seg [.el .fld x2] (.br (.leaf () []) (.seg [.as 34 (.v (vI ((q1.v:Int)+1))),.at 0,.keep [2,6,23,24,25],.sel [0]] (.next)))) (.leaf () [])))),(wI z5)∧(Fp 97 [vI sh,vI 0,vI z5] [] (.v (vB (Ak sh 0 z5))) [])∧Bc (!(Ak sh 0 z5)) z7 (El (s[sh.toNat]?) fun x1=>(let z2:=(x1.fields.length:Int);let z3:=Jm n x1;(s[sh.toNat]? =some x1)∧((0:Int)≤sh)∧z3.Has [(2,.v (vI n)),(6,.v (vP 0)),(23,.v (.c (.seq .fld x1.fields))),(24,.v (vI z2)),(25,.v (vI 0))] [.cells z4]∧∀q1,z3.inv q1→(let z1:=(q1.v:Int);Bc (decide (z1<z2)) (El (x1.fields[q1.v]?) fun x2=>((x1.fields[q1.v]? =some x2)∧((0:Int)≤z1)∧Bc (decide (x2.number=n)) (Lf (.tup [.agg (Gb x2),vB true]) z6 [] []) ((wI (z1+1))∧z3.Nxt q1 [(2,.v (vI n)),(6,.v (vP 0)),(23,.v (.c (.seq .fld x1.fields))),(24,.v (vI z2)),(25,.v (vI (z1+1)))] [.cells z4]))) z7))))) Q4 ?_
 refine⟨(Ad Q2 Q2),(Cf _ _ _),fun h1=>have q1:=An h1;have p1:=Ay q1;?_,fun h1=>have q1:=Am h1;have p1:=As q1;?_⟩
 refine zE ((fieldAt s sh n).getD fld0) (⟨0,0,false,false,0⟩:Fld) (fun hm1=>⟨(congrArg S.tup (Ab (congrArg V.agg (Ab (congrArg (C.int .i64) ?_) (Ab (congrArg (C.int .i64) ?_) (Ab (congrArg C.bool ?_) (Ab (congrArg C.bool ?_) (Ab (congrArg (C.int .i64) ?_) rfl)))))) (Ab (congrArg V.c (congrArg C.bool ?_)) rfl))),rfl⟩) ?_
 rotate_left 7
 have q1_:=q1
 refine⟨(Bm (l:=s) (i:=sh.toNat) Q2),fun x1 hx1=>?_⟩
 have hfa:=Yh (n:=n) q1_ hx1
 have hfl:=hp2 x1 (List.mem_of_getElem? hx1)
 refine⟨hx1,Q2,Bj (j:=(⟨0⟩:Lu)) Q9 rfl (by dsimp only[Jm];exact⟨by omega,by simp⟩),fun (q1:Lu) hq_q1=>?_⟩
 have hi_q1:q1.v≤x1.fields.length∧Gs (List.drop q1.v x1.fields) n=Gs x1.fields n:=hq_q1
 obtain ⟨v1,v2⟩:=hi_q1
 refine dsp (fun h2 p2=>?_) fun h2 p2=>?_
 refine⟨(Bm (l:=x1.fields) (i:=q1.v) Q2),fun x2 hx2=>?_⟩
 rw[Dj hx2,Uw] at v2
 refine⟨hx2,Q2,dsp (fun h3 p3=>?_) fun h3 p3=>?_⟩
 refine zE ((fieldAt s sh n).getD fld0) x2 (fun hm1=>⟨(congrArg S.tup (Ab (congrArg V.agg (Ab (congrArg (C.int .i64) ?_) (Ab (congrArg (C.int .i64) ?_) (Ab (congrArg C.bool ?_) (Ab (congrArg C.bool ?_) (Ab (congrArg (C.int .i64) ?_) rfl)))))) (Ab (congrArg V.c (congrArg C.bool ?_)) rfl))),rfl⟩) ?_
 rotate_left 7
 exact⟨(Ad Q2 Q2),A5 (j:=(⟨q1.v+1⟩:Lu)) Q9 rfl (by dsimp only[Jm];exact⟨by omega,by grind⟩) (by dsimp only[Jm];omega)⟩
 rw[Lj p2] at v2
 refine zE ((fieldAt s sh n).getD fld0) (⟨0,0,false,false,0⟩:Fld) (fun hm1=>⟨(congrArg S.tup (Ab (congrArg V.agg (Ab (congrArg (C.int .i64) ?_) (Ab (congrArg (C.int .i64) ?_) (Ab (congrArg C.bool ?_) (Ab (congrArg C.bool ?_) (Ab (congrArg (C.int .i64) ?_) rfl)))))) (Ab (congrArg V.c (congrArg C.bool ?_)) rfl))),rfl⟩) ?_
 rotate_left 7
 all_goals grind[fieldAt,fld0,Gs]
structure Lv where
 i:Nat
def Jn (n:Int) (x1:Shp):Fam:=⟨Lv,fun q1=>[(2,.v (vI n)),(6,.v (vP 0)),(8,.v (.c (.seq .fld x1.fields))),(9,.v (vI (q1.i:Int)))],fun _=>[.cells [.int .i64 0,.int .i64 0,.bool false,.bool false,.int .i64 0]],fun q1=>q1.i≤x1.fields.length∧Gs (List.drop q1.i x1.fields) n=Gs x1.fields n,fun q1=>x1.fields.length-q1.i⟩
theorem W4 (s:List Shp) (sh:Int) (n:Int) (hp1:s.length≤1000) (hp2: ∀x∈s,x.fields.length≤1000):Fun Tryz.prog 188 [.agg [.seq .shp s],vI sh,vI n] [] (.tup [.agg (Gb ((fieldAt s sh n).getD fld0)),vB (fieldAt s sh n).isSome]) []:=by
 have hN:A8=274877906944:=rfl
 refine Aq Tryz.func188 Q4 Q4 (w:=let z3:List C:=[.int .i64 0,.int .i64 0,.bool false,.bool false,.int .i64 0];let z4:=(s.length:Int)-1;let z5:S:= .tup [.agg (Gb ((fieldAt s sh n).getD fld0)),vB (fieldAt s sh n).isSome];let z6:=Lf (.tup [.agg z3,vB false]) z5 [] [];(.seg [.as 14 (.v (vI z4)),.call [] (.v (vB (Ak sh 0 z4))) []] (.br (.leaf () []) (.intro (Sx (s[sh.toNat]?)) fun x1=> .seg [.el .shp x1,.at 0,.keep [2,6,8,9],.sel [1]] (.loop (Jn n x1) fun q1=> .br (.intro (Sx (x1.fields[q1.i]?)) fun x2=> .seg [.el .fld x2] (.br (.seg [.el .fld x2] (.leaf () [])) (.seg [.as 29 (.v (vI ((q1.i:Int)+1))),.at 0,.keep [2,6,8,9],.sel [0]] (.next)))) (.leaf () [])))),(wI z4)∧(Fp 44 [vI sh,vI 0,vI z4] [] (.v (vB (Ak sh 0 z4))) [])∧Bc (!(Ak sh 0 z4)) z6 (El (s[sh.toNat]?) fun x1=>(let z2:=Jn n x1;(s[sh.toNat]? =some x1)∧((0:Int)≤sh)∧z2.Has [(2,.v (vI n)),(6,.v (vP 0)),(8,.v (.c (.seq .fld x1.fields))),(9,.v (vI 0))] [.cells z3]∧∀q1,z2.inv q1→(let z1:=(q1.i:Int);Bc (decide (z1<(x1.fields.length:Int))) (El (x1.fields[q1.i]?) fun x2=>((x1.fields[q1.i]? =some x2)∧((0:Int)≤z1)∧Bc (decide (x2.number=n)) ((x1.fields[q1.i]? =some x2)∧((0:Int)≤z1)∧Lf (.tup [.agg (Gb x2),vB true]) z5 [] []) ((wI (z1+1))∧z2.Nxt q1 [(2,.v (vI n)),(6,.v (vP 0)),(8,.v (.c (.seq .fld x1.fields))),(9,.v (vI (z1+1)))] [.cells z3]))) z6))))) Q4 ?_
 refine⟨(Ad Q2 Q2),(Bf _ _ _),fun h1=>have q1:=An h1;have p1:=Ay q1;?_,fun h1=>have q1:=Am h1;have p1:=As q1;?_⟩
 refine zE ((fieldAt s sh n).getD fld0) (⟨0,0,false,false,0⟩:Fld) (fun hm1=>⟨(congrArg S.tup (Ab (congrArg V.agg (Ab (congrArg (C.int .i64) ?_) (Ab (congrArg (C.int .i64) ?_) (Ab (congrArg C.bool ?_) (Ab (congrArg C.bool ?_) (Ab (congrArg (C.int .i64) ?_) rfl)))))) (Ab (congrArg V.c (congrArg C.bool ?_)) rfl))),rfl⟩) ?_
 rotate_left 7
 have q1_:=q1
 refine⟨(Bm (l:=s) (i:=sh.toNat) Q2),fun x1 hx1=>?_⟩
 have hfa:=Yh (n:=n) q1_ hx1
 have hfl:=hp2 x1 (List.mem_of_getElem? hx1)
 refine⟨hx1,Q2,Bj (j:=(⟨0⟩:Lv)) Q9 rfl (by dsimp only[Jn];exact⟨by omega,by simp⟩),fun (q1:Lv) hq_q1=>?_⟩
 have hi_q1:q1.i≤x1.fields.length∧Gs (List.drop q1.i x1.fields) n=Gs x1.fields n:=hq_q1
 obtain ⟨v1,v2⟩:=hi_q1
 refine dsp (fun h2 p2=>?_) fun h2 p2=>?_
 refine⟨(Bm (l:=x1.fields) (i:=q1.i) Q2),fun x2 hx2=>?_⟩
 rw[Dj hx2,Uw] at v2
 refine⟨hx2,Q2,dsp (fun h3 p3=>?_) fun h3 p3=>?_⟩
 refine zE ((fieldAt s sh n).getD fld0) x2 (fun hm1=>⟨hx2,Q2,(congrArg S.tup (Ab (congrArg V.agg (Ab (congrArg (C.int .i64) ?_) (Ab (congrArg (C.int .i64) ?_) (Ab (congrArg C.bool ?_) (Ab (congrArg C.bool ?_) (Ab (congrArg (C.int .i64) ?_) rfl)))))) (Ab (congrArg V.c (congrArg C.bool ?_)) rfl))),rfl⟩) ?_
 rotate_left 7
 exact⟨(Ad Q2 Q2),A5 (j:=(⟨q1.i+1⟩:Lv)) Q9 rfl (by dsimp only[Jn];exact⟨by omega,by grind⟩) (by dsimp only[Jn];omega)⟩
 rw[Lj p2] at v2
 refine zE ((fieldAt s sh n).getD fld0) (⟨0,0,false,false,0⟩:Fld) (fun hm1=>⟨(congrArg S.tup (Ab (congrArg V.agg (Ab (congrArg (C.int .i64) ?_) (Ab (congrArg (C.int .i64) ?_) (Ab (congrArg C.bool ?_) (Ab (congrArg C.bool ?_) (Ab (congrArg (C.int .i64) ?_) rfl)))))) (Ab (congrArg V.c (congrArg C.bool ?_)) rfl))),rfl⟩) ?_
 rotate_left 7
 all_goals grind[fieldAt,fld0,Gs]
theorem Ajn (p:Pln):Fun Tryz.prog 46 [.agg (Mg p)] [] (.v (vB (Dh p))) []:=by
 have hN:A8=274877906944:=rfl
 refine Aq Tryz.func46 Q4 Q4 (w:=let z1:=(p.shapes.length:Int)-1;let z2:=Lf (.v (vB false)) (.v (vB (Dh p))) [] [];let z3:S:= .v (vB (Ak p.most 0 2000));let z4:=Ak p.root 0 z1;let z5:=Dw p.shapes;let z6:=Ak p.deep 1 8;(.seg [.call [] (.v (vB z5)) []] (.br (.seg [.as 13 (.v (vI z1)),.call [] (.v (vB z4)) []] (.br (.seg [.call [] (.v (vB z6)) []] (.br (.seg [.call [] z3 []] (.leaf () [])) (.leaf () []))) (.leaf () []))) (.leaf () [])),(Fp 96 [.agg [.seq .shp p.shapes]] [] (.v (vB z5)) [])∧Bc z5 ((wI z1)∧(Fp 97 [vI p.root,vI 0,vI z1] [] (.v (vB z4)) [])∧Bc z4 ((Fp 97 [vI p.deep,vI 1,vI 8] [] (.v (vB z6)) [])∧Bc z6 ((Fp 97 [vI p.most,vI 0,vI 2000] [] z3 [])∧Lf z3 (.v (vB (Dh p))) [] []) z2) z2) z2)) Q4 ?_
 refine⟨(Ae4 p.shapes),fun h1=>have p1:=T3 h1;?_,fun h1=>?_⟩
 refine⟨(Ad Q2 Q2),(Cf _ _ _),fun h2=>have p2:=As h2;?_,fun h2=>have p2:=Ay h2;?_⟩
 refine⟨(Cf _ _ _),fun h3=>have p3:=As h3;?_,fun h3=>have p3:=Ay h3;?_⟩
 exact⟨(Cf _ _ _),(congrArg S.v (congrArg V.c (congrArg C.bool Q86))),rfl⟩
 exact⟨(congrArg S.v (congrArg V.c (congrArg C.bool Q86))),rfl⟩
 exact⟨(congrArg S.v (congrArg V.c (congrArg C.bool Q86))),rfl⟩
 exact⟨(congrArg S.v (congrArg V.c (congrArg C.bool Q86))),rfl⟩
theorem Z0 (p:Pln):Fun Tryz.prog 13 [.agg (Mg p)] [] (.v (vB (Dh p))) []:=by
 have hN:A8=274877906944:=rfl
 refine Aq Tryz.func13 Q4 Q4 (w:=let z1:=(p.shapes.length:Int)-1;let z2:=Lf (.v (vB false)) (.v (vB (Dh p))) [] [];let z3:S:= .v (vB (Ak p.most 0 2000));let z4:=Ak p.root 0 z1;let z5:=Dw p.shapes;let z6:=Ak p.deep 1 8;(.seg [.call [] (.v (vB z5)) []] (.br (.seg [.as 13 (.v (vI z1)),.call [] (.v (vB z4)) []] (.br (.seg [.call [] (.v (vB z6)) []] (.br (.seg [.call [] z3 []] (.leaf () [])) (.leaf () []))) (.leaf () []))) (.leaf () [])),(Fp 43 [.agg [.seq .shp p.shapes]] [] (.v (vB z5)) [])∧Bc z5 ((wI z1)∧(Fp 44 [vI p.root,vI 0,vI z1] [] (.v (vB z4)) [])∧Bc z4 ((Fp 44 [vI p.deep,vI 1,vI 8] [] (.v (vB z6)) [])∧Bc z6 ((Fp 44 [vI p.most,vI 0,vI 2000] [] z3 [])∧Lf z3 (.v (vB (Dh p))) [] []) z2) z2) z2)) Q4 ?_
 refine⟨(Ae5 p.shapes),fun h1=>have p1:=T3 h1;?_,fun h1=>?_⟩
 refine⟨(Ad Q2 Q2),(Bf _ _ _),fun h2=>have p2:=As h2;?_,fun h2=>have p2:=Ay h2;?_⟩
 refine⟨(Bf _ _ _),fun h3=>have p3:=As h3;?_,fun h3=>have p3:=Ay h3;?_⟩
 exact⟨(Bf _ _ _),(congrArg S.v (congrArg V.c (congrArg C.bool Q86))),rfl⟩
 exact⟨(congrArg S.v (congrArg V.c (congrArg C.bool Q86))),rfl⟩
 exact⟨(congrArg S.v (congrArg V.c (congrArg C.bool Q86))),rfl⟩
 exact⟨(congrArg S.v (congrArg V.c (congrArg C.bool Q86))),rfl⟩
theorem Ae6 (k:Int):Fun Tryz.prog 168 [vI k] [] (.v (vB (E0 k))) []:=by
 have hN:A8=274877906944:=rfl
 refine Aq Tryz.func168 Q4 Q4 (w:=let z1:=Lf (.v (vB true)) (.v (vB (E0 k))) [] [];(.br (.leaf () []) (.br (.leaf () []) (.leaf () [])),Bc (decide (k=2)) z1 (Bc (decide (k=3)) z1 (Lf (.v (vB (decide (k=6)))) (.v (vB (E0 k))) [] [])))) Q4 ?_
 refine dsp (fun h1 p1=>?_) fun h1 p1=>?_
 exact⟨(congrArg S.v (congrArg V.c (congrArg C.bool (by grind[E0])))),rfl⟩
 refine dsp (fun h2 p2=>?_) fun h2 p2=>?_
 exact⟨(congrArg S.v (congrArg V.c (congrArg C.bool (by grind[E0])))),rfl⟩
 exact⟨(congrArg S.v (congrArg V.c (congrArg C.bool (by grind[E0])))),rfl⟩
theorem Ed (d:Dcd) (hp1:List.length (d).stack≤A8):Fun Tryz.prog 108 [.agg (Bs d)] [] (.v (vI (D6 d))) []:=by
 have hN:A8=274877906944:=rfl
 refine Aq Tryz.func108 Q4 Q4 (w:=let z1:=((List.length d.stack:Nat):Int);(.br (.leaf () []) (.seg [.as 12 (.v (vI (z1-1)))] (.intro (Sx (d.stack[Int.toNat (z1-1)]?)) fun x1=> .seg [.el .lev x1] (.leaf () []))),Bc (decide (z1=0)) (Lf (.v (vI 0)) (.v (vI (D6 d))) [] []) ((wI (z1-1))∧El (d.stack[Int.toNat (z1-1)]?) fun x1=>((d.stack[Int.toNat (z1-1)]? =some x1)∧((0:Int)≤z1-1)∧Lf (.v (vI x1.left)) (.v (vI (D6 d))) [] [])))) Q4 ?_
 refine dsp (fun h1 p1=>?_) fun h1 p1=>?_
 refine⟨(sI ?_),rfl⟩
 rotate_left
 refine⟨(Ad Q2 Q2),(Bm (l:=d.stack) (i:=Int.toNat (((List.length d.stack:Nat):Int)-1)) Q2),fun x1 hx1=>?_⟩
 have htop:D6 d=x1.left:=by unfold D6;rw[Wi (by rw[←hx1];congr 1;omega)]
 refine⟨hx1,Q2,(sI ?_),rfl⟩
 rotate_left
 all_goals first|(exact htop.symm)|((unfold D6;rw[List.eq_nil_of_length_eq_zero (by omega:List.length d.stack=0)];rfl))|(grind)
theorem Pr (d:Dcd) (hp1:List.length (d).stack≤A8):Fun Tryz.prog 126 [.agg (Bs d)] [] (.v (vI (D6 d))) []:=by
 have hN:A8=274877906944:=rfl
 refine Aq Tryz.func126 Q4 Q4 (w:=let z1:=((List.length d.stack:Nat):Int);(.br (.leaf () []) (.seg [.as 12 (.v (vI (z1-1)))] (.intro (Sx (d.stack[Int.toNat (z1-1)]?)) fun x1=> .seg [.el .lev x1] (.leaf () []))),Bc (decide (z1=0)) (Lf (.v (vI 0)) (.v (vI (D6 d))) [] []) ((wI (z1-1))∧El (d.stack[Int.toNat (z1-1)]?) fun x1=>((d.stack[Int.toNat (z1-1)]? =some x1)∧((0:Int)≤z1-1)∧Lf (.v (vI x1.left)) (.v (vI (D6 d))) [] [])))) Q4 ?_
 refine dsp (fun h1 p1=>?_) fun h1 p1=>?_
 refine⟨(sI ?_),rfl⟩
 rotate_left
 refine⟨(Ad Q2 Q2),(Bm (l:=d.stack) (i:=Int.toNat (((List.length d.stack:Nat):Int)-1)) Q2),fun x1 hx1=>?_⟩
 have htop:D6 d=x1.left:=by unfold D6;rw[Wi (by rw[←hx1];congr 1;omega)]
 refine⟨hx1,Q2,(sI ?_),rfl⟩
 rotate_left
 all_goals first|(exact htop.symm)|((unfold D6;rw[List.eq_nil_of_length_eq_zero (by omega:List.length d.stack=0)];rfl))|(grind)
theorem Aho (p:Pln) (k:Int) (hp1:List.length (p).shapes≤A8):Fun Tryz.prog 211 [.agg (Mg p),vI k] [] (.v (vB (Ak k 0 (((List.length (p).shapes:Nat):Int)-1)))) []:=by
 have hN:A8=274877906944:=rfl
 refine Aq Tryz.func211 Q4 Q4 (w:=let z1:=((List.length p.shapes:Nat):Int)-1;let z2:S:= .v (vB (Ak k 0 z1));(.seg [.as 10 (.v (vI z1)),.call [] z2 []] (.leaf () []),(wI z1)∧(Fp 97 [vI k,vI 0,vI z1] [] z2 [])∧Lf z2 (.v (vB (Ak k 0 (((List.length (p).shapes:Nat):Int)-1)))) [] [])) Q4 ?_
 exact⟨(Ad Q2 Q2),(Cf _ _ _),(congrArg S.v (congrArg V.c (congrArg C.bool (by rfl)))),rfl⟩
theorem Ahp (p:Pln) (l:Lev) (hp1:List.length (p).shapes≤A8):Fun Tryz.prog 164 [.agg (Mg p),.agg (Ao2 l)] [] (.v (vB (Fj ((List.length (p).shapes:Nat):Int) l))) []:=by
 have hN:A8=274877906944:=rfl
 refine Aq Tryz.func164 Q4 Q4 (w:=let z1:=((List.length (p).shapes:Nat):Int);let z2:S:= .v (vB (Ak l.left 0 2000));let z3:=Ak l.msg 0 (z1-1);(.seg [.call [] (.v (vB z3)) []] (.br (.seg [.call [] z2 []] (.leaf () [])) (.leaf () [])),(Fp 211 [.agg (Mg p),vI l.msg] [] (.v (vB z3)) [])∧Bc z3 ((Fp 97 [vI l.left,vI 0,vI 2000] [] z2 [])∧Lf z2 (.v (vB (Fj z1 l))) [] []) (Lf (.v (vB false)) (.v (vB (Fj z1 l))) [] []))) Q4 ?_
 refine⟨(Aho p _ Q2),fun h1=>have p1:=As h1;?_,fun h1=>have p1:=Ay h1;?_⟩
 refine⟨(Cf _ _ _),(sB ?_),rfl⟩
 rotate_left
 refine⟨(sB ?_),rfl⟩
 rotate_left
 all_goals first|(simp[Fj, *];done)|(simp_all[Fj];done)|(grind[Fj])
theorem Ajo (l:Lev) (d:Dcd) (hp1:List.length (d).plan.shapes≤A8):Fun Tryz.prog 163 [.agg (Ao2 l),vP 0] [.cells (Bs d)] (.v (vB (!Fj ((List.length (d).plan.shapes:Nat):Int) l))) [.cells (Bs d)]:=by
 have hN:A8=274877906944:=rfl
 refine Aq Tryz.func163 Q4 Q4 (w:=let z1:=Fj ((List.length (d.plan).shapes:Nat):Int) l;(.seg [.call [] (.v (vB z1)) []] (.leaf () [0]),(Fp 164 [.agg (Mg d.plan),.agg (Ao2 l)] [] (.v (vB z1)) [])∧Lf (.v (vB (!z1))) (.v (vB (!Fj ((List.length (d).plan.shapes:Nat):Int) l))) [.cells (Bs d)] [.cells (Bs d)])) Q4 ?_
 exact⟨(Ahp d.plan l Q2),(congrArg S.v (congrArg V.c (congrArg C.bool (by rfl)))),rfl⟩
structure Tg where
 v:Nat
def Th (s:List Lev) (d:Dcd):Fam:=⟨Tg,fun q1=>[(0,.v (.c (.seq .lev s))),(1,.v (.c (.fn 163 [0]))),(7,.v (vI ((List.length s:Nat):Int))),(8,.v (vI ((q1.v:Nat):Int)))],fun _=>[.cells (Bs d)],fun q1=>q1.v≤List.length s∧Xy (List.length d.plan.shapes:Int) (List.drop q1.v s)+q1.v=Xy (List.length d.plan.shapes:Int) s,fun q1=>List.length s-q1.v⟩
theorem Aoa (s:List Lev) (d:Dcd) (hp1:List.length (d).plan.shapes≤A8) (hp2:List.length s≤A8):Fun Tryz.prog 210 [.c (.seq .lev s),.c (.fn 163 [0])] [.cells (Bs d)] (.v (vI (Lm ((List.length (d).plan.shapes:Nat):Int) s))) [.cells (Bs d)]:=by
 have hN:A8=274877906944:=rfl
 refine Aq Tryz.func210 Q4 Q4 (w:=let z3:=((List.length (d).plan.shapes:Nat):Int);let z4:List Blk:=[.cells (Bs d)];let z5:=((List.length s:Nat):Int);let z6:=Th s d;(.seg [.at 0,.keep [0,1,7,8],.sel [0]] (.loop z6 fun q1=> .br (.intro (Sx (s[q1.v]?)) fun x1=> .seg [.el .lev x1,.call [0] (.v (vB (!Fj z3 x1))) z4] (.br (.leaf () [0]) (.seg [.as 18 (.v (vI (((q1.v:Nat):Int)+1))),.at 0,.keep [0,1,7,8],.sel [0]] (.next)))) (.leaf () [0])),z6.Has [(0,.v (.c (.seq .lev s))),(1,.v (.c (.fn 163 [0]))),(7,.v (vI z5)),(8,.v (vI 0))] z4∧∀q1,z6.inv q1→(let z2:=((q1.v:Nat):Int);Bc (decide (z2<z5)) (El (s[q1.v]?) fun x1=>(let z1:= !Fj z3 x1;(s[q1.v]? =some x1)∧((0:Int)≤z2)∧(Fp 163 [.agg (Ao2 x1),vP 0] z4 (.v (vB z1)) z4)∧Bc z1 (Lf (.v (vI z2)) (.v (vI (Lm z3 s))) z4 z4) ((wI (z2+1))∧z6.Nxt q1 [(0,.v (.c (.seq .lev s))),(1,.v (.c (.fn 163 [0]))),(7,.v (vI z5)),(8,.v (vI (z2+1)))] z4))) (Lf (.v (vI (-1))) (.v (vI (Lm z3 s))) z4 z4)))) Q4 ?_
 refine⟨Bj (j:=(⟨0⟩:Tg)) Q9 rfl (by dsimp only[Th];exact⟨by omega,rfl⟩),fun (q1:Tg) hq_q1=>?_⟩
 have hi_q1:q1.v≤List.length s∧Xy (List.length d.plan.shapes:Int) (List.drop q1.v s)+q1.v=Xy (List.length d.plan.shapes:Int) s:=hq_q1
 obtain ⟨v1,v3⟩:=hi_q1
 refine dsp (fun h1 p1=>?_) fun h1 p1=>?_
 refine⟨(Bm (l:=s) (i:=q1.v) Q2),fun x1 hx1=>?_⟩
 rw[Dj hx1,S5] at v3
 have hll:=congrArg List.length (Dj hx1)
 rw[List.length_drop,List.length_cons,List.length_drop] at hll
 refine⟨hx1,Q2,(Ajo x1 d Q2),fun h2=>have q2:=An h2;?_,fun h2=>have q2:=Am h2;?_⟩
 rw[if_neg (by simp[q2])] at v3
 have hbl:Lm (List.length d.plan.shapes:Int) s=q1.v:=by unfold Lm;rw[if_neg (by omega)];omega
 refine⟨(sI ?_),rfl⟩
 rotate_left
 rw[if_pos q2] at v3
 exact⟨(Ad Q2 Q2),A5 (j:=(⟨q1.v+1⟩:Tg)) Q9 rfl (by dsimp only[Th];exact⟨by omega,by omega⟩) (by dsimp only[Th];omega)⟩
 rw[List.drop_eq_nil_of_le (by omega)] at v3
 simp only[Xy] at v3
 have hbl:Lm (List.length d.plan.shapes:Int) s= -1:=by unfold Lm;rw[if_pos (by omega)]
 refine⟨(sI ?_),rfl⟩
 rotate_left
 all_goals first|(exact hbl.symm)|(grind)
theorem Aob (s:List Lev) (d:Dcd) (hp1:List.length (d).plan.shapes≤A8) (hp2:List.length s≤A8):Fun Tryz.prog 162 [.c (.seq .lev s),.c (.fn 163 [0])] [.cells (Bs d)] (.v (vB (decide (0≤Lm ((List.length (d).plan.shapes:Nat):Int) s)))) [.cells (Bs d)]:=by
 have hN:A8=274877906944:=rfl
 refine Aq Tryz.func162 Q4 Q4 (w:=let z1:=((List.length (d).plan.shapes:Nat):Int);let z2:List Blk:=[.cells (Bs d)];let z3:S:= .v (vB (decide (0≤Lm z1 s)));(.seg [.call [0] (.v (vI (Lm z1 s))) z2] (.leaf () [0]),(Fp 210 [.c (.seq .lev s),.c (.fn 163 [0])] z2 (.v (vI (Lm z1 s))) z2)∧Lf z3 z3 z2 z2)) Q4 ?_
 exact⟨(Aoa _ d Q2 Q2),rfl,rfl⟩
theorem Yu (d:Dcd) (hp1:List.length (d).stack≤A8) (hp2:List.length (d).plan.shapes≤A8):Fun Tryz.prog 102 [.agg (Bs d)] [] (.v (vB (Bi d))) []:=by
 have hN:A8=274877906944:=rfl
 refine Aq Tryz.func102 Q4 Q4 (w:=let z1:=decide (0≤Lm ((List.length (d).plan.shapes:Nat):Int) d.stack);let z2:=Lf (.v (vB false)) (.v (vB (Bi d))) [] [];(.seg [.call [] (.v (vB (Dh d.plan))) []] (.br (.br (.seg [.call [0] (.v (vB z1)) [.cells (Bs d)]] (.leaf () [])) (.leaf () [])) (.leaf () [])),(Fp 46 [.agg (Mg d.plan)] [] (.v (vB (Dh d.plan))) [])∧Bc (Dh d.plan) (Bc (decide (((List.length d.stack:Nat):Int)≤d.plan.deep)) ((Fp 162 [.c (.seq .lev d.stack),.c (.fn 163 [0])] [.cells (Bs d)] (.v (vB z1)) [.cells (Bs d)])∧Lf (.v (vB (!z1))) (.v (vB (Bi d))) [] []) z2) z2)) Q4 ?_
 refine⟨(Ajn d.plan),fun h1=>have p1:=Cj h1;?_,fun h1=>?_⟩
 refine dsp (fun h2 p2=>?_) fun h2 p2=>?_
 refine⟨(Aob _ d Q2 Q2),(sB ?_),rfl⟩
 rotate_left
 refine⟨(sB ?_),rfl⟩
 rotate_left
 refine⟨(sB ?_),rfl⟩
 rotate_left
 all_goals first|(simp_all[Bi];done)|((unfold Bi;rw[Nk];grind[Lm]))|(grind[Bi,Lm,Nk])
theorem Ti (k:Int):Fun Tryz.prog 166 [vI k] [] (.v (vB (Mh k))) []:=by
 have hN:A8=274877906944:=rfl
 refine Aq Tryz.func166 Q4 Q4 (w:=let z1:S:= .v (vB (Ak k 1 10));(.seg [.call [] z1 []] (.leaf () []),(Fp 97 [vI k,vI 1,vI 10] [] z1 [])∧Lf z1 (.v (vB (Mh k))) [] [])) Q4 ?_
 exact⟨(Cf _ _ _),(congrArg S.v (congrArg V.c (congrArg C.bool (by rfl)))),rfl⟩
theorem Z1 (e:Ev):Fun Tryz.prog 167 [.agg (cEv e)] [] (.v (.agg (cEv (Eo e)))) []:=by
 have hN:A8=274877906944:=rfl
 refine Aq Tryz.func167 Q4 Q4 (w:=let zi:Int→C:= .int .i64;let z1:List C:=[.int .u64 0,zi e.len,.str [],zi 0,zi 0];let z2:S:= .v (.agg (cEv (Eo e)));let z3:S:= .v (.agg (zi e.kind::zi e.field::z1));let z4:=os 8 [5,7];(.br (.leaf () []) (.br (.seg [.ord z4 [2]] (.leaf () [])) (.br (.seg [.br true,.ord z4 [2]] (.leaf () [])) (.br (.seg [.ord z4 [2]] (.leaf () [])) (.br (.leaf () []) (.br (.leaf () []) (.br (.seg [.ord z4 [2]] (.leaf () [])) (.leaf () []))))))),Bc (decide (e.kind=1)) (Lf (.v (.agg (zi e.kind::zi 0::z1))) z2 [] []) (Bc (decide (e.kind=2)) (Lf (.v (.agg [zi e.kind,zi e.field,.int .u64 e.bits,zi 0,.str [],zi 0,zi 0])) z2 [] []) (Bc (decide (e.kind=3)) (((decide (e.kind=3))=true)∧Lf z3 z2 [] []) (Bc (decide (e.kind=6)) (Lf z3 z2 [] []) (Bc (decide (e.kind=4)) (Lf (.v (.agg [zi e.kind,zi 0,.int .u64 0,zi 0,.str e.text,zi 0,zi 0])) z2 [] []) (Bc (decide (e.kind=9)) (Lf (.v (.agg [zi e.kind,zi 0,.int .u64 0,zi 0,.str [],zi 0,zi e.at_])) z2 [] []) (Bc (decide (e.kind=10)) (Lf (.v (.agg [zi e.kind,zi 0,.int .u64 0,zi 0,.str [],zi e.code,zi e.at_])) z2 [] []) (Lf (.v (.agg [zi e.kind,zi 0,.int .u64 0,zi 0,.str [],zi 0,zi 0])) z2 [] []))))))))) Q4 ?_
 refine dsp (fun h1 p1=>?_) fun h1 p1=>?_
 refine zE (Eo e) (⟨e.kind,0,0,e.len,[],0,0⟩:Ev) (fun hm1=>⟨Q6,rfl⟩) ?_
 rotate_left
 refine dsp (fun h2 p2=>?_) fun h2 p2=>?_
 refine zE (Eo e) (⟨e.kind,e.field,e.bits,0,[],0,0⟩:Ev) (fun hm1=>⟨Q6,rfl⟩) ?_
 rotate_left
 refine dsp (fun h3 p3=>?_) fun h3 p3=>?_
 refine zE (Eo e) (⟨e.kind,e.field,0,e.len,[],0,0⟩:Ev) (fun hm1=>⟨h3,Q6,rfl⟩) ?_
 rotate_left
 refine dsp (fun h4 p4=>?_) fun h4 p4=>?_
 refine zE (Eo e) (⟨e.kind,e.field,0,e.len,[],0,0⟩:Ev) (fun hm1=>⟨Q6,rfl⟩) ?_
 rotate_left
 refine dsp (fun h5 p5=>?_) fun h5 p5=>?_
 refine zE (Eo e) (⟨e.kind,0,0,0,e.text,0,0⟩:Ev) (fun hm1=>⟨Q6,rfl⟩) ?_
 rotate_left
 refine dsp (fun h6 p6=>?_) fun h6 p6=>?_
 refine zE (Eo e) (⟨e.kind,0,0,0,[],0,e.at_⟩:Ev) (fun hm1=>⟨Q6,rfl⟩) ?_
 rotate_left
 refine dsp (fun h7 p7=>?_) fun h7 p7=>?_
 refine zE (Eo e) (⟨e.kind,0,0,0,[],e.code,e.at_⟩:Ev) (fun hm1=>⟨Q6,rfl⟩) ?_
 rotate_left
 refine zE (Eo e) (⟨e.kind,0,0,0,[],0,0⟩:Ev) (fun hm1=>⟨Q6,rfl⟩) ?_
 rotate_left
 all_goals first|(simp_all[Eo];done)|(grind[Eo])
theorem Yv (e:Ev):Fun Tryz.prog 107 [.agg (cEv e)] [] (.v (vB (Dg e))) []:=by
 have hN:A8=274877906944:=rfl
 refine Aq Tryz.func107 Q4 Q4 (w:=(.br (.leaf () []) (.leaf () []),Bc (decide (e.kind=9)) (Lf (.v (vB true)) (.v (vB (Dg e))) [] []) (Lf (.v (vB (decide (e.kind=10)))) (.v (vB (Dg e))) [] []))) Q4 ?_
 refine dsp (fun h1 p1=>?_) fun h1 p1=>?_
 refine⟨(sB ?_),rfl⟩
 rotate_left
 refine⟨(sB ?_),rfl⟩
 rotate_left
 all_goals first|(simp_all[Dg];done)|(grind[Dg])
theorem Yw (e:Ev):Fun Tryz.prog 31 [.agg (cEv e)] [] (.v (vB (Dg e))) []:=by
 have hN:A8=274877906944:=rfl
 refine Aq Tryz.func31 Q4 Q4 (w:=(.br (.leaf () []) (.leaf () []),Bc (decide (e.kind=9)) (Lf (.v (vB true)) (.v (vB (Dg e))) [] []) (Lf (.v (vB (decide (e.kind=10)))) (.v (vB (Dg e))) [] []))) Q4 ?_
 refine dsp (fun h1 p1=>?_) fun h1 p1=>?_
 refine⟨(sB ?_),rfl⟩
 rotate_left
 refine⟨(sB ?_),rfl⟩
 rotate_left
 all_goals first|(simp_all[Dg];done)|(grind[Dg])
theorem Abc (e:Ev):Fun Tryz.prog 106 [.agg (cEv e)] [] (.v (vB (Fn e))) []:=by
 have hN:A8=274877906944:=rfl
 refine Aq Tryz.func106 Q4 Q4 (w:=let z2:=Mh e.kind;let z3:S:= .v (vB (Fn e));let z5:S:= .v (vB (Ak e.field 1 536870911));let z6:S:= .v (vB z2);let z7:=decide (e.len<0);let z8:=Eo e;let z1:= !(decide (e.kind=z8.kind)&&(decide (e.field=z8.field)&&(decide (e.bits=z8.bits)&&(decide (e.len=z8.len)&&(decide (e.text=z8.text)&&(decide (e.code=z8.code)&&decide (e.at_=z8.at_)))))));let z4:S:= .v (.agg (cEv z8));let z9:S:= .v (vB false);let z10:=os 21 [2,7];(.case (!z2) (.seg [.ord z10 [],.call [] z6 [],.br true] (.leaf () [])) (.case z1 (.seg [.ord z10 [],.call [] z6 [],.br false,.call [] z4 [],.br true] (.leaf () [])) (.case z7 (.seg [.ord z10 [],.call [] z6 [],.br false,.call [] z4 [],.br false,.br true] (.leaf () [])) (.seg [.ord z10 [],.call [] z6 [],.br false,.call [] z4 [],.br false,.br false] (.br (.leaf () []) (.seg [.call [] (.v (vB (E0 e.kind))) []] (.br (.seg [.call [] z5 []] (.leaf () [])) (.br (.leaf () []) (.br (.leaf () []) (.leaf () []))))))))),Bc (!z2) ((Fp 166 [vI e.kind] [] z6 [])∧((!z2)=true)∧Lf z9 z3 [] []) (Bc z1 ((Fp 166 [vI e.kind] [] z6 [])∧((!z2)=false)∧(Fp 167 [.agg (cEv e)] [] z4 [])∧(z1=true)∧Lf z9 z3 [] []) (Bc z7 ((Fp 166 [vI e.kind] [] z6 [])∧((!z2)=false)∧(Fp 167 [.agg (cEv e)] [] z4 [])∧(z1=false)∧(z7=true)∧Lf z9 z3 [] []) ((Fp 166 [vI e.kind] [] z6 [])∧((!z2)=false)∧(Fp 167 [.agg (cEv e)] [] z4 [])∧(z1=false)∧(z7=false)∧Bc (decide (e.at_<0)) (Lf z9 z3 [] []) ((Fp 168 [vI e.kind] [] (.v (vB (E0 e.kind))) [])∧Bc (E0 e.kind) ((Fp 97 [vI e.field,vI 1,vI 536870911] [] z5 [])∧Lf z5 z3 [] []) (Bc (decide (e.kind=4)) (Lf (.v (vB (!decide (e.text=[])))) z3 [] []) (Bc (decide (e.kind=10)) (Lf (.v (vB (decide (1≤e.code)))) z3 [] []) (Lf (.v (vB true)) z3 [] []))))))))) Q4 ?_
 refine⟨fun h1=>have q1:=An h1;?_,fun h1=>have q1:=Am h1;?_⟩
 refine⟨(Ti _),h1,(sB ?_),rfl⟩
 rotate_left
 refine⟨fun h2=>have q2:=An h2;have p2:=(Ci dT (Ci dT (Ci dT (Ci dT (Ci dT (Ci dT dF)))))).1 q2;?_,fun h2=>have q2:=Am h2;have p2:=(Ch dT (Ch dT (Ch dT (Ch dT (Ch dT (Ch dT dT)))))).1 q2;?_⟩
 have hib:S6 e=false:=by rw[S8 rfl];exact q2
 refine⟨(Ti _),h1,(Z1 e),h2,(sB ?_),rfl⟩
 rotate_left
 have hib:S6 e=true:=by rw[S8 rfl];exact q2
 refine dsp (fun h3 p3=>?_) fun h3 p3=>?_
 refine⟨(Ti _),h1,(Z1 e),h2,h3,(sB ?_),rfl⟩
 rotate_left
 refine⟨(Ti _),h1,(Z1 e),h2,h3,dsp (fun h4 p4=>?_) fun h4 p4=>?_⟩
 refine⟨(sB ?_),rfl⟩
 rotate_left
 refine⟨(Ae6 _),fun h5=>?_,fun h5=>?_⟩
 refine⟨(Cf _ _ _),(sB ?_),rfl⟩
 rotate_left
 refine dsp (fun h6 p6=>?_) fun h6 p6=>?_
 refine⟨(sB ?_),rfl⟩
 rotate_left
 refine dsp (fun h7 p7=>?_) fun h7 p7=>?_
 refine⟨(sB ?_),rfl⟩
 rotate_left
 refine⟨(sB ?_),rfl⟩
 rotate_left
 all_goals first|((simp only[Fn,hib];simp[Mh,E0, *];done))|(grind[Fn,E0,Mh])
structure C8 where
 want:Ev
def R3 (e:Ev):Fam:=⟨C8,fun j0=>[(1,.v (vP 0)),(3,.v (vP 1))],fun j0=>[.cells (cEv e),.cells (cEv j0.want)],fun j0=>j0.want=Eo e,fun _=>0⟩
theorem Ahq (e:Ev):Fun Tryz.prog 125 [.agg (cEv e)] [] (.v (vB (Fn e))) []:=by
 have hN:A8=274877906944:=rfl
 refine Aq Tryz.func125 Q4 Q4 (w:=let zi:Int→C:= .int .i64;let z1:List C:=[.int .u64 0,zi e.len,.str [],zi 0,zi 0];let z2:S:= .v (vB (Ak e.field 1 536870911));let z3:S:= .v (vB (Fn e));let z4:=R3 e;let z5:=Lf (.v (vB false)) z3 [] [];let z6:List Blk:=[.cells (cEv e),.cells (zi e.kind::zi e.field::z1)];let z7:=decide (e.kind=3);let z8:List V:=[vI e.field,vI 1,vI 536870911];let z9:=decide (e.kind=2);let z10:=Ak e.kind 1 10;(.join 0 z4 (.br (.seg [.at 0,.keep [1,3],.sel [0,1]] (.next)) (.br (.seg [.at 0,.keep [1,3],.sel [0,1]] (.next)) (.br (.seg [.br true,.at 0,.keep [1,3],.sel [0,1]] (.next)) (.br (.seg [.at 0,.keep [1,3],.sel [0,1]] (.next)) (.br (.seg [.at 0,.keep [1,3],.sel [0,1]] (.next)) (.br (.seg [.at 0,.keep [1,3],.sel [0,1]] (.next)) (.br (.seg [.at 0,.keep [1,3],.sel [0,1]] (.next)) (.seg [.at 0,.keep [1,3],.sel [0,1]] (.next))))))))) fun j0=> .br (.leaf () []) (.seg [.call [] (.v (vB z10)) []] (.br (.leaf () []) (.br (.leaf () []) (.br (.leaf () []) (.br (.seg [.br true,.call [] z2 []] (.leaf () [])) (.br (.seg [.br true,.call [] z2 []] (.leaf () [])) (.br (.seg [.call [] z2 []] (.leaf () [])) (.br (.leaf () []) (.br (.leaf () []) (.leaf () [])))))))))),(Bc (decide (e.kind=1)) (z4.Has [(1,.v (vP 0)),(3,.v (vP 1))] [.cells (cEv e),.cells (zi e.kind::zi 0::z1)]) (Bc z9 (z4.Has [(1,.v (vP 0)),(3,.v (vP 1))] [.cells (cEv e),.cells [zi e.kind,zi e.field,.int .u64 e.bits,zi 0,.str [],zi 0,zi 0]]) (Bc z7 ((z7=true)∧z4.Has [(1,.v (vP 0)),(3,.v (vP 1))] z6) (Bc (decide (e.kind=6)) (z4.Has [(1,.v (vP 0)),(3,.v (vP 1))] z6) (Bc (decide (e.kind=4)) (z4.Has [(1,.v (vP 0)),(3,.v (vP 1))] [.cells (cEv e),.cells [zi e.kind,zi 0,.int .u64 0,zi 0,.str e.text,zi 0,zi 0]]) (Bc (decide (e.kind=9)) (z4.Has [(1,.v (vP 0)),(3,.v (vP 1))] [.cells (cEv e),.cells [zi e.kind,zi 0,.int .u64 0,zi 0,.str [],zi 0,zi e.at_]]) (Bc (decide (e.kind=10)) (z4.Has [(1,.v (vP 0)),(3,.v (vP 1))] [.cells (cEv e),.cells [zi e.kind,zi 0,.int .u64 0,zi 0,.str [],zi e.code,zi e.at_]]) (z4.Has [(1,.v (vP 0)),(3,.v (vP 1))] [.cells (cEv e),.cells [zi e.kind,zi 0,.int .u64 0,zi 0,.str [],zi 0,zi 0]]))))))))∧∀j0,z4.inv j0→(Bc (!(decide (e.kind=j0.want.kind)&&(decide (e.field=j0.want.field)&&(decide (e.bits=j0.want.bits)&&(decide (e.len=j0.want.len)&&(decide (e.text=j0.want.text)&&(decide (e.code=j0.want.code)&&decide (e.at_=j0.want.at_)))))))) z5 ((Fp 44 [vI e.kind,vI 1,vI 10] [] (.v (vB z10)) [])∧Bc (!z10) z5 (Bc (decide (e.len<0)) z5 (Bc (decide (e.at_<0)) z5 (Bc z9 ((z9=true)∧(Fp 44 z8 [] z2 [])∧Lf z2 z3 [] []) (Bc z7 ((z7=true)∧(Fp 44 z8 [] z2 [])∧Lf z2 z3 [] []) (Bc (decide (e.kind=6)) ((Fp 44 z8 [] z2 [])∧Lf z2 z3 [] []) (Bc (decide (e.kind=4)) (Lf (.v (vB (!decide (e.text=[])))) z3 [] []) (Bc (decide (e.kind=10)) (Lf (.v (vB (decide (1≤e.code)))) z3 [] []) (Lf (.v (vB true)) z3 [] [])))))))))))) Q4 ?_
 refine⟨?_,fun (j0:C8) hq_j0=>?_⟩
 refine dsp (fun h2 p2=>?_) fun h2 p2=>?_
 exact Bj (j:=(⟨(⟨e.kind,0,0,e.len,[],0,0⟩:Ev)⟩:C8)) rfl Q9 Q39
 refine dsp (fun h3 p3=>?_) fun h3 p3=>?_
 exact Bj (j:=(⟨(⟨e.kind,e.field,e.bits,0,[],0,0⟩:Ev)⟩:C8)) rfl Q9 Q39
 refine dsp (fun h4 p4=>?_) fun h4 p4=>?_
 exact⟨h4,Bj (j:=(⟨(⟨e.kind,e.field,0,e.len,[],0,0⟩:Ev)⟩:C8)) rfl Q9 Q39⟩
 refine dsp (fun h5 p5=>?_) fun h5 p5=>?_
 exact Bj (j:=(⟨(⟨e.kind,e.field,0,e.len,[],0,0⟩:Ev)⟩:C8)) rfl Q9 Q39
 refine dsp (fun h6 p6=>?_) fun h6 p6=>?_
 exact Bj (j:=(⟨(⟨e.kind,0,0,0,e.text,0,0⟩:Ev)⟩:C8)) rfl Q9 Q39
 refine dsp (fun h7 p7=>?_) fun h7 p7=>?_
 exact Bj (j:=(⟨(⟨e.kind,0,0,0,[],0,e.at_⟩:Ev)⟩:C8)) rfl Q9 Q39
 refine dsp (fun h8 p8=>?_) fun h8 p8=>?_
 exact Bj (j:=(⟨(⟨e.kind,0,0,0,[],e.code,e.at_⟩:Ev)⟩:C8)) rfl Q9 Q39
 exact Bj (j:=(⟨(⟨e.kind,0,0,0,[],0,0⟩:Ev)⟩:C8)) rfl Q9 Q39
 have hi_j0:j0.want=Eo e:=hq_j0
 refine⟨fun h2=>have q2:=An h2;have p2:=(Ci dT (Ci dT (Ci dT (Ci dT (Ci dT (Ci dT dF)))))).1 q2;?_,fun h2=>have q2:=Am h2;have p2:=(Ch dT (Ch dT (Ch dT (Ch dT (Ch dT (Ch dT dT)))))).1 q2;?_⟩
 have hib:S6 e=false:=by rw[S8 hi_j0.symm];exact q2
 refine⟨(sB ?_),rfl⟩
 rotate_left
 have hib:S6 e=true:=by rw[S8 hi_j0.symm];exact q2
 refine⟨(Bf _ _ _),fun h3=>have q3:=An h3;have p3:=Ay q3;?_,fun h3=>have q3:=Am h3;have p3:=As q3;?_⟩
 refine⟨(sB ?_),rfl⟩
 rotate_left
 refine dsp (fun h4 p4=>?_) fun h4 p4=>?_
 refine⟨(sB ?_),rfl⟩
 rotate_left
 refine dsp (fun h5 p5=>?_) fun h5 p5=>?_
 refine⟨(sB ?_),rfl⟩
 rotate_left
 refine dsp (fun h6 p6=>?_) fun h6 p6=>?_
 refine⟨h6,(Bf _ _ _),(sB ?_),rfl⟩
 rotate_left
 refine dsp (fun h7 p7=>?_) fun h7 p7=>?_
 refine⟨h7,(Bf _ _ _),(sB ?_),rfl⟩
 rotate_left
 refine dsp (fun h8 p8=>?_) fun h8 p8=>?_
 refine⟨(Bf _ _ _),(sB ?_),rfl⟩
 rotate_left
 refine dsp (fun h9 p9=>?_) fun h9 p9=>?_
 refine⟨(sB ?_),rfl⟩
 rotate_left
 refine dsp (fun h10 p10=>?_) fun h10 p10=>?_
 refine⟨(sB ?_),rfl⟩
 rotate_left
 refine⟨(sB ?_),rfl⟩
 rotate_left
 all_goals first|((simp only[Fn,hib];simp[Mh,E0, *];done))|(grind[Fn,E0,Mh])
theorem Adx (s:Scn):Fun Tryz.prog 172 [.agg (Lg s)] [] (.v (vB (Dr s))) []:=by
 have hN:A8=274877906944:=rfl
 refine Aq Tryz.func172 Q4 Q4 (w:=let z1:=7*s.have_;let z2:=Ak s.have_ 0 9;(.seg [.call [] (.v (vB z2)) []] (.br (.seg [.as 11 (.v (vI z1)),.as 12 (.v (.c (.int .u64 z1)))] (.leaf () [])) (.leaf () [])),(Fp 97 [vI s.have_,vI 0,vI 9] [] (.v (vB z2)) [])∧Bc z2 ((wI z1)∧(wU z1)∧((0:Int)≤7*s.have_)∧Lf (.v (vB (decide (Int.fdiv s.bits (2 ^ min (Int.toNat z1) 64)=0)))) (.v (vB (Dr s))) [] []) (Lf (.v (vB false)) (.v (vB (Dr s))) [] []))) Q4 ?_
 refine⟨(Cf _ _ _),fun h1=>have p1:=As h1;?_,fun h1=>have p1:=Ay h1;?_⟩
 refine⟨(Ad Q2 Q2),(B3 Q2 Q2),Q2,(sB ?_),rfl⟩
 rotate_left
 refine⟨(sB ?_),rfl⟩
 rotate_left
 all_goals first|(simp_all[Dr];done)|(grind[Dr])
theorem Vp (s:Scn):Fun Tryz.prog 189 [.agg (Lg s)] [] (.v (vB (Dr s))) []:=by
 have hN:A8=274877906944:=rfl
 refine Aq Tryz.func189 Q4 Q4 (w:=let z1:=7*s.have_;let z2:=Ak s.have_ 0 9;(.seg [.call [] (.v (vB z2)) []] (.br (.seg [.as 11 (.v (vI z1)),.as 12 (.v (.c (.int .u64 z1)))] (.leaf () [])) (.leaf () [])),(Fp 44 [vI s.have_,vI 0,vI 9] [] (.v (vB z2)) [])∧Bc z2 ((wI z1)∧(wU z1)∧((0:Int)≤7*s.have_)∧Lf (.v (vB (decide (Int.fdiv s.bits (2 ^ min (Int.toNat z1) 64)=0)))) (.v (vB (Dr s))) [] []) (Lf (.v (vB false)) (.v (vB (Dr s))) [] []))) Q4 ?_
 refine⟨(Bf _ _ _),fun h1=>have p1:=As h1;?_,fun h1=>have p1:=Ay h1;?_⟩
 refine⟨(Ad Q2 Q2),(B3 Q2 Q2),Q2,(sB ?_),rfl⟩
 rotate_left
 refine⟨(sB ?_),rfl⟩
 rotate_left
 all_goals first|(simp_all[Dr];done)|(grind[Dr])
theorem Rb (d:Dcd):Fun Tryz.prog 118 [.agg (Bs d)] [] (.v (vI (Bu d))) []:=by
 have hN:A8=274877906944:=rfl
 refine Aq Tryz.func118 Q4 Q4 (w:=let z1:=Cd d.field.kind;let z2:S:= .v (vI (A4 d.wire));let z3:S:= .v (vI (A4 z1));let z4:S:= .v (vI (Bu d));(.br (.seg [.call [] z2 []] (.leaf () [])) (.br (.seg [.call [] (.v (vI z1)) [],.call [] z3 []] (.leaf () [])) (.leaf () [])),Bc (decide (d.mode=5)) ((Fp 171 [vI d.wire] [] z2 [])∧Lf z2 z4 [] []) (Bc (decide (d.mode=8)) ((Fp 181 [vI d.field.kind] [] (.v (vI z1)) [])∧(Fp 171 [vI z1] [] z3 [])∧Lf z3 z4 [] []) (Lf (.v (vI 0)) z4 [] [])))) Q4 ?_
 refine dsp (fun h1 p1=>?_) fun h1 p1=>?_
 refine⟨(Fq _),(sI ?_),rfl⟩
 rotate_left
 refine dsp (fun h2 p2=>?_) fun h2 p2=>?_
 refine⟨(Zu _),(Fq _),(sI ?_),rfl⟩
 rotate_left
 refine⟨(sI ?_),rfl⟩
 rotate_left
 all_goals first|(simp_all[Bu];done)|(grind[Bu])
theorem Ka (d:Dcd):Fun Tryz.prog 61 [.agg (Bs d)] [] (.v (vI (Bu d))) []:=by
 have hN:A8=274877906944:=rfl
 refine Aq Tryz.func61 Q4 Q4 (w:=let z1:=Cd d.field.kind;let z2:S:= .v (vI (A4 d.wire));let z3:S:= .v (vI (A4 z1));let z4:S:= .v (vI (Bu d));(.br (.seg [.call [] z2 []] (.leaf () [])) (.br (.seg [.call [] (.v (vI z1)) [],.call [] z3 []] (.leaf () [])) (.leaf () [])),Bc (decide (d.mode=5)) ((Fp 127 [vI d.wire] [] z2 [])∧Lf z2 z4 [] []) (Bc (decide (d.mode=8)) ((Fp 131 [vI d.field.kind] [] (.v (vI z1)) [])∧(Fp 127 [vI z1] [] z3 [])∧Lf z3 z4 [] []) (Lf (.v (vI 0)) z4 [] [])))) Q4 ?_
 refine dsp (fun h1 p1=>?_) fun h1 p1=>?_
 refine⟨(D8 _),(sI ?_),rfl⟩
 rotate_left
 refine dsp (fun h2 p2=>?_) fun h2 p2=>?_
 refine⟨(Qy _),(D8 _),(sI ?_),rfl⟩
 rotate_left
 refine⟨(sI ?_),rfl⟩
 rotate_left
 all_goals first|(simp_all[Bu];done)|(grind[Bu])
structure Ms where
 v:Nat
def Kq (p:Pln) (f:Fld):Fam:=⟨Ms,fun q1=>[(2,.v (vP 0)),(3,.v (vP 1)),(11,.v (vI ((List.length p.shapes:Nat):Int))),(12,.v (vI ((q1.v:Nat):Int)))],fun _=>[.cells (Mg p),.cells (Gb f)],fun q1=>q1.v≤List.length p.shapes∧Gc p.shapes f q1.v=false,fun q1=>List.length p.shapes-q1.v⟩
theorem Amy (p:Pln) (f:Fld) (hp1:List.length (p).shapes≤1000) (hp2: ∀x∈(p).shapes,List.length x.fields≤1000):Fun Tryz.prog 105 [.agg (Mg p),.agg (Gb f)] [] (.v (vB (Jz (p).shapes f))) []:=by
 have hN:A8=274877906944:=rfl
 refine Aq Tryz.func105 Q4 Q4 (w:=let z5:=((List.length p.shapes:Nat):Int);let z6:=Kq p f;(.seg [.at 0,.keep [2,3,11,12],.sel [0,1]] (.loop z6 fun q1=>let z1:=((q1.v:Nat):Int);.br (.seg [.call [] (.tup [.agg (Gb ((fieldAt p.shapes z1 f.number).getD fld0)),vB (fieldAt p.shapes z1 f.number).isSome]) []] (.br (.br (.leaf () []) (.seg [.as 30 (.v (vI (z1+1))),.at 0,.keep [2,3,11,12],.sel [0,1]] (.next))) (.seg [.as 30 (.v (vI (z1+1))),.at 0,.keep [2,3,11,12],.sel [0,1]] (.next)))) (.leaf () [])),z6.Has [(2,.v (vP 0)),(3,.v (vP 1)),(11,.v (vI z5)),(12,.v (vI 0))] [.cells (Mg p),.cells (Gb f)]∧∀q1,z6.inv q1→(let z4:=((q1.v:Nat):Int);let z2:=fieldAt p.shapes z4 f.number;let z3:=(wI (z4+1))∧z6.Nxt q1 [(2,.v (vP 0)),(3,.v (vP 1)),(11,.v (vI z5)),(12,.v (vI (z4+1)))] [.cells (Mg p),.cells (Gb f)];Bc (decide (z4<z5)) ((Fp 165 [.agg [.seq .shp p.shapes],vI z4,vI f.number] [] (.tup [.agg (Gb (z2.getD fld0)),vB z2.isSome]) [])∧Bc (z2.isSome) (Bc (decide ((z2.getD fld0).number=f.number)&&(decide ((z2.getD fld0).kind=f.kind)&&(decide ((z2.getD fld0).rep=f.rep)&&(decide ((z2.getD fld0).packed=f.packed)&&decide ((z2.getD fld0).msg=f.msg))))) (Lf (.v (vB true)) (.v (vB (Jz (p).shapes f))) [] []) z3) z3) (Lf (.v (vB false)) (.v (vB (Jz (p).shapes f))) [] [])))) Q4 ?_
 refine⟨Bj (j:=(⟨0⟩:Ms)) Q9 rfl (by dsimp only[Kq];exact⟨by omega,rfl⟩),fun (q1:Ms) hq_q1=>?_⟩
 have hi_q1:q1.v≤List.length p.shapes∧Gc p.shapes f q1.v=false:=hq_q1
 obtain ⟨v1,v2⟩:=hi_q1
 refine dsp (fun h1 p1=>?_) fun h1 p1=>?_
 refine⟨(W3 p.shapes _ _ Q2 Q2),fun h2=>?_,fun h2=>?_⟩
 obtain ⟨o,ho⟩:=Option.isSome_iff_exists.1 h2
 have hg:(fieldAt p.shapes (q1.v:Int) f.number).getD fld0=o:=by rw[ho];rfl
 refine⟨fun h3=>have p3:=(Ch dT (Ch dT (Ch dT (Ch dT dT)))).1 h3;?_,fun h3=>have p3:=(Ci dT (Ci dT (Ci dT (Ci dT dF)))).1 h3;?_⟩
 rw[hg] at p3
 have hkk:=Zk (by omega) (show (fieldAt p.shapes (q1.v:Int) f.number)=some f by rw[ho,Agy p3])
 refine⟨(sB ?_),rfl⟩
 rotate_left
 rw[hg] at p3
 have hkn:Gc p.shapes f (q1.v+1)=false:=Nm v2 (by rw[ho];intro e;exact Agz p3 (Option.some.inj e))
 exact⟨(Ad Q2 Q2),A5 (j:=(⟨q1.v+1⟩:Ms)) Q9 rfl (by dsimp only[Kq];exact⟨by omega,hkn⟩) (by dsimp only[Kq];omega)⟩
 have hkn:Gc p.shapes f (q1.v+1)=false:=Nm v2 (by intro e;rw[e] at h2;simp at h2)
 exact⟨(Ad Q2 Q2),A5 (j:=(⟨q1.v+1⟩:Ms)) Q9 rfl (by dsimp only[Kq];exact⟨by omega,hkn⟩) (by dsimp only[Kq];omega)⟩
 have hkk:=Adj v2 (by omega)
 refine⟨(sB ?_),rfl⟩
 rotate_left
 all_goals first|(exact hkk.symm)|(grind)
structure Hg where
 i:Nat
def F6 (d:Dcd):Fam:=⟨Hg,fun q1=>[(1,.v (vP 0)),(3,.v (vI ((q1.i:Nat):Int)))],fun _=>[.cells (Bs d)],fun q1=>q1.i≤List.length d.plan.shapes∧Gc d.plan.shapes d.field q1.i=false,fun q1=>List.length d.plan.shapes-q1.i⟩
theorem Ae7 (d:Dcd) (hp1:List.length (d).plan.shapes≤1000) (hp2: ∀x∈(d).plan.shapes,List.length x.fields≤1000):Fun Tryz.prog 123 [.agg (Bs d)] [] (.v (vB (decide ((d).field=fld0)||Jz (d).plan.shapes (d).field))) []:=by
 have hN:A8=274877906944:=rfl
 refine Aq Tryz.func123 Q4 Q4 (w:=let z6:S:= .v (vB (decide ((d).field=fld0)||Jz (d).plan.shapes (d).field));let z7:=F6 d;(.br (.leaf () []) (.seg [.at 0,.keep [1,3],.sel [0]] (.loop z7 fun q1=>let z2:=((q1.i:Nat):Int);let z1:=fieldAt d.plan.shapes z2 d.field.number;.br (.seg [.call [] (.tup [.agg (Gb (z1.getD fld0)),vB z1.isSome]) []] (.br (.br (.leaf () []) (.seg [.as 18 (.v (vI (z2+1))),.at 0,.keep [1,3],.sel [0]] (.next))) (.seg [.as 18 (.v (vI (z2+1))),.at 0,.keep [1,3],.sel [0]] (.next)))) (.leaf () []))),Bc (decide (d.field.number=0)&&(decide (d.field.kind=0)&&(decide (d.field.rep=false)&&(decide (d.field.packed=false)&&decide (d.field.msg=0))))) (Lf (.v (vB true)) z6 [] []) (z7.Has [(1,.v (vP 0)),(3,.v (vI 0))] [.cells (Bs d)]∧∀q1,z7.inv q1→(let z5:=((q1.i:Nat):Int);let z3:=fieldAt d.plan.shapes z5 d.field.number;let z4:=(wI (z5+1))∧z7.Nxt q1 [(1,.v (vP 0)),(3,.v (vI (z5+1)))] [.cells (Bs d)];Bc (decide (z5<((List.length d.plan.shapes:Nat):Int))) ((Fp 188 [.agg [.seq .shp d.plan.shapes],vI z5,vI d.field.number] [] (.tup [.agg (Gb (z3.getD fld0)),vB z3.isSome]) [])∧Bc (z3.isSome) (Bc (decide ((z3.getD fld0).number=d.field.number)&&(decide ((z3.getD fld0).kind=d.field.kind)&&(decide ((z3.getD fld0).rep=d.field.rep)&&(decide ((z3.getD fld0).packed=d.field.packed)&&decide ((z3.getD fld0).msg=d.field.msg))))) (Lf (.v (vB true)) z6 [] []) z4) z4) (Lf (.v (vB false)) z6 [] []))))) Q4 ?_
 refine⟨fun h1=>have p1:=(Ch dT (Ch dT (Ch dT (Ch dT dT)))).1 h1;?_,fun h1=>have p1:=(Ci dT (Ci dT (Ci dT (Ci dT dF)))).1 h1;?_⟩
 refine⟨(sB ?_),rfl⟩
 rotate_left
 refine⟨Bj (j:=(⟨0⟩:Hg)) Q9 rfl (by dsimp only[F6];exact⟨by omega,rfl⟩),fun (q1:Hg) hq_q1=>?_⟩
 have hi_q1:q1.i≤List.length d.plan.shapes∧Gc d.plan.shapes d.field q1.i=false:=hq_q1
 obtain ⟨v1,v2⟩:=hi_q1
 refine dsp (fun h2 p2=>?_) fun h2 p2=>?_
 refine⟨(W4 d.plan.shapes _ _ Q2 Q2),fun h3=>?_,fun h3=>?_⟩
 obtain ⟨o,ho⟩:=Option.isSome_iff_exists.1 h3
 have hg:(fieldAt d.plan.shapes (q1.i:Int) d.field.number).getD fld0=o:=by rw[ho];rfl
 refine⟨fun h4=>have p4:=(Ch dT (Ch dT (Ch dT (Ch dT dT)))).1 h4;?_,fun h4=>have p4:=(Ci dT (Ci dT (Ci dT (Ci dT dF)))).1 h4;?_⟩
 rw[hg] at p4
 have hkk:=Zk (by omega) (show (fieldAt d.plan.shapes (q1.i:Int) d.field.number)=some d.field by rw[ho,Agy p4])
 refine⟨(sB ?_),rfl⟩
 rotate_left
 rw[hg] at p4
 have hkn:Gc d.plan.shapes d.field (q1.i+1)=false:=Nm v2 (by rw[ho];intro e;exact Agz p4 (Option.some.inj e))
 exact⟨(Ad Q2 Q2),A5 (j:=(⟨q1.i+1⟩:Hg)) Q9 rfl (by dsimp only[F6];exact⟨by omega,hkn⟩) (by dsimp only[F6];omega)⟩
 have hkn:Gc d.plan.shapes d.field (q1.i+1)=false:=Nm v2 (by intro e;rw[e] at h3;simp at h3)
 exact⟨(Ad Q2 Q2),A5 (j:=(⟨q1.i+1⟩:Hg)) Q9 rfl (by dsimp only[F6];exact⟨by omega,hkn⟩) (by dsimp only[F6];omega)⟩
 have hkk:=Adj v2 (by omega)
 refine⟨(sB ?_),rfl⟩
 rotate_left
 all_goals first|(simp[hkk];done)|((rw[hkk];simp_all[fld0];done))|((have hz:=Zm p1;simp[hz];done))|(grind[fld0])
end Go.Proofs.YtphecbmdhbphgaaGreat.Ax
