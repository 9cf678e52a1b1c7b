/- Chunks. Chunks of an input. Models: streams. Varints. Numbers of so Aou bytes; tags. Utf-8. Schemas. Events. Decoders: what is valid. Decoders: what is valid, more. Decoders: what is valid, whole. Decoders: what is valid, at last. -/
import Derived.Test.YtphecbmdhbphgaaGreatKFnPullOne1
set_option linter.unusedSimpArgs false
set_option linter.unusedVariables false
namespace Go.Proofs.YtphecbmdhbphgaaGreat.Ax
open Go.RowKit
def Vw (l:List Ev):Prop:= ∀e∈l,e.text.length≤1
theorem Aag:Vw []:=fun _ h=>by cases h
theorem Aej {a b:List Ev} (ha:Vw a) (hb:Vw b):Vw (a++b):=fun e h=>(List.mem_append.1 h).elim (ha e) (hb e)
theorem Aj9 {e:Ev} (h:e.text.length≤1):Vw [e]:=fun x hx=>by simp at hx;rw[hx];exact h
theorem He {a:List Ev} {e:Ev} (ha:Vw a) (h:e.text.length≤1):Vw (a++[e]):=Aej ha (Aj9 h)
theorem Ah2: ∀ {l:List Ev},Vw l→tx l≤l.length
 |[],_=>Nat.le_refl _
 |e::r,h=>by
  have h1:=h e (List.mem_cons_self ..)
  have h2:=Ah2 (l:=r) fun x hx=>h x (List.mem_cons_of_mem _ hx)
  rw[tx,List.length_cons];omega
theorem D9 {m:Mac} {c a:Int} (h:Vw m.oJ):Vw (A1 m c a).oJ:=He h (Nat.zero_le _)
theorem Ac7 {m q:Mac} (h:Vw m.oJ) (hc:Az m=some q):Vw q.oJ:=by
 unfold Az at hc
 split at hc
 ·split at hc
  ·cases hc;exact D9 h
  ·cases hc;exact He h (Nat.zero_le _)
 ·split at hc
  ·cases hc;exact h
  ·split at hc
   ·split at hc<;>(cases hc;exact He h (Nat.zero_le _))
   ·cases hc
theorem D6 {m:Mac} (h:Vw m.oJ):Vw (Af m).oJ:=by
 suffices ∀(k:Nat) (m:Mac),wM m≤k→Vw m.oJ→Vw (Af m).oJ from this _ m (Nat.le_refl _) h
 intro k
 induction k with
 |zero=>
  intro m hk h
  cases hc:Az m with
  |none=>rw[B8 hc];exact h
  |some q=>have:=(Cg hc).1;omega
 |succ k ih=>
  intro m hk h
  cases hc:Az m with
  |none=>rw[B8 hc];exact h
  |some q=>rw[Cs hc];exact ih q (by have:=(Cg hc).1;omega) (Ac7 h hc)
theorem So {m:Mac} {u:Int} (h:Vw m.oJ):Vw (Bt m u).oJ:=by
 unfold Bt
 simp only
 split
 ·exact h
 ·exact He h (Nat.zero_le _)
theorem Afp {m:Mac} {b:Int} (h:Vw m.oJ):Vw (Er m b).oJ:=by
 unfold Er
 split
 ·unfold E0
  split
  ·split
   ·exact D9 h
   ·exact D6 (He h (Nat.le_refl _))
  ·exact D6 (He h (Nat.le_refl _))
 ·split
  ·exact D6 h
  ·split
   ·unfold D5
    split
    ·exact h
    ·split
     ·exact D9 (So h)
     ·exact D6 (So h)
   ·unfold Bw
    split
    ·exact D9 h
    ·split
     ·unfold Wz
      split
      ·exact D9 h
      ·exact h
     ·split
      ·unfold C6
       split
       ·exact D9 h
       ·exact D6 (He h (Nat.zero_le _))
      ·split
       ·unfold Ex
        split
        ·exact D9 h
        ·split
         ·exact D9 h
         ·split
          ·exact D9 h
          ·split
           ·exact D9 h
           ·exact h
       ·split
        ·unfold Cw
         split
         ·exact D9 h
         ·split
          ·exact D6 h
          ·split
           ·split
            ·exact D9 h
            ·exact D6 (He h (Nat.zero_le _))
           ·split
            ·exact D6 (He h (Nat.zero_le _))
            ·split
             ·exact D9 h
             ·exact D6 h
        ·exact D6 (So h)
theorem Afq {m:Mac} {b:Int} (h:Vw m.oJ):Vw (Rw m b).oJ:=by
 unfold Rw
 refine Aej h ?_
 unfold Cr
 split
 ·exact Afp Aag
 ·exact Aag
theorem Zb: ∀(s:List UInt8) (m:Mac),Vw m.oJ→Vw (C1 m s).oJ
 |[],m,h=>h
 |b::r,m,h=>by rw[G3];exact Zb r _ (Afq h)
theorem Ah3 (d:Dcd) (s:List UInt8):(C1 ⟨d,[]⟩ s).oJ.length≤14*s.length∧tx (C1 ⟨d,[]⟩ s).oJ≤14*s.length:=by
 have h1:=(Xf s ⟨d,[]⟩).2.2.1
 have h2:=Ah2 (Zb s ⟨d,[]⟩ Aag)
 simp only[List.length_nil] at h1
 omega
def Bn (d:Dcd) (s:List UInt8):Mac:=⟨(C1 ⟨d,[]⟩ s).d,Fu (C1 ⟨d,[]⟩ s).oJ⟩
theorem Xi (d:Dcd) (s:List UInt8):(Bn d s).d.pJ=d.pJ∧((Bn d s).d.sJ.length:Int)≤max (d.sJ.length:Int) 8∧(Bn d s).oJ.length≤14*s.length∧((0≤d.sK.bits∧d.sK.bits≤18446744073709551615)→0≤(Bn d s).d.sK.bits∧(Bn d s).d.sK.bits≤18446744073709551615):=by
 have h:=Xf s ⟨d,[]⟩
 have h2:=Ah3 d s
 have h3:=Za (C1 ⟨d,[]⟩ s).oJ
 exact⟨h.1,h.2.1,Nat.le_trans h3 h2.1,h.2.2.2⟩
def Ah4 (a:Int):Ev:=⟨9,0,0,0,[],0,a⟩
def Fv (d:Dcd):Bool:=Bs d&&decide (d.mJ=1)&&decide (d.sK.hJ=0)
def Hf (d:Dcd):Mac:=if Bs d=false∨d.mJ=9 then ⟨d,[]⟩ else if d.mJ=1∧d.sK.hJ=0 then ⟨⟨d.pJ,9,d.sJ,d.sK,d.sX,d.aJ,d.field,d.wJ,d.wK,d.uJ,Ah4 d.aJ⟩,[Ah4 d.aJ]⟩ else ⟨A8 d 10 d.aJ,[A2 10 d.aJ]⟩
theorem Aah (d:Dcd):(Hf d).oJ.length≤1:=by unfold Hf;split;simp;split<;>simp
def Cu (s:Strm):Bool:=Bj s.reader&&Bs s.dec&&decide (0≤s.reads)
def J6 (d:Dcd) (c:Int):Mac:=if Bs d=true∧d.mJ≠9∧1≤c then ⟨A8 d c d.aJ,[A2 c d.aJ]⟩ else ⟨d,[]⟩
def Xj (d:Dcd) (c:Int):Mac:=if d.mJ=9 then ⟨d,[]⟩ else if c=1 then Hf d else if 20≤c then J6 d c else ⟨d,[]⟩
def Cz (s:Strm):Strm:=
 ⟨A9 s.reader 16,(Xj (Bn s.dec (A5 s.reader 16)).d (B9 s.reader 16)).d,s.queue++(Bn s.dec (A5 s.reader 16)).oJ++(Xj (Bn s.dec (A5 s.reader 16)).d (B9 s.reader 16)).oJ,IntKind.i64.wrap (s.reads+1)⟩
def Gf:Nat→Strm→Strm
 |0,s=>s
 |k+1,s=>if s.queue=[]∧s.dec.mJ≠9 then Gf k (Cz s) else s
theorem Vx: ∀(s:List UInt8) {m:Mac},Bs m.d=true→Bs (C1 m s).d=true
 |[],_,h=>h
 |b::r,m,h=>by rw[G3];exact Vx r (Aad h)
theorem Ac8 {d:Dcd} (h:Bs d=true):Bs (Hf d).d=true∧(d.mJ≠9→(Hf d).d.mJ=9):=by
 unfold Hf
 rw[h]
 obtain ⟨h1,h2,h3,h4,h5,h6,h7,h8,hs,h10,h11,h12⟩:=K7 h
 split
 ·rename_i hx
  rcases hx with hx|hx
  ·cases hx
  ·exact⟨h,fun h9=>absurd hx h9⟩
 ·rename_i hx
  simp only[not_or] at hx
  split
  ·rename_i hy
   refine⟨?_,fun _=>rfl⟩
   have hsc:d.sK=scn0:=by
    unfold J9 at h12
    have hw:By d=0:=by unfold By;rw[if_neg (by omega),if_neg (by omega)]
    rw[hw,if_neg (by decide),if_neg (by omega)] at h12
    simp only[D4,Bool.and_eq_true,decide_eq_true_eq] at h12
    have h0:=h12.2
    rw[hy.2] at h0
    have hb:d.sK.bits=0:=by simpa using h0
    cases hd:d.sK with
    |mk b k=>rw[hd] at hb hy;simp only at hb hy;rw[hb,hy.2];rfl
   have hw0:d.wK=0:=(Z8 h10).2 (by omega)
   refine Jg (Cd h1 rfl rfl) (show (1:Int)≤9∧(9:Int)≤9 by decide) h3 h4 h5 h6 h7 ?_ ?_ ?_ ?_ ?_
   ·simp[Y2,Gv,Qf,Ak,Tc,Ep,Ah4,Fi,B6];exact decide_eq_true h3.1
   ·simp[J4]
   ·simp[Jn,hw0]
   ·simp[Jo]
   ·simp[J9,By,hsc]
  ·exact⟨Aed h1 h3 h4 h5 h6 h7 (by decide) h3.1,fun _=>rfl⟩
theorem Ank {d:Dcd} {c:Int} (h:Bs d=true):Bs (J6 d c).d=true:=by
 unfold J6
 split
 ·rename_i hx
  obtain ⟨h1,h2,h3,h4,h5,h6,h7,-⟩:=K7 h
  exact Aed h1 h3 h4 h5 h6 h7 hx.2.2 h3.1
 ·exact h
theorem Anm {d:Dcd} {c:Int} (h:Bs d=true):Bs (Xj d c).d=true:=by
 unfold Xj
 split
 ·exact h
 ·split
  ·exact(Ac8 h).1
  ·split
   ·exact Ank h
   ·exact h
theorem Jp {s:Strm} (h:Bs s.dec=true):Bs (Cz s).dec=true:=Anm (Vx _ h)
def rmu (r:Rdr):Nat:=((r.script.length:Int)-r.next).toNat+((r.data.length:Int)-r.aJ).toNat
theorem E6 {r:Rdr} (h:Bj r=true):Bj (A9 r 16)=true:=by
 have ht:=D8 h
 unfold A9
 split
 ·exact h
 ·have hc:=(Tj (Dp r 16).n 16 ((r.data.length:Int)-r.aJ))
  have hn:rsN r 16=Dw (Dp r 16).n 16 ((r.data.length:Int)-r.aJ):=rfl
  have hnx:Qg r=if r.next<(r.script.length:Int) then r.next+1 else r.next:=rfl
  have hcd:Tk r 16=if 20≤(Dp r 16).code then (Dp r 16).code else if (Dp r 16).code=1∧r.aJ+rsN r 16=(r.data.length:Int) then 1 else r.code:=rfl
  simp only[Bj,Ak,Bool.and_eq_true,Bool.or_eq_true,decide_eq_true_eq]
  split at hnx<;>split at hcd<;>(try split at hcd)<;>omega
theorem Yi {r:Rdr} (h:Bj r=true):B9 r 16=1∨20≤B9 r 16∨(B9 r 16=0∧rmu (A9 r 16)<rmu r):=by
 have ht:=D8 h
 unfold B9
 rw[h]
 simp only[Bool.not_true,Bool.false_or]
 rw[if_neg (by decide)]
 by_cases hc:r.code=0
 ·rw[if_neg (by simp[hc])]
  have hb:Abq r 16=false:=by simp[Abq,h,hc]
  have hs:A9 r 16=⟨r.data,r.aJ+rsN r 16,r.script,Qg r,Tk r 16⟩:=by unfold A9;rw[hb];rfl
  rw[hs]
  have hcl:=Tj (Dp r 16).n 16 ((r.data.length:Int)-r.aJ)
  have hn:rsN r 16=Dw (Dp r 16).n 16 ((r.data.length:Int)-r.aJ):=rfl
  have hcd:Tk r 16=if 20≤(Dp r 16).code then (Dp r 16).code else if (Dp r 16).code=1∧r.aJ+rsN r 16=(r.data.length:Int) then 1 else r.code:=rfl
  by_cases hx:r.next<(r.script.length:Int)
  ·have hnx:Qg r=r.next+1:=by unfold Qg;rw[if_pos hx]
   split at hcd
   ·right;left;omega
   ·split at hcd
    ·left;exact hcd
    ·right;right
     refine⟨by omega,?_⟩
     unfold rmu
     simp only
     omega
  ·have hnx:Qg r=r.next:=by unfold Qg;rw[if_neg hx]
   have he:Dp r 16=⟨16,1⟩:=by unfold Dp;rw[if_neg hx]
   rw[he] at hn hcd hcl
   simp only at hn hcd hcl
   rw[if_neg (by decide)] at hcd
   split at hcd
   ·left;exact hcd
   ·rename_i hy
    right;right
    have h16:rsN r 16=16:=by
     have: ¬r.aJ+rsN r 16=(r.data.length:Int):=fun e=>hy ⟨by first|rfl|trivial,e⟩
     unfold Dw at hn
     omega
    refine⟨by omega,?_⟩
    unfold rmu
    simp only
    have:r.aJ+16≤(r.data.length:Int):=by
     unfold Dw at hn
     omega
    omega
 ·rw[if_pos (by simp[hc])]
  omega
def Fe (s:Strm):Strm:=Gf (rmu s.reader+1) s
theorem Abv (s:Strm):(Cz s).reader=A9 s.reader 16:=rfl
theorem Kq {s:Strm} (hr:Bj s.reader=true) (hd:Bs s.dec=true):(Cz s).dec.mJ=9∨rmu (Cz s).reader<rmu s.reader:=by
 have hm:=Vx (A5 s.reader 16) (m:=⟨s.dec,[]⟩) hd
 have hm:Bs (Bn s.dec (A5 s.reader 16)).d=true:=hm
 have he:(Cz s).dec=(Xj (Bn s.dec (A5 s.reader 16)).d (B9 s.reader 16)).d:=rfl
 rw[he,Abv]
 generalize (Bn s.dec (A5 s.reader 16)).d=d at *
 rcases Yi hr with h|h|⟨_,h⟩
 ·left
  unfold Xj
  rw[h]
  by_cases h9:d.mJ=9
  ·rw[if_pos h9];exact h9
  ·rw[if_neg h9,if_pos rfl];exact(Ac8 hm).2 h9
 ·left
  unfold Xj
  by_cases h9:d.mJ=9
  ·rw[if_pos h9];exact h9
  ·rw[if_neg h9,if_neg (by omega),if_pos h]
   unfold J6
   rw[if_pos ⟨hm,h9,by omega⟩];rfl
 ·exact .inr h
theorem Dk {s:Strm} (h: ¬(s.queue=[]∧s.dec.mJ≠9)): ∀k,Gf k s=s
 |0=>rfl
 |k+1=>by rw[Gf,if_neg h]
theorem Ac9: ∀(n:Nat) {s:Strm} {k:Nat},rmu s.reader≤n→Bj s.reader=true→Bs s.dec=true→rmu s.reader+1≤k→Gf k s=Gf (rmu s.reader+1) s:=by
 intro n
 induction n with
 |zero=>
  intro s k hn hr hd hk
  by_cases hs:s.queue=[]∧s.dec.mJ≠9
  ·obtain ⟨j,rfl⟩: ∃j,k=j+1:=⟨k-1,by omega⟩
   rw[Gf,if_pos hs,Gf,if_pos hs]
   rcases Kq hr hd with h|h
   ·rw[Dk (fun x=>x.2 h),Dk (fun x=>x.2 h)]
   ·omega
  ·rw[Dk hs,Dk hs]
 |succ n ih=>
  intro s k hn hr hd hk
  by_cases hs:s.queue=[]∧s.dec.mJ≠9
  ·obtain ⟨j,rfl⟩: ∃j,k=j+1:=⟨k-1,by omega⟩
   rw[Gf,if_pos hs,Gf,if_pos hs]
   rcases Kq hr hd with h|h
   ·rw[Dk (fun x=>x.2 h),Dk (fun x=>x.2 h)]
   ·have h1:=ih (s:=Cz s) (k:=j) (by omega) (E6 hr) (Jp hd) (by omega)
    have h2:=ih (s:=Cz s) (k:=rmu s.reader) (by omega) (E6 hr) (Jp hd) (by omega)
    rw[h1,h2]
  ·rw[Dk hs,Dk hs]
theorem Zc {s:Strm} (hr:Bj s.reader=true) (hd:Bs s.dec=true) (hs:s.queue=[]∧s.dec.mJ≠9):Fe s=Fe (Cz s):=by
 unfold Fe
 rw[Gf,if_pos hs]
 rcases Kq hr hd with h|h
 ·rw[Dk (fun x=>x.2 h),Dk (fun x=>x.2 h)]
 ·exact Ac9 _ (Nat.le_refl _) (E6 hr) (Jp hd) (by omega)
theorem Kr {s:Strm} (h: ¬(s.queue=[]∧s.dec.mJ≠9)):Fe s=s:=Dk h _
structure Nt where
 u:Int
 oJ:List Int
def Nu (u:Int):Fam:=⟨Nt,fun q1=>[(0,.v (.c (.int .u64 q1.u))),(3,.v (vO 0))],fun q1=>[.lst .u8 q1.oJ],fun q1=>(0:Int)≤q1.u∧q1.u≤18446744073709551615∧List.map Bh q1.oJ++Ef q1.u=Ef u∧q1.oJ.length+List.length (Ef q1.u)≤10,fun q1=>q1.u.toNat⟩
theorem Vy (u:Int) (hp1:(0:Int)≤u∧u≤18446744073709551615):Fun Tryz.prog 202 [.c (.int .u64 u)] [] (.v (vT (Ef u))) []:=by
 have hN:A7=274877906944:=rfl
 refine Ap Tryz.func202 Q4 Q4 (w:=let z2:=Nu u;(.sZ [.ty .u8,.at 0,.keep [0,3],.sel [0]] (.loop z2 fun q1=> .br (.sZ [.as 9 (.v (.c (.int .u64 (q1.u % 128)))),.as 10 (.v (.c (.int .u64 (q1.u % 128+128)))),.as 11 (.v (.c (.int .u8 (q1.u % 128+128)))),.ty .u8,.ty .u8,.as 15 (.v (.c (.int .u64 (q1.u / 128)))),.at 0,.keep [0,3],.sel [2]] (.next)) (.sZ [.as 18 (.v (.c (.int .u8 q1.u))),.ty .u8,.ty .u8] (.lJ () []))),z2.Has [(0,.v (.c (.int .u64 u))),(3,.v (vO 0))] [.lst .u8 ([]:List Int)]∧∀q1,z2.inv q1→(let z1:=q1.u % 128+128;Bc (decide (127<q1.u)) (((128:Int)≠0)∧((.v (.c (.int .u64 (Int.tmod q1.u 128))):S)= .v (.c (.int .u64 (q1.u % 128))))∧((.v (.c (.int .u64 (IntKind.u64.wrap ((q1.u % 128)+128)))):S)= .v (.c (.int .u64 z1)))∧((.v (.c (.int .u8 (IntKind.u8.wrap z1))):S)= .v (.c (.int .u8 z1)))∧(q1.oJ.length+List.length [q1.u % 128+128]≤A7)∧((128:Int)≠0)∧((.v (.c (.int .u64 (IntKind.u64.wrap (Int.tdiv q1.u 128)))):S)= .v (.c (.int .u64 (q1.u / 128))))∧z2.Nxt q1 [(0,.v (.c (.int .u64 (q1.u / 128)))),(3,.v (vO 0))] [.lst .u8 (q1.oJ++[q1.u % 128+128])]) (((.v (.c (.int .u8 (IntKind.u8.wrap (q1.u)))):S)= .v (.c (.int .u8 q1.u)))∧(q1.oJ.length+List.length [q1.u]≤A7)∧Lf (.v (vT (List.map Bh (q1.oJ++[q1.u])))) (.v (vT (Ef u))) [] [])))) Q4 ?_
 refine⟨Bm (j:=(⟨u,([]:List Int)⟩:Nt)) rfl rfl (by dsimp only[Nu];exact⟨by omega,by omega,by simp,by have:=Ad6 (u:=u) Q2;unfold Lq at this;simp;omega⟩),fun (q1:Nt) hq_q1=>?_⟩
 have hi_q1:(0:Int)≤q1.u∧q1.u≤18446744073709551615∧List.map Bh q1.oJ++Ef q1.u=Ef u∧q1.oJ.length+List.length (Ef q1.u)≤10:=hq_q1
 obtain ⟨v1,v2,v3,v4⟩:=hi_q1
 refine dsp (fun h1 p1=>?_) fun h1 p1=>?_
 exact⟨Q30,(Z3 Q2),(B3 Q2 Q2),(Mt Q2 Q2),(by have:=Y0 q1.u;simp;omega),Q30,(Wu Q2 Q2 Q30),A4 (j:=(⟨q1.u / 128,q1.oJ++[q1.u % 128+128]⟩:Nt)) rfl rfl (by dsimp only[Nu];exact⟨by omega,by omega,by rw[←v3,Yz (u:=q1.u) (by omega) (by omega)];simp[Bh],by rw[Yz (u:=q1.u) (by omega) (by omega)] at v4;simp at v4 ⊢;omega⟩) (by dsimp only[Nu];omega)⟩
 exact⟨(Mt Q2 Q2),(by have:=Y0 q1.u;simp;omega),(congrArg S.v (congrArg V.c (congrArg C.str W5))),rfl⟩
structure Ajd where
 u:Int
 k:Nat
structure Ann where
 u:Int
 i:Int
theorem C2 (n:Int) (w:Int):Fun Tryz.prog 222 [vI n,vI w] [] (.v (.c (.int .u64 (C9 n w)))) []:=by
 have hN:A7=274877906944:=rfl
 refine Ap Tryz.func222 Q4 Q4 (w:=let z2:=(8*n)+w;let z3:=Ak n 1 536870911;let z4:S:= .v (.c (.int .u64 (C9 n w)));let z1:=Lf (.v (.c (.int .u64 0))) z4 [] [];(.sZ [.call [] (.v (vB z3)) []] (.br (.lJ () []) (.sZ [.call [] (.v (vB (Ak w 0 7))) []] (.br (.lJ () []) (.sZ [.as 14 (.v (vI (8*n))),.as 16 (.v (vI z2)),.as 17 (.v (.c (.int .u64 z2)))] (.lJ () []))))),(Fp 44 [vI n,vI 1,vI 536870911] [] (.v (vB z3)) [])∧Bc (!z3) z1 ((Fp 44 [vI w,vI 0,vI 7] [] (.v (vB (Ak w 0 7))) [])∧Bc (!(Ak w 0 7)) z1 ((wI (8*n))∧(wI z2)∧(wU z2)∧Lf (.v (.c (.int .u64 z2))) z4 [] [])))) Q4 ?_
 refine⟨(Bf _ _ _),fun h1=>have q1:=An h1;have p1:=Ay q1;?_,fun h1=>have q1:=Am h1;have p1:=Ar q1;?_⟩
 exact⟨(congrArg S.v (congrArg V.c (congrArg (C.int .u64) (by simp[C9, *])))),rfl⟩
 refine⟨(Bf _ _ _),fun h2=>have q2:=An h2;have p2:=Ay q2;?_,fun h2=>have q2:=Am h2;have p2:=Ar q2;?_⟩
 exact⟨(congrArg S.v (congrArg V.c (congrArg (C.int .u64) (by simp[C9, *])))),rfl⟩
 exact⟨(Ad Q2 Q2),(Ad Q2 Q2),(B3 Q2 Q2),(congrArg S.v (congrArg V.c (congrArg (C.int .u64) (by simp[C9, *])))),rfl⟩
theorem Ano (u:Int) (hp1:(0:Int)≤u∧u≤18446744073709551615):Fun Tryz.prog 216 [.c (.int .u64 u)] [] (.tup [vI (B0 u),vI (Aj u),vB (Si u)]) []:=by
 have hN:A7=274877906944:=rfl
 refine Ap Tryz.func216 Q4 Q4 (w:=let z1:S:= .tup [vI (B0 u),vI (Aj u),vB (Si u)];let z2:=(.v (.c (.int .u64 (Int.fdiv u (2 ^ 3)))):S)= .v (.c (.int .u64 (u / 8)));let z3:=Lf (.tup [vI 0,vI 0,vB false]) z1 [] [];(.br (.lJ () []) (.sZ [.as 9 (.v (.c (.int .u64 (u / 8))))] (.br (.lJ () []) (.sZ [.as 13 (.v (.c (.int .u64 (u / 8)))),.as 14 (.v (vI (u / 8))),.as 16 (.v (.c (.int .u64 (u % 8)))),.as 17 (.v (vI (u % 8)))] (.lJ () [])))),Bc (decide (u<8)) z3 (((0:Int)≤3)∧z2∧Bc (decide (536870911<u / 8)) z3 (((0:Int)≤3)∧z2∧(wI (u / 8))∧((.v (.c (.int .u64 (IntKind.u64.wrap (((BitVec.ofInt 64 u&&&BitVec.ofInt 64 7).toNat:Nat))))):S)= .v (.c (.int .u64 (u % 8))))∧(wI (u % 8))∧Lf (.tup [vI (u / 8),vI (u % 8),vB true]) z1 [] [])))) Q4 ?_
 refine dsp (fun h1 p1=>?_) fun h1 p1=>?_
 exact⟨(congrArg S.tup (Ab (congrArg V.c (cI W6)) (Ab (congrArg V.c (cI W6)) (Ab (congrArg V.c (congrArg C.bool W6)) rfl)))),rfl⟩
 refine⟨Q30,(Yv (k:=3) Q30 Q30),dsp (fun h2 p2=>?_) fun h2 p2=>?_⟩
 exact⟨(congrArg S.tup (Ab (congrArg V.c (cI W6)) (Ab (congrArg V.c (cI W6)) (Ab (congrArg V.c (congrArg C.bool W6)) rfl)))),rfl⟩
 exact⟨Q30,(Yv (k:=3) Q30 Q30),(Ad Q2 Q2),(Acx (k:=3) Q30 Q30),(Ad Q2 Q2),(congrArg S.tup (Ab (congrArg V.c (cI W6)) (Ab (congrArg V.c (cI W6)) (Ab (congrArg V.c (congrArg C.bool W6)) rfl)))),rfl⟩
theorem Anp (u:Int) (hp1:(0:Int)≤u∧u≤18446744073709551615):Fun Tryz.prog 191 [.c (.int .u64 u)] [] (.tup [vI (B0 u),vI (Aj u),vB (Si u)]) []:=by
 have hN:A7=274877906944:=rfl
 refine Ap Tryz.func191 Q4 Q4 (w:=let z1:S:= .tup [vI (B0 u),vI (Aj u),vB (Si u)];let z2:=Lf (.tup [vI 0,vI 0,vB false]) z1 [] [];(.br (.lJ () []) (.br (.lJ () []) (.sZ [.as 12 (.v (.c (.int .u64 (u / 8)))),.as 13 (.v (vI (u / 8))),.as 15 (.v (.c (.int .u64 (u % 8)))),.as 16 (.v (vI (u % 8)))] (.lJ () []))),Bc (decide (u<8)) z2 (Bc (decide (4294967295<u)) z2 (((8:Int)≠0)∧((.v (.c (.int .u64 (IntKind.u64.wrap (Int.tdiv u 8)))):S)= .v (.c (.int .u64 (u / 8))))∧(wI (u / 8))∧((8:Int)≠0)∧((.v (.c (.int .u64 (Int.tmod u 8))):S)= .v (.c (.int .u64 (u % 8))))∧(wI (u % 8))∧Lf (.tup [vI (u / 8),vI (u % 8),vB true]) z1 [] [])))) Q4 ?_
 refine dsp (fun h1 p1=>?_) fun h1 p1=>?_
 exact⟨(congrArg S.tup (Ab (congrArg V.c (cI W6)) (Ab (congrArg V.c (cI W6)) (Ab (congrArg V.c (congrArg C.bool W6)) rfl)))),rfl⟩
 refine dsp (fun h2 p2=>?_) fun h2 p2=>?_
 exact⟨(congrArg S.tup (Ab (congrArg V.c (cI W6)) (Ab (congrArg V.c (cI W6)) (Ab (congrArg V.c (congrArg C.bool W6)) rfl)))),rfl⟩
 exact⟨Q30,(Wu Q2 Q2 Q30),(Ad Q2 Q2),Q30,(Z3 Q2),(Ad Q2 Q2),(congrArg S.tup (Ab (congrArg V.c (cI W6)) (Ab (congrArg V.c (cI W6)) (Ab (congrArg V.c (congrArg C.bool W6)) rfl)))),rfl⟩
theorem Ah5 (c:Int) (a:Int):Fun Tryz.prog 111 [vI c,vI a] [] (.v (.agg (cEv (A2 c a)))) []:=by
 have hN:A7=274877906944:=rfl
 refine Ap Tryz.func111 Q4 Q4 (w:=(.lJ () [],Lf (.v (.agg [.int .i64 10,.int .i64 0,.int .u64 0,.int .i64 0,.str [],.int .i64 c,.int .i64 a])) (.v (.agg (cEv (A2 c a)))) [] [])) Q4 ?_
 have hm1:A2 c a=(⟨10,0,0,0,[],c,a⟩:Ev):=by rfl
 exact⟨Q6,rfl⟩
theorem Ah6 (c:Int) (a:Int):Fun Tryz.prog 94 [vI c,vI a] [] (.v (.agg (cEv (A2 c a)))) []:=by
 have hN:A7=274877906944:=rfl
 refine Ap Tryz.func94 Q4 Q4 (w:=(.lJ () [],Lf (.v (.agg [.int .i64 10,.int .i64 0,.int .u64 0,.int .i64 0,.str [],.int .i64 c,.int .i64 a])) (.v (.agg (cEv (A2 c a)))) [] [])) Q4 ?_
 have hm1:A2 c a=(⟨10,0,0,0,[],c,a⟩:Ev):=by rfl
 exact⟨Q6,rfl⟩
theorem Zd (f:Fld) (u:Int) (hp1:(0:Int)≤u):Fun Tryz.prog 215 [.agg (Gc f),.c (.int .u64 u)] [] (.v (.agg (cEv (H7 f u)))) []:=by
 have hN:A7=274877906944:=rfl
 refine Ap Tryz.func215 Q4 Q4 (w:=let zi:Int→C:= .int .i64;let z1:List C:=[zi 2,zi f.nJ,.int .u64 u,zi 0,.str [],zi 0,zi 0];let z2:=Lf (.v (.agg z1)) (.v (.agg (cEv (H7 f u)))) [] [];(.br (.br (.lJ () []) (.lJ () [])) (.lJ () []),Bc (decide (f.kind=3)) (Bc (!decide (u=0)) (Lf (.v (.agg [zi 2,zi f.nJ,.int .u64 1,zi 0,.str [],zi 0,zi 0])) (.v (.agg (cEv (H7 f u)))) [] []) z2) z2)) Q4 ?_
 refine dsp (fun h1 p1=>?_) fun h1 p1=>?_
 refine⟨fun h2=>have q2:=An h2;have p2:=of_decide_eq_false q2;?_,fun h2=>have q2:=Am h2;have p2:=of_decide_eq_true q2;?_⟩
 exact zE (H7 f u) (⟨2,f.nJ,1,0,[],0,0⟩:Ev) (fun hm1=>⟨Q6,rfl⟩) W7
 exact zE (H7 f u) (⟨2,f.nJ,u,0,[],0,0⟩:Ev) (fun hm1=>⟨Q6,rfl⟩) W7
 exact zE (H7 f u) (⟨2,f.nJ,u,0,[],0,0⟩:Ev) (fun hm1=>⟨Q6,rfl⟩) W7
theorem Uj (f:Fld) (u:Int) (hp1:(0:Int)≤u):Fun Tryz.prog 134 [.agg (Gc f),.c (.int .u64 u)] [] (.v (.agg (cEv (H7 f u)))) []:=by
 have hN:A7=274877906944:=rfl
 refine Ap Tryz.func134 Q4 Q4 (w:=let zi:Int→C:= .int .i64;let z1:List C:=[zi 2,zi f.nJ,.int .u64 u,zi 0,.str [],zi 0,zi 0];let z2:=Lf (.v (.agg z1)) (.v (.agg (cEv (H7 f u)))) [] [];(.br (.br (.lJ () []) (.lJ () [])) (.lJ () []),Bc (decide (f.kind=3)) (Bc (decide (1<u)) (Lf (.v (.agg [zi 2,zi f.nJ,.int .u64 1,zi 0,.str [],zi 0,zi 0])) (.v (.agg (cEv (H7 f u)))) [] []) z2) z2)) Q4 ?_
 refine dsp (fun h1 p1=>?_) fun h1 p1=>?_
 refine dsp (fun h2 p2=>?_) fun h2 p2=>?_
 exact zE (H7 f u) (⟨2,f.nJ,1,0,[],0,0⟩:Ev) (fun hm1=>⟨Q6,rfl⟩) W7
 exact zE (H7 f u) (⟨2,f.nJ,u,0,[],0,0⟩:Ev) (fun hm1=>⟨Q6,rfl⟩) W7
 exact zE (H7 f u) (⟨2,f.nJ,u,0,[],0,0⟩:Ev) (fun hm1=>⟨Q6,rfl⟩) W7
theorem Ah7 (u:Utf):Fun Tryz.prog 103 [.agg (K5 u)] [] (.v (vB (Fk u))) []:=by
 have hN:A7=274877906944:=rfl
 refine Ap Tryz.func103 Q4 Q4 (w:=let z1:=decide (u.low=128)&&decide (u.high=191);let z2:S:= .v (vB (Fk u));let z3:S:= .v (vB true);let z4:=decide (u.wK=2)&&(decide (u.low=160)&&decide (u.high=191));let z5:=decide (u.wK=2)&&(decide (u.low=128)&&decide (u.high=159));let z6:=decide (u.wK=3)&&(decide (u.low=144)&&decide (u.high=191));let z7:=decide (u.wK=0)&&(decide (u.low=0)&&decide (u.high=0));(.br (.sZ [.br true] (.lJ () [])) (.br (.sZ [.br true] (.lJ () [])) (.br (.sZ [.br true] (.lJ () [])) (.br (.sZ [.br true] (.lJ () [])) (.br (.sZ [.br true] (.lJ () [])) (.br (.sZ [.br true] (.lJ () [])) (.br (.sZ [.br true] (.lJ () [])) (.br (.lJ () []) (.lJ () [])))))))),Bc z7 ((z7=true)∧Lf z3 z2 [] []) (Bc (decide (u.wK=1)&&z1) (((decide (u.wK=1)&&z1)=true)∧Lf z3 z2 [] []) (Bc (decide (u.wK=2)&&z1) (((decide (u.wK=2)&&z1)=true)∧Lf z3 z2 [] []) (Bc (decide (u.wK=3)&&z1) (((decide (u.wK=3)&&z1)=true)∧Lf z3 z2 [] []) (Bc z4 ((z4=true)∧Lf z3 z2 [] []) (Bc z5 ((z5=true)∧Lf z3 z2 [] []) (Bc z6 ((z6=true)∧Lf z3 z2 [] []) (Bc (decide (u.wK=3)&&(decide (u.low=128)&&decide (u.high=143))) (Lf z3 z2 [] []) (Lf (.v (vB false)) z2 [] [])))))))))) Q4 ?_
 refine⟨fun h1=>have p1:=(Cx dT (Cx dT dT)).1 h1;?_,fun h1=>have p1:=(Cy dT (Cy dT dF)).1 h1;?_⟩
 exact⟨h1,(sB W8),rfl⟩
 refine⟨fun h2=>have p2:=(Cx dT (Cx dT dT)).1 h2;?_,fun h2=>have p2:=(Cy dT (Cy dT dF)).1 h2;?_⟩
 exact⟨h2,(sB W8),rfl⟩
 refine⟨fun h3=>have p3:=(Cx dT (Cx dT dT)).1 h3;?_,fun h3=>have p3:=(Cy dT (Cy dT dF)).1 h3;?_⟩
 exact⟨h3,(sB W8),rfl⟩
 refine⟨fun h4=>have p4:=(Cx dT (Cx dT dT)).1 h4;?_,fun h4=>have p4:=(Cy dT (Cy dT dF)).1 h4;?_⟩
 exact⟨h4,(sB W8),rfl⟩
 refine⟨fun h5=>have p5:=(Cx dT (Cx dT dT)).1 h5;?_,fun h5=>have p5:=(Cy dT (Cy dT dF)).1 h5;?_⟩
 exact⟨h5,(sB W8),rfl⟩
 refine⟨fun h6=>have p6:=(Cx dT (Cx dT dT)).1 h6;?_,fun h6=>have p6:=(Cy dT (Cy dT dF)).1 h6;?_⟩
 exact⟨h6,(sB W8),rfl⟩
 refine⟨fun h7=>have p7:=(Cx dT (Cx dT dT)).1 h7;?_,fun h7=>have p7:=(Cy dT (Cy dT dF)).1 h7;?_⟩
 exact⟨h7,(sB W8),rfl⟩
 refine⟨fun h8=>have p8:=(Cx dT (Cx dT dT)).1 h8;?_,fun h8=>have p8:=(Cy dT (Cy dT dF)).1 h8;?_⟩
 exact⟨(sB W8),rfl⟩
 exact⟨(sB W8),rfl⟩
theorem Ah8 (u:Utf):Fun Tryz.prog 121 [.agg (K5 u)] [] (.v (vB (Fk u))) []:=by
 have hN:A7=274877906944:=rfl
 refine Ap Tryz.func121 Q4 Q4 (w:=let z2:S:= .v (vB (Fk u));let z3:=decide (u.low=128);let z1:=(z3=false)∧Lf (.v (vB false)) z2 [] [];let z4:=decide (u.high=191);let z5:S:= .v (vB (Ak u.wK 1 3));let z6:=Lf (.v (vB true)) z2 [] [];let z7:S:= .v (vB (decide (u.high=159)));let z8:S:= .v (vB (decide (u.high=143)));(.br (.lJ () []) (.br (.br (.sZ [.call [] z5 []] (.lJ () [])) (.br (.br (.sZ [.br false,.br true] (.lJ () [])) (.sZ [.br true] (.lJ () []))) (.br (.br (.sZ [.br false,.br true] (.lJ () [])) (.sZ [.br true] (.lJ () []))) (.lJ () [])))) (.br (.br (.br (.lJ () []) (.sZ [.br false] (.lJ () []))) (.sZ [.br false] (.lJ () []))) (.br (.br (.br (.lJ () []) (.sZ [.br false] (.lJ () []))) (.sZ [.br false] (.lJ () []))) (.lJ () [])))),Bc (decide (u.wK=0)&&(decide (u.low=0)&&decide (u.high=0))) z6 (Bc z3 (Bc z4 ((Fp 44 [vI u.wK,vI 1,vI 3] [] z5 [])∧Lf z5 z2 [] []) (Bc (decide (u.wK=2)) (Bc (decide (u.low=160)) ((z4=false)∧(z3=true)∧Lf z7 z2 [] []) ((z3=true)∧Lf z7 z2 [] [])) (Bc (decide (u.wK=3)) (Bc (decide (u.low=144)) ((z4=false)∧(z3=true)∧Lf z8 z2 [] []) ((z3=true)∧Lf z8 z2 [] [])) (Lf (.v (vB false)) z2 [] [])))) (Bc (decide (u.wK=2)) (Bc (decide (u.low=160)) (Bc z4 z6 z1) z1) (Bc (decide (u.wK=3)) (Bc (decide (u.low=144)) (Bc z4 z6 z1) z1) (Lf (.v (vB false)) z2 [] [])))))) Q4 ?_
 refine⟨fun h1=>have p1:=(Cx dT (Cx dT dT)).1 h1;?_,fun h1=>have p1:=(Cy dT (Cy dT dF)).1 h1;?_⟩
 exact⟨(sB W8),rfl⟩
 refine dsp (fun h2 p2=>?_) fun h2 p2=>?_
 refine dsp (fun h3 p3=>?_) fun h3 p3=>?_
 exact⟨(Bf _ _ _),(sB W8),rfl⟩
 refine dsp (fun h4 p4=>?_) fun h4 p4=>?_
 refine dsp (fun h5 p5=>?_) fun h5 p5=>?_
 exact⟨h3,h2,(sB W8),rfl⟩
 exact⟨h2,(sB W8),rfl⟩
 refine dsp (fun h5 p5=>?_) fun h5 p5=>?_
 refine dsp (fun h6 p6=>?_) fun h6 p6=>?_
 exact⟨h3,h2,(sB W8),rfl⟩
 exact⟨h2,(sB W8),rfl⟩
 exact⟨(sB W8),rfl⟩
 refine dsp (fun h3 p3=>?_) fun h3 p3=>?_
 refine dsp (fun h4 p4=>?_) fun h4 p4=>?_
 refine dsp (fun h5 p5=>?_) fun h5 p5=>?_
 exact⟨(sB W8),rfl⟩
 exact⟨h2,(sB W8),rfl⟩
 exact⟨h2,(sB W8),rfl⟩
 refine dsp (fun h4 p4=>?_) fun h4 p4=>?_
 refine dsp (fun h5 p5=>?_) fun h5 p5=>?_
 refine dsp (fun h6 p6=>?_) fun h6 p6=>?_
 exact⟨(sB W8),rfl⟩
 exact⟨h2,(sB W8),rfl⟩
 exact⟨h2,(sB W8),rfl⟩
 exact⟨(sB W8),rfl⟩
theorem Afr (b:Int):Fun Tryz.prog 214 [vI b] [] (.tup [.agg (K5 ((Bi b).getD utf0)),vB (Bi b).isSome]) []:=by
 have hN:A7=274877906944:=rfl
 refine Ap Tryz.func214 Q4 Q4 (w:=let zi:Int→C:= .int .i64;let z1:S:= .tup [.agg (K5 ((Bi b).getD utf0)),vB (Bi b).isSome];let z2:=Ak b 194 223;let z3:=Ak b 224 239;let z4:=Ak b 240 244;let z5:=decide (b=224);let z6:=decide (b=237);let z7:=decide (b=240);let z8:=decide (b=244);(.sZ [.call [] (.v (vB (Ak b 0 127))) []] (.br (.lJ () []) (.sZ [.call [] (.v (vB z2)) []] (.br (.br (.lJ () []) (.br (.lJ () []) (.br (.lJ () []) (.br (.lJ () []) (.lJ () []))))) (.sZ [.call [] (.v (vB z3)) []] (.br (.br (.lJ () []) (.br (.lJ () []) (.br (.lJ () []) (.br (.lJ () []) (.lJ () []))))) (.sZ [.call [] (.v (vB z4)) []] (.br (.br (.lJ () []) (.br (.lJ () []) (.br (.lJ () []) (.br (.lJ () []) (.lJ () []))))) (.lJ () [])))))))),(Fp 97 [vI b,vI 0,vI 127] [] (.v (vB (Ak b 0 127))) [])∧Bc (Ak b 0 127) (Lf (.tup [.agg [zi 0,zi 0,zi 0],vB true]) z1 [] []) ((Fp 97 [vI b,vI 194,vI 223] [] (.v (vB z2)) [])∧Bc z2 (Bc z5 (Lf (.tup [.agg [zi 1,zi 160,zi 191],vB true]) z1 [] []) (Bc z6 (Lf (.tup [.agg [zi 1,zi 128,zi 159],vB true]) z1 [] []) (Bc z7 (Lf (.tup [.agg [zi 1,zi 144,zi 191],vB true]) z1 [] []) (Bc z8 (Lf (.tup [.agg [zi 1,zi 128,zi 143],vB true]) z1 [] []) (Lf (.tup [.agg [zi 1,zi 128,zi 191],vB true]) z1 [] []))))) ((Fp 97 [vI b,vI 224,vI 239] [] (.v (vB z3)) [])∧Bc z3 (Bc z5 (Lf (.tup [.agg [zi 2,zi 160,zi 191],vB true]) z1 [] []) (Bc z6 (Lf (.tup [.agg [zi 2,zi 128,zi 159],vB true]) z1 [] []) (Bc z7 (Lf (.tup [.agg [zi 2,zi 144,zi 191],vB true]) z1 [] []) (Bc z8 (Lf (.tup [.agg [zi 2,zi 128,zi 143],vB true]) z1 [] []) (Lf (.tup [.agg [zi 2,zi 128,zi 191],vB true]) z1 [] []))))) ((Fp 97 [vI b,vI 240,vI 244] [] (.v (vB z4)) [])∧Bc z4 (Bc z5 (Lf (.tup [.agg [zi 3,zi 160,zi 191],vB true]) z1 [] []) (Bc z6 (Lf (.tup [.agg [zi 3,zi 128,zi 159],vB true]) z1 [] []) (Bc z7 (Lf (.tup [.agg [zi 3,zi 144,zi 191],vB true]) z1 [] []) (Bc z8 (Lf (.tup [.agg [zi 3,zi 128,zi 143],vB true]) z1 [] []) (Lf (.tup [.agg [zi 3,zi 128,zi 191],vB true]) z1 [] []))))) (Lf (.tup [.agg [zi 0,zi 0,zi 0],vB false]) z1 [] [])))))) Q4 ?_
 refine⟨(Cj _ _ _),fun h1=>have p1:=Ar h1;?_,fun h1=>have p1:=Ay h1;?_⟩
 exact zE ((Bi b).getD utf0) utf0 (fun hm1=>⟨(congrArg S.tup (Ab (congrArg V.agg (Ab (cI W9) (Ab (cI W9) (Ab (cI W9) rfl)))) (Ab (congrArg V.c (congrArg C.bool W9)) rfl))),rfl⟩) W9
 refine⟨(Cj _ _ _),fun h2=>have p2:=Ar h2;?_,fun h2=>have p2:=Ay h2;?_⟩
 refine dsp (fun h3 p3=>?_) fun h3 p3=>?_
 exact zE ((Bi b).getD utf0) (⟨1,160,191⟩:Utf) (fun hm1=>⟨(congrArg S.tup (Ab (congrArg V.agg (Ab (cI W9) (Ab (cI W9) (Ab (cI W9) rfl)))) (Ab (congrArg V.c (congrArg C.bool W9)) rfl))),rfl⟩) W9
 refine dsp (fun h4 p4=>?_) fun h4 p4=>?_
 exact zE ((Bi b).getD utf0) (⟨1,128,159⟩:Utf) (fun hm1=>⟨(congrArg S.tup (Ab (congrArg V.agg (Ab (cI W9) (Ab (cI W9) (Ab (cI W9) rfl)))) (Ab (congrArg V.c (congrArg C.bool W9)) rfl))),rfl⟩) W9
 refine dsp (fun h5 p5=>?_) fun h5 p5=>?_
 exact zE ((Bi b).getD utf0) (⟨1,144,191⟩:Utf) (fun hm1=>⟨(congrArg S.tup (Ab (congrArg V.agg (Ab (cI W9) (Ab (cI W9) (Ab (cI W9) rfl)))) (Ab (congrArg V.c (congrArg C.bool W9)) rfl))),rfl⟩) W9
 refine dsp (fun h6 p6=>?_) fun h6 p6=>?_
 exact zE ((Bi b).getD utf0) (⟨1,128,143⟩:Utf) (fun hm1=>⟨(congrArg S.tup (Ab (congrArg V.agg (Ab (cI W9) (Ab (cI W9) (Ab (cI W9) rfl)))) (Ab (congrArg V.c (congrArg C.bool W9)) rfl))),rfl⟩) W9
 exact zE ((Bi b).getD utf0) (⟨1,128,191⟩:Utf) (fun hm1=>⟨(congrArg S.tup (Ab (congrArg V.agg (Ab (cI W9) (Ab (cI W9) (Ab (cI W9) rfl)))) (Ab (congrArg V.c (congrArg C.bool W9)) rfl))),rfl⟩) W9
 refine⟨(Cj _ _ _),fun h3=>have p3:=Ar h3;?_,fun h3=>have p3:=Ay h3;?_⟩
 refine dsp (fun h4 p4=>?_) fun h4 p4=>?_
 exact zE ((Bi b).getD utf0) (⟨2,160,191⟩:Utf) (fun hm1=>⟨(congrArg S.tup (Ab (congrArg V.agg (Ab (cI W9) (Ab (cI W9) (Ab (cI W9) rfl)))) (Ab (congrArg V.c (congrArg C.bool W9)) rfl))),rfl⟩) W9
 refine dsp (fun h5 p5=>?_) fun h5 p5=>?_
 exact zE ((Bi b).getD utf0) (⟨2,128,159⟩:Utf) (fun hm1=>⟨(congrArg S.tup (Ab (congrArg V.agg (Ab (cI W9) (Ab (cI W9) (Ab (cI W9) rfl)))) (Ab (congrArg V.c (congrArg C.bool W9)) rfl))),rfl⟩) W9
 refine dsp (fun h6 p6=>?_) fun h6 p6=>?_
 exact zE ((Bi b).getD utf0) (⟨2,144,191⟩:Utf) (fun hm1=>⟨(congrArg S.tup (Ab (congrArg V.agg (Ab (cI W9) (Ab (cI W9) (Ab (cI W9) rfl)))) (Ab (congrArg V.c (congrArg C.bool W9)) rfl))),rfl⟩) W9
 refine dsp (fun h7 p7=>?_) fun h7 p7=>?_
 exact zE ((Bi b).getD utf0) (⟨2,128,143⟩:Utf) (fun hm1=>⟨(congrArg S.tup (Ab (congrArg V.agg (Ab (cI W9) (Ab (cI W9) (Ab (cI W9) rfl)))) (Ab (congrArg V.c (congrArg C.bool W9)) rfl))),rfl⟩) W9
 exact zE ((Bi b).getD utf0) (⟨2,128,191⟩:Utf) (fun hm1=>⟨(congrArg S.tup (Ab (congrArg V.agg (Ab (cI W9) (Ab (cI W9) (Ab (cI W9) rfl)))) (Ab (congrArg V.c (congrArg C.bool W9)) rfl))),rfl⟩) W9
 refine⟨(Cj _ _ _),fun h4=>have p4:=Ar h4;?_,fun h4=>have p4:=Ay h4;?_⟩
 refine dsp (fun h5 p5=>?_) fun h5 p5=>?_
 exact zE ((Bi b).getD utf0) (⟨3,160,191⟩:Utf) (fun hm1=>⟨(congrArg S.tup (Ab (congrArg V.agg (Ab (cI W9) (Ab (cI W9) (Ab (cI W9) rfl)))) (Ab (congrArg V.c (congrArg C.bool W9)) rfl))),rfl⟩) W9
 refine dsp (fun h6 p6=>?_) fun h6 p6=>?_
 exact zE ((Bi b).getD utf0) (⟨3,128,159⟩:Utf) (fun hm1=>⟨(congrArg S.tup (Ab (congrArg V.agg (Ab (cI W9) (Ab (cI W9) (Ab (cI W9) rfl)))) (Ab (congrArg V.c (congrArg C.bool W9)) rfl))),rfl⟩) W9
 refine dsp (fun h7 p7=>?_) fun h7 p7=>?_
 exact zE ((Bi b).getD utf0) (⟨3,144,191⟩:Utf) (fun hm1=>⟨(congrArg S.tup (Ab (congrArg V.agg (Ab (cI W9) (Ab (cI W9) (Ab (cI W9) rfl)))) (Ab (congrArg V.c (congrArg C.bool W9)) rfl))),rfl⟩) W9
 refine dsp (fun h8 p8=>?_) fun h8 p8=>?_
 exact zE ((Bi b).getD utf0) (⟨3,128,143⟩:Utf) (fun hm1=>⟨(congrArg S.tup (Ab (congrArg V.agg (Ab (cI W9) (Ab (cI W9) (Ab (cI W9) rfl)))) (Ab (congrArg V.c (congrArg C.bool W9)) rfl))),rfl⟩) W9
 exact zE ((Bi b).getD utf0) (⟨3,128,191⟩:Utf) (fun hm1=>⟨(congrArg S.tup (Ab (congrArg V.agg (Ab (cI W9) (Ab (cI W9) (Ab (cI W9) rfl)))) (Ab (congrArg V.c (congrArg C.bool W9)) rfl))),rfl⟩) W9
 exact zE ((Bi b).getD utf0) utf0 (fun hm1=>⟨(congrArg S.tup (Ab (congrArg V.agg (Ab (cI W9) (Ab (cI W9) (Ab (cI W9) rfl)))) (Ab (congrArg V.c (congrArg C.bool W9)) rfl))),rfl⟩) W9
theorem Afs (b:Int):Fun Tryz.prog 132 [vI b] [] (.tup [.agg (K5 ((Bi b).getD utf0)),vB (Bi b).isSome]) []:=by
 have hN:A7=274877906944:=rfl
 refine Ap Tryz.func132 Q4 Q4 (w:=let zi:Int→C:= .int .i64;let z1:S:= .tup [.agg (K5 ((Bi b).getD utf0)),vB (Bi b).isSome];let z2:=Ak b 194 223;let z3:=Ak b 224 239;let z4:=Ak b 240 244;let z5:=decide (b=224);let z6:=decide (b=237);let z7:=decide (b=240);let z8:=decide (b=244);(.sZ [.call [] (.v (vB (Ak b 0 127))) []] (.br (.lJ () []) (.sZ [.call [] (.v (vB z2)) []] (.br (.br (.lJ () []) (.br (.lJ () []) (.br (.lJ () []) (.br (.lJ () []) (.lJ () []))))) (.sZ [.call [] (.v (vB z3)) []] (.br (.br (.lJ () []) (.br (.lJ () []) (.br (.lJ () []) (.br (.lJ () []) (.lJ () []))))) (.sZ [.call [] (.v (vB z4)) []] (.br (.br (.lJ () []) (.br (.lJ () []) (.br (.lJ () []) (.br (.lJ () []) (.lJ () []))))) (.lJ () [])))))))),(Fp 44 [vI b,vI 0,vI 127] [] (.v (vB (Ak b 0 127))) [])∧Bc (Ak b 0 127) (Lf (.tup [.agg [zi 0,zi 0,zi 0],vB true]) z1 [] []) ((Fp 44 [vI b,vI 194,vI 223] [] (.v (vB z2)) [])∧Bc z2 (Bc z5 (Lf (.tup [.agg [zi 1,zi 160,zi 191],vB true]) z1 [] []) (Bc z6 (Lf (.tup [.agg [zi 1,zi 128,zi 159],vB true]) z1 [] []) (Bc z7 (Lf (.tup [.agg [zi 1,zi 144,zi 191],vB true]) z1 [] []) (Bc z8 (Lf (.tup [.agg [zi 1,zi 128,zi 143],vB true]) z1 [] []) (Lf (.tup [.agg [zi 1,zi 128,zi 191],vB true]) z1 [] []))))) ((Fp 44 [vI b,vI 224,vI 239] [] (.v (vB z3)) [])∧Bc z3 (Bc z5 (Lf (.tup [.agg [zi 2,zi 160,zi 191],vB true]) z1 [] []) (Bc z6 (Lf (.tup [.agg [zi 2,zi 128,zi 159],vB true]) z1 [] []) (Bc z7 (Lf (.tup [.agg [zi 2,zi 144,zi 191],vB true]) z1 [] []) (Bc z8 (Lf (.tup [.agg [zi 2,zi 128,zi 143],vB true]) z1 [] []) (Lf (.tup [.agg [zi 2,zi 128,zi 191],vB true]) z1 [] []))))) ((Fp 44 [vI b,vI 240,vI 244] [] (.v (vB z4)) [])∧Bc z4 (Bc z5 (Lf (.tup [.agg [zi 3,zi 160,zi 191],vB true]) z1 [] []) (Bc z6 (Lf (.tup [.agg [zi 3,zi 128,zi 159],vB true]) z1 [] []) (Bc z7 (Lf (.tup [.agg [zi 3,zi 144,zi 191],vB true]) z1 [] []) (Bc z8 (Lf (.tup [.agg [zi 3,zi 128,zi 143],vB true]) z1 [] []) (Lf (.tup [.agg [zi 3,zi 128,zi 191],vB true]) z1 [] []))))) (Lf (.tup [.agg [zi 0,zi 0,zi 0],vB false]) z1 [] [])))))) Q4 ?_
 refine⟨(Bf _ _ _),fun h1=>have p1:=Ar h1;?_,fun h1=>have p1:=Ay h1;?_⟩
 exact zE ((Bi b).getD utf0) utf0 (fun hm1=>⟨(congrArg S.tup (Ab (congrArg V.agg (Ab (cI W9) (Ab (cI W9) (Ab (cI W9) rfl)))) (Ab (congrArg V.c (congrArg C.bool W9)) rfl))),rfl⟩) W9
 refine⟨(Bf _ _ _),fun h2=>have p2:=Ar h2;?_,fun h2=>have p2:=Ay h2;?_⟩
 refine dsp (fun h3 p3=>?_) fun h3 p3=>?_
 exact zE ((Bi b).getD utf0) (⟨1,160,191⟩:Utf) (fun hm1=>⟨(congrArg S.tup (Ab (congrArg V.agg (Ab (cI W9) (Ab (cI W9) (Ab (cI W9) rfl)))) (Ab (congrArg V.c (congrArg C.bool W9)) rfl))),rfl⟩) W9
 refine dsp (fun h4 p4=>?_) fun h4 p4=>?_
 exact zE ((Bi b).getD utf0) (⟨1,128,159⟩:Utf) (fun hm1=>⟨(congrArg S.tup (Ab (congrArg V.agg (Ab (cI W9) (Ab (cI W9) (Ab (cI W9) rfl)))) (Ab (congrArg V.c (congrArg C.bool W9)) rfl))),rfl⟩) W9
 refine dsp (fun h5 p5=>?_) fun h5 p5=>?_
 exact zE ((Bi b).getD utf0) (⟨1,144,191⟩:Utf) (fun hm1=>⟨(congrArg S.tup (Ab (congrArg V.agg (Ab (cI W9) (Ab (cI W9) (Ab (cI W9) rfl)))) (Ab (congrArg V.c (congrArg C.bool W9)) rfl))),rfl⟩) W9
 refine dsp (fun h6 p6=>?_) fun h6 p6=>?_
 exact zE ((Bi b).getD utf0) (⟨1,128,143⟩:Utf) (fun hm1=>⟨(congrArg S.tup (Ab (congrArg V.agg (Ab (cI W9) (Ab (cI W9) (Ab (cI W9) rfl)))) (Ab (congrArg V.c (congrArg C.bool W9)) rfl))),rfl⟩) W9
 exact zE ((Bi b).getD utf0) (⟨1,128,191⟩:Utf) (fun hm1=>⟨(congrArg S.tup (Ab (congrArg V.agg (Ab (cI W9) (Ab (cI W9) (Ab (cI W9) rfl)))) (Ab (congrArg V.c (congrArg C.bool W9)) rfl))),rfl⟩) W9
 refine⟨(Bf _ _ _),fun h3=>have p3:=Ar h3;?_,fun h3=>have p3:=Ay h3;?_⟩
 refine dsp (fun h4 p4=>?_) fun h4 p4=>?_
 exact zE ((Bi b).getD utf0) (⟨2,160,191⟩:Utf) (fun hm1=>⟨(congrArg S.tup (Ab (congrArg V.agg (Ab (cI W9) (Ab (cI W9) (Ab (cI W9) rfl)))) (Ab (congrArg V.c (congrArg C.bool W9)) rfl))),rfl⟩) W9
 refine dsp (fun h5 p5=>?_) fun h5 p5=>?_
 exact zE ((Bi b).getD utf0) (⟨2,128,159⟩:Utf) (fun hm1=>⟨(congrArg S.tup (Ab (congrArg V.agg (Ab (cI W9) (Ab (cI W9) (Ab (cI W9) rfl)))) (Ab (congrArg V.c (congrArg C.bool W9)) rfl))),rfl⟩) W9
 refine dsp (fun h6 p6=>?_) fun h6 p6=>?_
 exact zE ((Bi b).getD utf0) (⟨2,144,191⟩:Utf) (fun hm1=>⟨(congrArg S.tup (Ab (congrArg V.agg (Ab (cI W9) (Ab (cI W9) (Ab (cI W9) rfl)))) (Ab (congrArg V.c (congrArg C.bool W9)) rfl))),rfl⟩) W9
 refine dsp (fun h7 p7=>?_) fun h7 p7=>?_
 exact zE ((Bi b).getD utf0) (⟨2,128,143⟩:Utf) (fun hm1=>⟨(congrArg S.tup (Ab (congrArg V.agg (Ab (cI W9) (Ab (cI W9) (Ab (cI W9) rfl)))) (Ab (congrArg V.c (congrArg C.bool W9)) rfl))),rfl⟩) W9
 exact zE ((Bi b).getD utf0) (⟨2,128,191⟩:Utf) (fun hm1=>⟨(congrArg S.tup (Ab (congrArg V.agg (Ab (cI W9) (Ab (cI W9) (Ab (cI W9) rfl)))) (Ab (congrArg V.c (congrArg C.bool W9)) rfl))),rfl⟩) W9
 refine⟨(Bf _ _ _),fun h4=>have p4:=Ar h4;?_,fun h4=>have p4:=Ay h4;?_⟩
 refine dsp (fun h5 p5=>?_) fun h5 p5=>?_
 exact zE ((Bi b).getD utf0) (⟨3,160,191⟩:Utf) (fun hm1=>⟨(congrArg S.tup (Ab (congrArg V.agg (Ab (cI W9) (Ab (cI W9) (Ab (cI W9) rfl)))) (Ab (congrArg V.c (congrArg C.bool W9)) rfl))),rfl⟩) W9
 refine dsp (fun h6 p6=>?_) fun h6 p6=>?_
 exact zE ((Bi b).getD utf0) (⟨3,128,159⟩:Utf) (fun hm1=>⟨(congrArg S.tup (Ab (congrArg V.agg (Ab (cI W9) (Ab (cI W9) (Ab (cI W9) rfl)))) (Ab (congrArg V.c (congrArg C.bool W9)) rfl))),rfl⟩) W9
 refine dsp (fun h7 p7=>?_) fun h7 p7=>?_
 exact zE ((Bi b).getD utf0) (⟨3,144,191⟩:Utf) (fun hm1=>⟨(congrArg S.tup (Ab (congrArg V.agg (Ab (cI W9) (Ab (cI W9) (Ab (cI W9) rfl)))) (Ab (congrArg V.c (congrArg C.bool W9)) rfl))),rfl⟩) W9
 refine dsp (fun h8 p8=>?_) fun h8 p8=>?_
 exact zE ((Bi b).getD utf0) (⟨3,128,143⟩:Utf) (fun hm1=>⟨(congrArg S.tup (Ab (congrArg V.agg (Ab (cI W9) (Ab (cI W9) (Ab (cI W9) rfl)))) (Ab (congrArg V.c (congrArg C.bool W9)) rfl))),rfl⟩) W9
 exact zE ((Bi b).getD utf0) (⟨3,128,191⟩:Utf) (fun hm1=>⟨(congrArg S.tup (Ab (congrArg V.agg (Ab (cI W9) (Ab (cI W9) (Ab (cI W9) rfl)))) (Ab (congrArg V.c (congrArg C.bool W9)) rfl))),rfl⟩) W9
 exact zE ((Bi b).getD utf0) utf0 (fun hm1=>⟨(congrArg S.tup (Ab (congrArg V.agg (Ab (cI W9) (Ab (cI W9) (Ab (cI W9) rfl)))) (Ab (congrArg V.c (congrArg C.bool W9)) rfl))),rfl⟩) W9
theorem Ah9 (u:Utf) (b:Int):Fun Tryz.prog 179 [.agg (K5 u),vI b] [] (.tup [.agg (K5 ((B5 u b).getD u)),vB (B5 u b).isSome]) []:=by
 have hN:A7=274877906944:=rfl
 refine Ap Tryz.func179 Q4 Q4 (w:=let z1:S:= .tup [.agg (K5 ((B5 u b).getD u)),vB (B5 u b).isSome];let z2:=Lf (.tup [.agg (K5 u),vB false]) z1 [] [];let z3:S:= .tup [.agg (K5 ((Bi b).getD utf0)),vB (Bi b).isSome];let z4:=Ak b u.low u.high;(.sZ [.call [] (.v (vB (Fk u))) []] (.br (.lJ () []) (.br (.sZ [.call [] z3 []] (.br (.lJ () []) (.lJ () []))) (.sZ [.call [] (.v (vB z4)) []] (.br (.lJ () []) (.br (.lJ () []) (.sZ [.as 42 (.v (vI (u.wK-1)))] (.lJ () []))))))),(Fp 103 [.agg (K5 u)] [] (.v (vB (Fk u))) [])∧Bc (!(Fk u)) z2 (Bc (decide (u.wK=0)) ((Fp 214 [vI b] [] z3 [])∧Bc (!(Bi b).isSome) z2 (Lf (.tup [.agg (K5 ((Bi b).getD utf0)),vB true]) z1 [] [])) ((Fp 97 [vI b,vI u.low,vI u.high] [] (.v (vB z4)) [])∧Bc (!z4) z2 (Bc (decide (u.wK=1)) (Lf (.tup [.agg [.int .i64 0,.int .i64 0,.int .i64 0],vB true]) z1 [] []) ((wI (u.wK-1))∧Lf (.tup [.agg [.int .i64 (u.wK-1),.int .i64 128,.int .i64 191],vB true]) z1 [] [])))))) Q4 ?_
 refine⟨(Ah7 u),fun h1=>have q1:=An h1;?_,fun h1=>have q1:=Am h1;have p1:=Mu q1;?_⟩
 exact zE ((B5 u b).getD u) u (fun hm1=>⟨(congrArg S.tup (Ab (congrArg V.agg (Ab (cI W10) (Ab (cI W10) (Ab (cI W10) rfl)))) (Ab (congrArg V.c (congrArg C.bool W10)) rfl))),rfl⟩) W10
 refine dsp (fun h2 p2=>?_) fun h2 p2=>?_
 have hu:=Yy q1 p2
 refine⟨(Afr _),fun h3=>have q3:=An h3;?_,fun h3=>have q3:=Am h3;?_⟩
 exact zE ((B5 u b).getD u) u (fun hm1=>⟨(congrArg S.tup (Ab (congrArg V.agg (Ab (cI W10) (Ab (cI W10) (Ab (cI W10) rfl)))) (Ab (congrArg V.c (congrArg C.bool W10)) rfl))),rfl⟩) W10
 exact zE ((B5 u b).getD u) ((Bi b).getD utf0) (fun hm1=>⟨(congrArg S.tup (Ab (congrArg V.agg (Ab (cI W10) (Ab (cI W10) (Ab (cI W10) rfl)))) (Ab (congrArg V.c (congrArg C.bool W10)) rfl))),rfl⟩) W10
 refine⟨(Cj _ _ _),fun h3=>have q3:=An h3;have p3:=Ay q3;?_,fun h3=>have q3:=Am h3;have p3:=Ar q3;?_⟩
 exact zE ((B5 u b).getD u) u (fun hm1=>⟨(congrArg S.tup (Ab (congrArg V.agg (Ab (cI W10) (Ab (cI W10) (Ab (cI W10) rfl)))) (Ab (congrArg V.c (congrArg C.bool W10)) rfl))),rfl⟩) W10
 refine dsp (fun h4 p4=>?_) fun h4 p4=>?_
 exact zE ((B5 u b).getD u) utf0 (fun hm1=>⟨(congrArg S.tup (Ab (congrArg V.agg (Ab (cI W10) (Ab (cI W10) (Ab (cI W10) rfl)))) (Ab (congrArg V.c (congrArg C.bool W10)) rfl))),rfl⟩) W10
 exact zE ((B5 u b).getD u) (⟨u.wK-1,128,191⟩:Utf) (fun hm1=>⟨(Ad Q2 Q2),(congrArg S.tup (Ab (congrArg V.agg (Ab (cI W10) (Ab (cI W10) (Ab (cI W10) rfl)))) (Ab (congrArg V.c (congrArg C.bool W10)) rfl))),rfl⟩) W10
theorem Tn (u:Utf) (b:Int):Fun Tryz.prog 63 [.agg (K5 u),vI b] [] (.tup [.agg (K5 ((B5 u b).getD u)),vB (B5 u b).isSome]) []:=by
 have hN:A7=274877906944:=rfl
 refine Ap Tryz.func63 Q4 Q4 (w:=let z1:S:= .tup [.agg (K5 ((B5 u b).getD u)),vB (B5 u b).isSome];let z2:S:= .tup [.agg (K5 ((Bi b).getD utf0)),vB (Bi b).isSome];let z3:=Lf (.tup [.agg (K5 u),vB false]) z1 [] [];let z4:=Ak b u.low u.high;(.sZ [.call [] (.v (vB (Fk u))) []] (.br (.lJ () []) (.br (.sZ [.call [] z2 []] (.lJ () [])) (.sZ [.call [] (.v (vB z4)) []] (.br (.lJ () []) (.br (.lJ () []) (.sZ [.as 31 (.v (vI (u.wK-1)))] (.lJ () []))))))),(Fp 121 [.agg (K5 u)] [] (.v (vB (Fk u))) [])∧Bc (!(Fk u)) z3 (Bc (decide (u.wK=0)) ((Fp 132 [vI b] [] z2 [])∧Lf z2 z1 [] []) ((Fp 44 [vI b,vI u.low,vI u.high] [] (.v (vB z4)) [])∧Bc (!z4) z3 (Bc (decide (u.wK=1)) (Lf (.tup [.agg [.int .i64 0,.int .i64 0,.int .i64 0],vB true]) z1 [] []) ((wI (u.wK-1))∧Lf (.tup [.agg [.int .i64 (u.wK-1),.int .i64 128,.int .i64 191],vB true]) z1 [] [])))))) Q4 ?_
 refine⟨(Ah8 u),fun h1=>have q1:=An h1;?_,fun h1=>have q1:=Am h1;have p1:=Mu q1;?_⟩
 exact zE ((B5 u b).getD u) u (fun hm1=>⟨(congrArg S.tup (Ab (congrArg V.agg (Ab (cI W10) (Ab (cI W10) (Ab (cI W10) rfl)))) (Ab (congrArg V.c (congrArg C.bool W10)) rfl))),rfl⟩) W10
 refine dsp (fun h2 p2=>?_) fun h2 p2=>?_
 have hu:=Yy q1 p2
 exact zE ((B5 u b).getD u) ((Bi b).getD utf0) (fun hm1=>⟨(Afs _),(congrArg S.tup (Ab (congrArg V.agg (Ab (cI W10) (Ab (cI W10) (Ab (cI W10) rfl)))) (Ab (congrArg V.c (congrArg C.bool W10)) rfl))),rfl⟩) W10
 refine⟨(Bf _ _ _),fun h3=>have q3:=An h3;have p3:=Ay q3;?_,fun h3=>have q3:=Am h3;have p3:=Ar q3;?_⟩
 exact zE ((B5 u b).getD u) u (fun hm1=>⟨(congrArg S.tup (Ab (congrArg V.agg (Ab (cI W10) (Ab (cI W10) (Ab (cI W10) rfl)))) (Ab (congrArg V.c (congrArg C.bool W10)) rfl))),rfl⟩) W10
 refine dsp (fun h4 p4=>?_) fun h4 p4=>?_
 exact zE ((B5 u b).getD u) utf0 (fun hm1=>⟨(congrArg S.tup (Ab (congrArg V.agg (Ab (cI W10) (Ab (cI W10) (Ab (cI W10) rfl)))) (Ab (congrArg V.c (congrArg C.bool W10)) rfl))),rfl⟩) W10
 exact zE ((B5 u b).getD u) (⟨u.wK-1,128,191⟩:Utf) (fun hm1=>⟨(Ad Q2 Q2),(congrArg S.tup (Ab (congrArg V.agg (Ab (cI W10) (Ab (cI W10) (Ab (cI W10) rfl)))) (Ab (congrArg V.c (congrArg C.bool W10)) rfl))),rfl⟩) W10
structure Lw where
 u:Utf
 i:Nat
def Lx (u:Utf) (s:List UInt8):Fam:=⟨Lw,fun q1=>[(1,.v (vT s)),(2,.v (vP 0)),(4,.v (vP 1)),(6,.v (vI (q1.i:Int)))],fun q1=>[.cells (K5 q1.u),.cells [.int .i64 0,.int .i64 0,.int .i64 0]],fun q1=>q1.i≤s.length∧Qd q1.u (List.drop q1.i s) q1.i=Qd u s 0,fun q1=>s.length-q1.i⟩
theorem Aia (u:Utf) (s:List UInt8) (hp1:s.length≤A7):Fun Tryz.prog 212 [.agg (K5 u),vT s] [] (.tup [.agg (K5 (Ue u s)),vI (Abi u s)]) []:=by
 have hN:A7=274877906944:=rfl
 refine Ap Tryz.func212 Q4 Q4 (w:=let zi:Int→C:= .int .i64;let z7:=Lx u s;let z8:S:= .tup [.agg (K5 (Ue u s)),vI (Abi u s)];(.sZ [.at 0,.keep [1,2,4,6],.sel [0,1]] (.loop z7 fun q1=> .br (.intro (Sx (s[q1.i]?)) fun x1=>let z2:=((UInt8.toNat x1:Nat):Int);let z1:S:= .tup [.agg (K5 ((B5 q1.u z2).getD q1.u)),vB (B5 q1.u z2).isSome];.sZ [.tree (fr (.two 5 (fr (.one 9 (.one 10 (.first 11 (.done)))) 6 3) 9 (.one 5 (fr (.one 10 (.first 11 (.done))) 6 3))) 0 5) 12 [],.ch x1,.as 20 (.v (vI z2)),.call [] z1 [],.at 0,.keep [1,2,4,6,7,8],.sel [0,1,2],.call [] z1 [],.at 0,.keep [1,2,4,6,7,8],.sel [0,1,2]] (.br (.lJ () []) (.sZ [.as 14 (.v (vI ((q1.i:Int)+1))),.at 0,.keep [1,2,4,6],.sel [0,1]] (.next)))) (.lJ () [])),z7.Has [(1,.v (vT s)),(2,.v (vP 0)),(4,.v (vP 1)),(6,.v (vI 0))] [.cells (K5 u),.cells [zi 0,zi 0,zi 0]]∧∀q1,z7.inv q1→(let z5:=(q1.i:Int);let z6:=K5 q1.u;Bc (decide (z5<(s.length:Int))) (El (s[q1.i]?) fun x1=>(let z4:=((UInt8.toNat x1:Nat):Int);let z3:=B5 q1.u z4;(s[q1.i]? =some x1)∧((0:Int)≤z5)∧(s[q1.i]? =some x1)∧((0:Int)≤z5)∧(wI (z4))∧(wI (z4))∧(Fp 63 [.agg z6,vI z4] [] (.tup [.agg (K5 (z3.getD q1.u)),vB z3.isSome]) [])∧(Fp 63 [.agg z6,vI z4] [] (.tup [.agg (K5 (z3.getD q1.u)),vB z3.isSome]) [])∧(([.cells z6,.cells [zi 0,zi 0,zi 0],.cells (K5 (z3.getD q1.u))]:List Blk)=[.cells z6,.cells [zi 0,zi 0,zi 0],.cells (K5 (z3.getD q1.u))])∧(([(1,.v (vT s)),(2,.v (vP 0)),(4,.v (vP 1)),(6,.v (vI z5)),(7,.v (vP 2)),(8,.v (vB z3.isSome))]:List (Nat×S))=[(1,.v (vT s)),(2,.v (vP 0)),(4,.v (vP 1)),(6,.v (vI z5)),(7,.v (vP 2)),(8,.v (vB z3.isSome))])∧Bc (!z3.isSome) (Lf (.tup [.agg z6,vI z5]) z8 [] []) ((wI (z5+1))∧z7.Nxt q1 [(1,.v (vT s)),(2,.v (vP 0)),(4,.v (vP 1)),(6,.v (vI (z5+1)))] [.cells (K5 (z3.getD q1.u)),.cells [zi 0,zi 0,zi 0]]))) (Lf (.tup [.agg z6,vI (-1)]) z8 [] [])))) Q4 ?_
 refine⟨Bm (j:=(⟨u,0⟩:Lw)) Q9 rfl (by dsimp only[Lx];exact⟨by omega,by simp⟩),fun (q1:Lw) hq_q1=>?_⟩
 have hi_q1:q1.i≤s.length∧Qd q1.u (List.drop q1.i s) q1.i=Qd u s 0:=hq_q1
 obtain ⟨v1,v2⟩:=hi_q1
 refine dsp (fun h1 p1=>?_) fun h1 p1=>?_
 refine⟨(Bo (l:=s) (i:=q1.i) Q2),fun x1 hx1=>?_⟩
 have hb_x1:=UInt8.toNat_lt x1
 refine⟨hx1,Q2,hx1,Q2,(Ad Q2 Q2),(Ad Q2 Q2),(Tn q1.u _),(Tn q1.u _),rfl,rfl,fun h2=>have q2:=An h2;?_,fun h2=>have q2:=Am h2;?_⟩
 rw[Do hx1,Qd] at v2
 exact zE (Ue u s) q1.u (fun hm1=>⟨(congrArg S.tup (Ab (congrArg V.agg (Ab (cI W11) (Ab (cI W11) (Ab (cI W11) rfl)))) (Ab (congrArg V.c (cI W11)) rfl))),rfl⟩) W11
 rw[Do hx1,Qd] at v2
 exact⟨(Ad Q2 Q2),A4 (j:=(⟨((B5 q1.u ((UInt8.toNat x1:Nat):Int)).getD q1.u),q1.i+1⟩:Lw)) Q9 rfl (by dsimp only[Lx];exact⟨by omega,by cases hu:B5 q1.u (x1.toNat:Int)<;>simp_all⟩) (by dsimp only[Lx];omega)⟩
 rw[Lo p1] at v2
 exact zE (Ue u s) q1.u (fun hm1=>⟨(congrArg S.tup (Ab (congrArg V.agg (Ab (cI W11) (Ab (cI W11) (Ab (cI W11) rfl)))) (Ab (congrArg V.c (cI W11)) rfl))),rfl⟩) W11
theorem Anq (f:Fld) (before:Int) (n:Int) (hp1:(0:Int)≤n∧n≤1000):Fun Tryz.prog 160 [.agg (Gc f),vI before,vI n] [] (.v (vB (decide (before<(f).nJ)&&Lj f n))) []:=by
 have hN:A7=274877906944:=rfl
 refine Ap Tryz.func160 Q4 Q4 (w:=let z1:S:= .v (vB (decide (before<(f).nJ)&&Lj f n));let z2:S:= .v (vB (Ak f.mK 0 (n-1)));let z3:=Lf (.v (vB false)) z1 [] [];let z4:=Lf (.v (vB (decide (f.mK=(-1))))) z1 [] [];let z5:=Dr f.nJ;(.sZ [.call [] (.v (vB z5)) []] (.br (.lJ () []) (.br (.lJ () []) (.sZ [.call [] (.v (vB (Ez f.kind))) []] (.br (.lJ () []) (.br (.br (.lJ () []) (.sZ [.call [] (.v (vB (Dj f.kind))) []] (.br (.lJ () []) (.br (.sZ [.as 45 (.v (vI (n-1))),.call [] z2 []] (.lJ () [])) (.lJ () []))))) (.br (.sZ [.as 45 (.v (vI (n-1))),.call [] z2 []] (.lJ () [])) (.lJ () []))))))),(Fp 207 [vI f.nJ] [] (.v (vB z5)) [])∧Bc (!z5) z3 (Bc (decide (f.nJ≤before)) z3 ((Fp 208 [vI f.kind] [] (.v (vB (Ez f.kind))) [])∧Bc (!(Ez f.kind)) z3 (Bc f.packed (Bc (!f.rep) z3 ((Fp 209 [vI f.kind] [] (.v (vB (Dj f.kind))) [])∧Bc (!(Dj f.kind)) z3 (Bc (decide (f.kind=8)) ((wI (n-1))∧(Fp 97 [vI f.mK,vI 0,vI (n-1)] [] z2 [])∧Lf z2 z1 [] []) z4))) (Bc (decide (f.kind=8)) ((wI (n-1))∧(Fp 97 [vI f.mK,vI 0,vI (n-1)] [] z2 [])∧Lf z2 z1 [] []) z4)))))) Q4 ?_
 refine⟨(Afg _),fun h1=>have q1:=An h1;?_,fun h1=>have q1:=Am h1;?_⟩
 exact⟨(sB W12),rfl⟩
 refine dsp (fun h2 p2=>?_) fun h2 p2=>?_
 exact⟨(sB W12),rfl⟩
 refine⟨(Aec _),fun h3=>have q3:=An h3;have p3:=Ay q3;?_,fun h3=>have q3:=Am h3;have p3:=Ar q3;?_⟩
 exact⟨(sB W12),rfl⟩
 refine⟨fun h4=>?_,fun h4=>?_⟩
 refine⟨fun h5=>have q5:=An h5;?_,fun h5=>have q5:=Am h5;?_⟩
 exact⟨(sB W12),rfl⟩
 refine⟨(Abr _),fun h6=>have q6:=An h6;have p6:=Ay q6;?_,fun h6=>have q6:=Am h6;have p6:=Ar q6;?_⟩
 exact⟨(sB W12),rfl⟩
 refine dsp (fun h7 p7=>?_) fun h7 p7=>?_
 exact⟨(Ad Q2 Q2),(Cj _ _ _),(sB W12),rfl⟩
 exact⟨(sB W12),rfl⟩
 refine dsp (fun h5 p5=>?_) fun h5 p5=>?_
 exact⟨(Ad Q2 Q2),(Cj _ _ _),(sB W12),rfl⟩
 exact⟨(sB W12),rfl⟩
theorem Uk (s:List Shp) (f:Fld) (hp1:s.length≤1000):Fun Tryz.prog 92 [.agg [.seq .shp s],.agg (Gc f)] [] (.v (vB (Lj f (s.length:Int)))) []:=by
 have hN:A7=274877906944:=rfl
 refine Ap Tryz.func92 Q4 Q4 (w:=let z1:=(s.length:Int);let z2:S:= .v (vB (Ak f.mK 0 (z1-1)));let z4:S:= .v (vB (Lj f z1));let z3:=Lf (.v (vB false)) z4 [] [];let z5:=Lf (.v (vB (decide (f.mK=(-1))))) z4 [] [];let z6:=Dr f.nJ;(.sZ [.call [] (.v (vB z6)) []] (.br (.lJ () []) (.sZ [.call [] (.v (vB (Ez f.kind))) []] (.br (.lJ () []) (.br (.br (.lJ () []) (.sZ [.call [] (.v (vB (Dj f.kind))) []] (.br (.lJ () []) (.br (.sZ [.as 38 (.v (vI (z1-1))),.call [] z2 []] (.lJ () [])) (.lJ () []))))) (.br (.sZ [.as 38 (.v (vI (z1-1))),.call [] z2 []] (.lJ () [])) (.lJ () [])))))),(Fp 156 [vI f.nJ] [] (.v (vB z6)) [])∧Bc (!z6) z3 ((Fp 157 [vI f.kind] [] (.v (vB (Ez f.kind))) [])∧Bc (!(Ez f.kind)) z3 (Bc f.packed (Bc (!f.rep) z3 ((Fp 158 [vI f.kind] [] (.v (vB (Dj f.kind))) [])∧Bc (!(Dj f.kind)) z3 (Bc (decide (f.kind=8)) ((wI (z1-1))∧(Fp 44 [vI f.mK,vI 0,vI (z1-1)] [] z2 [])∧Lf z2 z4 [] []) z5))) (Bc (decide (f.kind=8)) ((wI (z1-1))∧(Fp 44 [vI f.mK,vI 0,vI (z1-1)] [] z2 [])∧Lf z2 z4 [] []) z5))))) Q4 ?_
 refine⟨(Y4 _),fun h1=>have q1:=An h1;?_,fun h1=>have q1:=Am h1;?_⟩
 exact⟨(sB W12),rfl⟩
 refine⟨(Vu _),fun h2=>have q2:=An h2;have p2:=Ay q2;?_,fun h2=>have q2:=Am h2;have p2:=Ar q2;?_⟩
 exact⟨(sB W12),rfl⟩
 refine⟨fun h3=>?_,fun h3=>?_⟩
 refine⟨fun h4=>have q4:=An h4;?_,fun h4=>have q4:=Am h4;?_⟩
 exact⟨(sB W12),rfl⟩
 refine⟨(Mw _),fun h5=>have q5:=An h5;have p5:=Ay q5;?_,fun h5=>have q5:=Am h5;have p5:=Ar q5;?_⟩
 exact⟨(sB W12),rfl⟩
 refine dsp (fun h6 p6=>?_) fun h6 p6=>?_
 exact⟨(Ad Q2 Q2),(Bf _ _ _),(sB W12),rfl⟩
 exact⟨(sB W12),rfl⟩
 refine dsp (fun h4 p4=>?_) fun h4 p4=>?_
 exact⟨(Ad Q2 Q2),(Bf _ _ _),(sB W12),rfl⟩
 exact⟨(sB W12),rfl⟩
structure Hg where
 id:Int
 v:Nat
def Kb (s:List Shp):Fam:=⟨Hg,fun q1=>[(1,.v (vP 0)),(3,.v (vI q1.id)),(14,.v (.c (.seq .shp s))),(15,.v (vI (s.length:Int))),(16,.v (vI (q1.v:Int)))],fun _=>[.cells [.seq .shp s]],fun q1=>q1.v≤s.length∧Eo (s.length:Int) q1.id (List.drop q1.v s)=Eo (s.length:Int) 0 s,fun q1=>s.length-q1.v⟩
structure Kd where
 nJ:Int
 v:Nat
def Hh (s:List Shp) (q1:Hg) (x1:Shp):Fam:=⟨Kd,fun q2=>[(1,.v (vP 0)),(5,.v (vP 1)),(6,.v (vI q2.nJ)),(14,.v (.c (.seq .shp s))),(15,.v (vI (s.length:Int))),(16,.v (vI (q1.v:Int))),(36,.v (.c (.seq .fld x1.fJ))),(37,.v (vI (x1.fJ.length:Int))),(38,.v (vI (q2.v:Int)))],fun _=>[.cells [.seq .shp s],.cells (Apw x1)],fun q2=>q2.v≤x1.fJ.length∧Df (s.length:Int) q2.nJ (List.drop q2.v x1.fJ)=Df (s.length:Int) 0 x1.fJ,fun q2=>x1.fJ.length-q2.v⟩
theorem Afu (s:List Shp):Fun Tryz.prog 96 [.agg [.seq .shp s]] [] (.v (vB (Dy s))) []:=by
 have hN:A7=274877906944:=rfl
 refine Ap Tryz.func96 Q4 Q4 (w:=let z7:=(s.length:Int);let z8:=Lf (.v (vB false)) (.v (vB (Dy s))) [] [];let z9:=Kb s;(.br (.lJ () []) (.sZ [.at 0,.keep [1,3,14,15,16],.sel [0]] (.loop z9 fun q1=> .br (.intro (Sx (s[q1.v]?)) fun x1=> .sZ [.el .shp x1] (.br (.lJ () []) (.br (.lJ () []) (.br (.lJ () []) (.sZ [.at 0,.keep [1,5,6,14,15,16,36,37,38],.sel [0,1]] (.loop (Hh s q1 x1) fun q2=> .br (.intro (Sx (x1.fJ[q2.v]?)) fun x2=> .sZ [.el .fld x2,.call [] (.v (vB (decide (q2.nJ<(x2).nJ)&&Lj x2 z7))) []] (.br (.lJ () []) (.sZ [.as 51 (.v (vI ((q2.v:Int)+1))),.at 0,.keep [1,5,6,14,15,16,36,37,38],.sel [0,1]] (.next)))) (.sZ [.as 54 (.v (vI ((q1.v:Int)+1))),.at 0,.keep [1,3,14,15,16],.sel [0]] (.next)))))))) (.lJ () []))),Bc (decide (6<z7)) z8 (z9.Has [(1,.v (vP 0)),(3,.v (vI 0)),(14,.v (.c (.seq .shp s))),(15,.v (vI z7)),(16,.v (vI 0))] [.cells [.seq .shp s]]∧∀q1,z9.inv q1→(let z6:=(q1.v:Int);Bc (decide (z6<z7)) (El (s[q1.v]?) fun x1=>(let z3:=(x1.fJ.length:Int);let z4:=Hh s q1 x1;let z5:List Blk:=[.cells [.seq .shp s],.cells (Apw x1)];(s[q1.v]? =some x1)∧((0:Int)≤z6)∧Bc (decide (x1.id≤q1.id)) z8 (Bc (decide (99<x1.id)) z8 (Bc (decide (8<z3)) z8 (z4.Has [(1,.v (vP 0)),(5,.v (vP 1)),(6,.v (vI 0)),(14,.v (.c (.seq .shp s))),(15,.v (vI z7)),(16,.v (vI z6)),(36,.v (.c (.seq .fld x1.fJ))),(37,.v (vI z3)),(38,.v (vI 0))] z5∧∀q2,z4.inv q2→(let z2:=(q2.v:Int);Bc (decide (z2<z3)) (El (x1.fJ[q2.v]?) fun x2=>(let z1:=decide (q2.nJ<(x2).nJ)&&Lj x2 z7;(x1.fJ[q2.v]? =some x2)∧((0:Int)≤z2)∧(Fp 160 [.agg (Gc x2),vI q2.nJ,vI z7] [] (.v (vB z1)) [])∧Bc (!z1) z8 ((wI (z2+1))∧z4.Nxt q2 [(1,.v (vP 0)),(5,.v (vP 1)),(6,.v (vI x2.nJ)),(14,.v (.c (.seq .shp s))),(15,.v (vI z7)),(16,.v (vI z6)),(36,.v (.c (.seq .fld x1.fJ))),(37,.v (vI z3)),(38,.v (vI (z2+1)))] z5))) ((wI (z6+1))∧z9.Nxt q1 [(1,.v (vP 0)),(3,.v (vI x1.id)),(14,.v (.c (.seq .shp s))),(15,.v (vI z7)),(16,.v (vI (z6+1)))] [.cells [.seq .shp s]]))))))) (Lf (.v (vB true)) (.v (vB (Dy s))) [] []))))) Q4 ?_
 refine dsp (fun h1 p1=>?_) fun h1 p1=>?_
 exact⟨(sB W13),rfl⟩
 refine⟨Bm (j:=(⟨0,0⟩:Hg)) Q9 rfl (by dsimp only[Kb];exact⟨by omega,rfl⟩),fun (q1:Hg) hq_q1=>?_⟩
 have hi_q1:q1.v≤s.length∧Eo (s.length:Int) q1.id (List.drop q1.v s)=Eo (s.length:Int) 0 s:=hq_q1
 obtain ⟨v1,v2⟩:=hi_q1
 refine dsp (fun h2 p2=>?_) fun h2 p2=>?_
 refine⟨(Bo (l:=s) (i:=q1.v) Q2),fun x1 hx1=>?_⟩
 rw[Do hx1,Eo] at v2
 refine⟨hx1,Q2,dsp (fun h3 p3=>?_) fun h3 p3=>?_⟩
 exact⟨(sB W13),rfl⟩
 refine dsp (fun h4 p4=>?_) fun h4 p4=>?_
 exact⟨(sB W13),rfl⟩
 refine dsp (fun h5 p5=>?_) fun h5 p5=>?_
 exact⟨(sB W13),rfl⟩
 refine⟨Bm (j:=(⟨0,0⟩:Kd)) Q9 rfl (by dsimp only[Hh];exact⟨by omega,rfl⟩),fun (q2:Kd) hq_q2=>?_⟩
 have hi_q2:q2.v≤x1.fJ.length∧Df (s.length:Int) q2.nJ (List.drop q2.v x1.fJ)=Df (s.length:Int) 0 x1.fJ:=hq_q2
 obtain ⟨w1,w2⟩:=hi_q2
 refine dsp (fun h6 p6=>?_) fun h6 p6=>?_
 refine⟨(Bo (l:=x1.fJ) (i:=q2.v) Q2),fun x2 hx2=>?_⟩
 rw[Do hx2,Df] at w2
 refine⟨hx2,Q2,(Anq x2 _ _ Q2),fun h7=>have q7:=An h7;have p7:=(Cy dT Iff.rfl).1 q7;?_,fun h7=>have q7:=Am h7;have p7:=(Cx dT Iff.rfl).1 q7;?_⟩
 exact⟨(sB W13),rfl⟩
 exact⟨(Ad Q2 Q2),A4 (j:=(⟨x2.nJ,q2.v+1⟩:Kd)) Q9 rfl (by dsimp only[Hh];exact⟨by omega,by grind[Df]⟩) (by dsimp only[Hh];omega)⟩
 rw[Lo p6] at w2
 exact⟨(Ad Q2 Q2),A4 (j:=(⟨x1.id,q1.v+1⟩:Hg)) Q9 rfl (by dsimp only[Kb];exact⟨by omega,by grind[Eo,Df]⟩) (by dsimp only[Kb];omega)⟩
 rw[Lo p2] at v2
 exact⟨(sB W13),rfl⟩
structure F6 where
 i:Nat
 pv:Int
def Hi (s:List Shp):Fam:=⟨F6,fun q1=>[(1,.v (vP 0)),(3,.v (vI (q1.i:Int)))],fun _=>[.cells [.seq .shp s]],fun q1=>q1.i≤s.length∧(0:Int)≤q1.pv∧(q1.i=0→q1.pv=0)∧(∀y,0<q1.i→s[Int.toNat ((q1.i:Int)-1)]? =some y→q1.pv=y.id)∧Eo (s.length:Int) q1.pv (List.drop q1.i s)=Eo (s.length:Int) 0 s,fun q1=>s.length-q1.i⟩
structure Dz where
 k:Nat
 pv:Int
def Dg (s:List Shp) (q1:F6) (x1:Shp):Fam:=⟨Dz,fun q2=>[(1,.v (vP 0)),(3,.v (vI (q1.i:Int))),(4,.v (vP 1)),(5,.v (vI (q2.k:Int)))],fun _=>[.cells [.seq .shp s],.cells (Apw x1)],fun q2=>q2.k≤x1.fJ.length∧(0:Int)≤q2.pv∧(q2.k=0→q2.pv=0)∧(∀y,0<q2.k→x1.fJ[Int.toNat ((q2.k:Int)-1)]? =some y→q2.pv=y.nJ)∧Df (s.length:Int) q2.pv (List.drop q2.k x1.fJ)=Df (s.length:Int) 0 x1.fJ,fun q2=>x1.fJ.length-q2.k⟩
theorem Afv (s:List Shp):Fun Tryz.prog 43 [.agg [.seq .shp s]] [] (.v (vB (Dy s))) []:=by
 have hN:A7=274877906944:=rfl
 refine Ap Tryz.func43 Q4 Q4 (w:=let z25:=(s.length:Int);let z26:S:= .v (vB (Dy s));let z27:S:= .v (vB false);let z24:=Lf z27 z26 [] [];let z28:=Hi s;let z29:=os 28 [6];(.br (.lJ () []) (.sZ [.at 0,.keep [1,3],.sel [0]] (.loop z28 fun q1=>let z21:=(q1.i:Int);.br (.intro (Sx (s[q1.i]?)) fun x1=>let z15:S:= .v (vB (Ak x1.id 1 99));.sZ [.el .shp x1] (.case (!(Ak x1.id 1 99)) (.sZ [.ord (os 26 [2]) [],.call [] z15 [],.br true] (.lJ () [])) (.case (decide (0<z21)) (.intro (Sx (s[Int.toNat (z21-1)]?)) fun x2=> .case (decide (x1.id≤x2.id)) (.sZ [.ord (os 26 [2]) [],.call [] z15 [],.br false,.br true,.as 33 (.v (vI (z21-1))),.el .shp x2,.br true] (.lJ () [])) (.sZ [.ord (os 26 [2]) [],.call [] z15 [],.br false,.br true,.as 33 (.v (vI (z21-1))),.el .shp x2,.br false] (.br (.lJ () []) (.sZ [.at 0,.keep [1,3,4,5],.sel [0,1]] (.loop (Dg s q1 x1) fun q2=>let z5:=(q2.k:Int);.br (.intro (Sx (x1.fJ[q2.k]?)) fun x3=>let z2:=Lj x3 z25;.case (!z2) (.sZ [.ord z29 [],.el .fld x3,.call [] (.v (vB z2)) [],.br true] (.lJ () [])) (.case (decide (0<z5)) (.intro (Sx (x1.fJ[Int.toNat (z5-1)]?)) fun x4=> .sZ [.ord z29 [],.el .fld x3,.call [] (.v (vB z2)) [],.br false,.br true,.as 70 (.v (vI (z5-1))),.el .fld x4,.el .fld x3] (.br (.lJ () []) (.sZ [.as 54 (.v (vI (z5+1))),.at 0,.keep [1,3,4,5],.sel [0,1]] (.next)))) (.sZ [.ord z29 [],.el .fld x3,.call [] (.v (vB z2)) [],.br false,.br false,.as 54 (.v (vI (z5+1))),.at 0,.keep [1,3,4,5],.sel [0,1]] (.next)))) (.sZ [.as 16 (.v (vI (z21+1))),.at 0,.keep [1,3],.sel [0]] (.next))))))) (.sZ [.ord (os 26 [2]) [],.call [] z15 [],.br false,.br false] (.br (.lJ () []) (.sZ [.at 0,.keep [1,3,4,5],.sel [0,1]] (.loop (Dg s q1 x1) fun q2=>let z13:=(q2.k:Int);.br (.intro (Sx (x1.fJ[q2.k]?)) fun x2=>let z10:=Lj x2 z25;.case (!z10) (.sZ [.ord z29 [],.el .fld x2,.call [] (.v (vB z10)) [],.br true] (.lJ () [])) (.case (decide (0<z13)) (.intro (Sx (x1.fJ[Int.toNat (z13-1)]?)) fun x3=> .sZ [.ord z29 [],.el .fld x2,.call [] (.v (vB z10)) [],.br false,.br true,.as 70 (.v (vI (z13-1))),.el .fld x3,.el .fld x2] (.br (.lJ () []) (.sZ [.as 54 (.v (vI (z13+1))),.at 0,.keep [1,3,4,5],.sel [0,1]] (.next)))) (.sZ [.ord z29 [],.el .fld x2,.call [] (.v (vB z10)) [],.br false,.br false,.as 54 (.v (vI (z13+1))),.at 0,.keep [1,3,4,5],.sel [0,1]] (.next)))) (.sZ [.as 16 (.v (vI (z21+1))),.at 0,.keep [1,3],.sel [0]] (.next))))))))) (.lJ () []))),Bc (decide (6<z25)) z24 (z28.Has [(1,.v (vP 0)),(3,.v (vI 0))] [.cells [.seq .shp s]]∧∀q1,z28.inv q1→(let z22:=(q1.i:Int);let z23:=(wI (z22+1))∧z28.Nxt q1 [(1,.v (vP 0)),(3,.v (vI (z22+1)))] [.cells [.seq .shp s]];Bc (decide (z22<z25)) (El (s[q1.i]?) fun x1=>(let z16:List Blk:=[.cells [.seq .shp s],.cells (Apw x1)];let z17:=Dg s q1 x1;let z18:=Ak x1.id 1 99;let z19:=(x1.fJ.length:Int);let z20:List V:=[vI x1.id,vI 1,vI 99];(s[q1.i]? =some x1)∧((0:Int)≤z22)∧Bc (!z18) ((Fp 44 z20 [] (.v (vB z18)) [])∧((!z18)=true)∧Lf z27 z26 [] []) (Bc (decide (0<z22)) (El (s[Int.toNat (z22-1)]?) fun x2=>(let z7:=s[Int.toNat (z22-1)]? =some x2;let z8:=decide (x1.id≤x2.id);Bc z8 ((Fp 44 z20 [] (.v (vB z18)) [])∧((!z18)=false)∧((decide (0<z22))=true)∧(wI (z22-1))∧(wI (z22-1))∧z7∧((0:Int)≤z22-1)∧z7∧((0:Int)≤z22-1)∧(z8=true)∧Lf z27 z26 [] []) ((Fp 44 z20 [] (.v (vB z18)) [])∧((!z18)=false)∧((decide (0<z22))=true)∧(wI (z22-1))∧(wI (z22-1))∧z7∧((0:Int)≤z22-1)∧z7∧((0:Int)≤z22-1)∧(z8=false)∧Bc (decide (8<z19)) z24 (z17.Has [(1,.v (vP 0)),(3,.v (vI z22)),(4,.v (vP 1)),(5,.v (vI 0))] z16∧∀q2,z17.inv q2→(let z6:=(q2.k:Int);Bc (decide (z6<z19)) (El (x1.fJ[q2.k]?) fun x3=>(let z3:=Lj x3 z25;let z4:=x1.fJ[q2.k]? =some x3;Bc (!z3) (z4∧((0:Int)≤z6)∧z4∧((0:Int)≤z6)∧(Fp 92 [.agg [.seq .shp s],.agg (Gc x3)] [] (.v (vB z3)) [])∧((!z3)=true)∧Lf z27 z26 [] []) (Bc (decide (0<z6)) (El (x1.fJ[Int.toNat (z6-1)]?) fun x4=>(let z1:=x1.fJ[Int.toNat (z6-1)]? =some x4;z4∧((0:Int)≤z6)∧z4∧((0:Int)≤z6)∧(Fp 92 [.agg [.seq .shp s],.agg (Gc x3)] [] (.v (vB z3)) [])∧((!z3)=false)∧((decide (0<z6))=true)∧(wI (z6-1))∧(wI (z6-1))∧z1∧((0:Int)≤z6-1)∧z1∧((0:Int)≤z6-1)∧z4∧((0:Int)≤z6)∧z4∧((0:Int)≤z6)∧Bc (decide (x3.nJ≤x4.nJ)) z24 ((wI (z6+1))∧z17.Nxt q2 [(1,.v (vP 0)),(3,.v (vI z22)),(4,.v (vP 1)),(5,.v (vI (z6+1)))] z16))) (z4∧((0:Int)≤z6)∧z4∧((0:Int)≤z6)∧(Fp 92 [.agg [.seq .shp s],.agg (Gc x3)] [] (.v (vB z3)) [])∧((!z3)=false)∧((decide (0<z6))=false)∧(wI (z6+1))∧z17.Nxt q2 [(1,.v (vP 0)),(3,.v (vI z22)),(4,.v (vP 1)),(5,.v (vI (z6+1)))] z16)))) z23))))) ((Fp 44 z20 [] (.v (vB z18)) [])∧((!z18)=false)∧((decide (0<z22))=false)∧Bc (decide (8<z19)) z24 (z17.Has [(1,.v (vP 0)),(3,.v (vI z22)),(4,.v (vP 1)),(5,.v (vI 0))] z16∧∀q2,z17.inv q2→(let z14:=(q2.k:Int);Bc (decide (z14<z19)) (El (x1.fJ[q2.k]?) fun x2=>(let z11:=Lj x2 z25;let z12:=x1.fJ[q2.k]? =some x2;Bc (!z11) (z12∧((0:Int)≤z14)∧z12∧((0:Int)≤z14)∧(Fp 92 [.agg [.seq .shp s],.agg (Gc x2)] [] (.v (vB z11)) [])∧((!z11)=true)∧Lf z27 z26 [] []) (Bc (decide (0<z14)) (El (x1.fJ[Int.toNat (z14-1)]?) fun x3=>(let z9:=x1.fJ[Int.toNat (z14-1)]? =some x3;z12∧((0:Int)≤z14)∧z12∧((0:Int)≤z14)∧(Fp 92 [.agg [.seq .shp s],.agg (Gc x2)] [] (.v (vB z11)) [])∧((!z11)=false)∧((decide (0<z14))=true)∧(wI (z14-1))∧(wI (z14-1))∧z9∧((0:Int)≤z14-1)∧z9∧((0:Int)≤z14-1)∧z12∧((0:Int)≤z14)∧z12∧((0:Int)≤z14)∧Bc (decide (x2.nJ≤x3.nJ)) z24 ((wI (z14+1))∧z17.Nxt q2 [(1,.v (vP 0)),(3,.v (vI z22)),(4,.v (vP 1)),(5,.v (vI (z14+1)))] z16))) (z12∧((0:Int)≤z14)∧z12∧((0:Int)≤z14)∧(Fp 92 [.agg [.seq .shp s],.agg (Gc x2)] [] (.v (vB z11)) [])∧((!z11)=false)∧((decide (0<z14))=false)∧(wI (z14+1))∧z17.Nxt q2 [(1,.v (vP 0)),(3,.v (vI z22)),(4,.v (vP 1)),(5,.v (vI (z14+1)))] z16)))) z23)))))) (Lf (.v (vB true)) z26 [] []))))) Q4 ?_
 refine dsp (fun h1 p1=>?_) fun h1 p1=>?_
 exact⟨(congrArg S.v (congrArg V.c (congrArg C.bool Q68))),rfl⟩
 refine⟨Bm (j:=(⟨0,0⟩:F6)) Q9 rfl (by dsimp only[Hi];exact⟨by omega,by omega,by omega,by omega,rfl⟩),fun (q1:F6) hq_q1=>?_⟩
 have hi_q1:q1.i≤s.length∧(0:Int)≤q1.pv∧(q1.i=0→q1.pv=0)∧(∀y,0<q1.i→s[Int.toNat ((q1.i:Int)-1)]? =some y→q1.pv=y.id)∧Eo (s.length:Int) q1.pv (List.drop q1.i s)=Eo (s.length:Int) 0 s:=hq_q1
 obtain ⟨v1,v2,v3,v4,v5⟩:=hi_q1
 refine dsp (fun h2 p2=>?_) fun h2 p2=>?_
 refine⟨(Bo (l:=s) (i:=q1.i) Q2),fun x1 hx1=>?_⟩
 rw[Do hx1,Eo] at v5
 refine⟨hx1,Q2,fun h3=>have q3:=An h3;have p3:=Ay q3;?_,fun h3=>have q3:=Am h3;have p3:=Ar q3;?_⟩
 exact⟨(Bf _ _ _),h3,(congrArg S.v (congrArg V.c (congrArg C.bool Q68))),rfl⟩
 refine dsp (fun h4 p4=>?_) fun h4 p4=>?_
 refine⟨(Bo (l:=s) (i:=Int.toNat ((q1.i:Int)-1)) Q2),fun x2 hx2=>?_⟩
 have hy:=v4 _ (by omega) hx2
 refine dsp (fun h5 p5=>?_) fun h5 p5=>?_
 exact⟨(Bf _ _ _),h3,h4,(Ad Q2 Q2),(Ad Q2 Q2),hx2,Q2,hx2,Q2,h5,(congrArg S.v (congrArg V.c (congrArg C.bool Q68))),rfl⟩
 refine⟨(Bf _ _ _),h3,h4,(Ad Q2 Q2),(Ad Q2 Q2),hx2,Q2,hx2,Q2,h5,dsp (fun h6 p6=>?_) fun h6 p6=>?_⟩
 exact⟨(congrArg S.v (congrArg V.c (congrArg C.bool Q68))),rfl⟩
 refine⟨Bm (j:=(⟨0,0⟩:Dz)) Q9 rfl (by dsimp only[Dg];exact⟨by omega,by omega,by omega,by omega,rfl⟩),fun (q2:Dz) hq_q2=>?_⟩
 have hi_q2:q2.k≤x1.fJ.length∧(0:Int)≤q2.pv∧(q2.k=0→q2.pv=0)∧(∀y,0<q2.k→x1.fJ[Int.toNat ((q2.k:Int)-1)]? =some y→q2.pv=y.nJ)∧Df (s.length:Int) q2.pv (List.drop q2.k x1.fJ)=Df (s.length:Int) 0 x1.fJ:=hq_q2
 obtain ⟨w1,w2,w3,w4,w5⟩:=hi_q2
 refine dsp (fun h7 p7=>?_) fun h7 p7=>?_
 refine⟨(Bo (l:=x1.fJ) (i:=q2.k) Q2),fun x3 hx3=>?_⟩
 rw[Do hx3,Df] at w5
 refine⟨fun h8=>have q8:=An h8;?_,fun h8=>have q8:=Am h8;have p8:=Acz q8;?_⟩
 exact⟨hx3,Q2,hx3,Q2,(Uk s x3 Q2),h8,(congrArg S.v (congrArg V.c (congrArg C.bool Q68))),rfl⟩
 refine dsp (fun h9 p9=>?_) fun h9 p9=>?_
 refine⟨(Bo (l:=x1.fJ) (i:=Int.toNat ((q2.k:Int)-1)) Q2),fun x4 hx4=>?_⟩
 have hz:=w4 _ (by omega) hx4
 refine⟨hx3,Q2,hx3,Q2,(Uk s x3 Q2),h8,h9,(Ad Q2 Q2),(Ad Q2 Q2),hx4,Q2,hx4,Q2,hx3,Q2,hx3,Q2,dsp (fun h10 p10=>?_) fun h10 p10=>?_⟩
 exact⟨(congrArg S.v (congrArg V.c (congrArg C.bool Q68))),rfl⟩
 exact⟨(Ad Q2 Q2),A4 (j:=(⟨q2.k+1,x3.nJ⟩:Dz)) Q9 rfl Q59 (by dsimp only[Dg];omega)⟩
 exact⟨hx3,Q2,hx3,Q2,(Uk s x3 Q2),h8,h9,(Ad Q2 Q2),A4 (j:=(⟨q2.k+1,x3.nJ⟩:Dz)) Q9 rfl Q59 (by dsimp only[Dg];omega)⟩
 rw[Lo p7,Df] at w5
 exact⟨(Ad Q2 Q2),A4 (j:=(⟨q1.i+1,x1.id⟩:F6)) Q9 rfl Q51 (by dsimp only[Hi];omega)⟩
 refine⟨(Bf _ _ _),h3,h4,dsp (fun h5 p5=>?_) fun h5 p5=>?_⟩
 exact⟨(congrArg S.v (congrArg V.c (congrArg C.bool Q68))),rfl⟩
 refine⟨Bm (j:=(⟨0,0⟩:Dz)) Q9 rfl (by dsimp only[Dg];exact⟨by omega,by omega,by omega,by omega,rfl⟩),fun (q2:Dz) hq_q2=>?_⟩
 have hi_q2:q2.k≤x1.fJ.length∧(0:Int)≤q2.pv∧(q2.k=0→q2.pv=0)∧(∀y,0<q2.k→x1.fJ[Int.toNat ((q2.k:Int)-1)]? =some y→q2.pv=y.nJ)∧Df (s.length:Int) q2.pv (List.drop q2.k x1.fJ)=Df (s.length:Int) 0 x1.fJ:=hq_q2
 obtain ⟨w1,w2,w3,w4,w5⟩:=hi_q2
 refine dsp (fun h6 p6=>?_) fun h6 p6=>?_
 refine⟨(Bo (l:=x1.fJ) (i:=q2.k) Q2),fun x2 hx2=>?_⟩
 rw[Do hx2,Df] at w5
 refine⟨fun h7=>have q7:=An h7;?_,fun h7=>have q7:=Am h7;have p7:=Acz q7;?_⟩
 exact⟨hx2,Q2,hx2,Q2,(Uk s x2 Q2),h7,(congrArg S.v (congrArg V.c (congrArg C.bool Q68))),rfl⟩
 refine dsp (fun h8 p8=>?_) fun h8 p8=>?_
 refine⟨(Bo (l:=x1.fJ) (i:=Int.toNat ((q2.k:Int)-1)) Q2),fun x3 hx3=>?_⟩
 have hz:=w4 _ (by omega) hx3
 refine⟨hx2,Q2,hx2,Q2,(Uk s x2 Q2),h7,h8,(Ad Q2 Q2),(Ad Q2 Q2),hx3,Q2,hx3,Q2,hx2,Q2,hx2,Q2,dsp (fun h9 p9=>?_) fun h9 p9=>?_⟩
 exact⟨(congrArg S.v (congrArg V.c (congrArg C.bool Q68))),rfl⟩
 exact⟨(Ad Q2 Q2),A4 (j:=(⟨q2.k+1,x2.nJ⟩:Dz)) Q9 rfl Q60 (by dsimp only[Dg];omega)⟩
 exact⟨hx2,Q2,hx2,Q2,(Uk s x2 Q2),h7,h8,(Ad Q2 Q2),A4 (j:=(⟨q2.k+1,x2.nJ⟩:Dz)) Q9 rfl Q60 (by dsimp only[Dg];omega)⟩
 rw[Lo p6,Df] at w5
 exact⟨(Ad Q2 Q2),A4 (j:=(⟨q1.i+1,x1.id⟩:F6)) Q9 rfl Q51 (by dsimp only[Hi];omega)⟩
 rw[Lo p2,Eo] at v5
 exact⟨(congrArg S.v (congrArg V.c (congrArg C.bool Q68))),rfl⟩
structure Ly where
 v:Nat
def Jq (n:Int) (x1:Shp):Fam:=⟨Ly,fun q1=>[(2,.v (vI n)),(6,.v (vP 0)),(23,.v (.c (.seq .fld x1.fJ))),(24,.v (vI (x1.fJ.length:Int))),(25,.v (vI (q1.v:Int)))],fun _=>[.cells [.int .i64 0,.int .i64 0,.bool false,.bool false,.int .i64 0]],fun q1=>q1.v≤x1.fJ.length∧Hc (List.drop q1.v x1.fJ) n=Hc x1.fJ n,fun q1=>x1.fJ.length-q1.v⟩
theorem Xk (s:List Shp) (sh:Int) (n:Int) (hp1:s.length≤1000) (hp2: ∀x∈s,x.fJ.length≤1000):Fun Tryz.prog 165 [.agg [.seq .shp s],vI sh,vI n] [] (.tup [.agg (Gc ((fieldAt s sh n).getD fld0)),vB (fieldAt s sh n).isSome]) []:=by
 have hN:A7=274877906944:=rfl
 refine Ap Tryz.func165 Q4 Q4 (w:=let z4:List C:=[.int .i64 0,.int .i64 0,.bool false,.bool false,.int .i64 0];let z5:=(s.length:Int)-1;let z6:S:= .tup [.agg (Gc ((fieldAt s sh n).getD fld0)),vB (fieldAt s sh n).isSome];let z7:=Lf (.tup [.agg z4,vB false]) z6 [] [];(.sZ [.as 14 (.v (vI z5)),.call [] (.v (vB (Ak sh 0 z5))) []] (.br (.lJ () []) (.intro (Sx (s[sh.toNat]?)) fun x1=> .sZ [.el .shp x1,.at 0,.keep [2,6,23,24,25],.sel [1]] (.loop (Jq n x1) fun q1=> .br (.intro (Sx (x1.fJ[q1.v]?)) fun x2=> .sZ [.el .fld x2] (.br (.lJ () []) (.sZ [.as 34 (.v (vI ((q1.v:Int)+1))),.at 0,.keep [2,6,23,24,25],.sel [0]] (.next)))) (.lJ () [])))),(wI z5)∧(Fp 97 [vI sh,vI 0,vI z5] [] (.v (vB (Ak sh 0 z5))) [])∧Bc (!(Ak sh 0 z5)) z7 (El (s[sh.toNat]?) fun x1=>(let z2:=(x1.fJ.length:Int);let z3:=Jq n x1;(s[sh.toNat]? =some x1)∧((0:Int)≤sh)∧z3.Has [(2,.v (vI n)),(6,.v (vP 0)),(23,.v (.c (.seq .fld x1.fJ))),(24,.v (vI z2)),(25,.v (vI 0))] [.cells z4]∧∀q1,z3.inv q1→(let z1:=(q1.v:Int);Bc (decide (z1<z2)) (El (x1.fJ[q1.v]?) fun x2=>((x1.fJ[q1.v]? =some x2)∧((0:Int)≤z1)∧Bc (decide (x2.nJ=n)) (Lf (.tup [.agg (Gc x2),vB true]) z6 [] []) ((wI (z1+1))∧z3.Nxt q1 [(2,.v (vI n)),(6,.v (vP 0)),(23,.v (.c (.seq .fld x1.fJ))),(24,.v (vI z2)),(25,.v (vI (z1+1)))] [.cells z4]))) z7))))) Q4 ?_
 refine⟨(Ad Q2 Q2),(Cj _ _ _),fun h1=>have q1:=An h1;have p1:=Ay q1;?_,fun h1=>have q1:=Am h1;have p1:=Ar q1;?_⟩
 exact zE ((fieldAt s sh n).getD fld0) (⟨0,0,false,false,0⟩:Fld) (fun hm1=>⟨(congrArg S.tup (Ab (congrArg V.agg (Ab (cI W14) (Ab (cI W14) (Ab (congrArg C.bool W14) (Ab (congrArg C.bool W14) (Ab (cI W14) rfl)))))) (Ab (congrArg V.c (congrArg C.bool W14)) rfl))),rfl⟩) W14
 have q1_:=q1
 refine⟨(Bo (l:=s) (i:=sh.toNat) Q2),fun x1 hx1=>?_⟩
 have hfa:=Y1 (n:=n) q1_ hx1
 have hfl:=hp2 x1 (List.mem_of_getElem? hx1)
 refine⟨hx1,Q2,Bm (j:=(⟨0⟩:Ly)) Q9 rfl (by dsimp only[Jq];exact⟨by omega,by simp⟩),fun (q1:Ly) hq_q1=>?_⟩
 have hi_q1:q1.v≤x1.fJ.length∧Hc (List.drop q1.v x1.fJ) n=Hc x1.fJ n:=hq_q1
 obtain ⟨v1,v2⟩:=hi_q1
 refine dsp (fun h2 p2=>?_) fun h2 p2=>?_
 refine⟨(Bo (l:=x1.fJ) (i:=q1.v) Q2),fun x2 hx2=>?_⟩
 rw[Do hx2,U7] at v2
 refine⟨hx2,Q2,dsp (fun h3 p3=>?_) fun h3 p3=>?_⟩
 exact zE ((fieldAt s sh n).getD fld0) x2 (fun hm1=>⟨(congrArg S.tup (Ab (congrArg V.agg (Ab (cI W14) (Ab (cI W14) (Ab (congrArg C.bool W14) (Ab (congrArg C.bool W14) (Ab (cI W14) rfl)))))) (Ab (congrArg V.c (congrArg C.bool W14)) rfl))),rfl⟩) W14
 exact⟨(Ad Q2 Q2),A4 (j:=(⟨q1.v+1⟩:Ly)) Q9 rfl (by dsimp only[Jq];exact⟨by omega,by grind⟩) (by dsimp only[Jq];omega)⟩
 rw[Lo p2] at v2
 exact zE ((fieldAt s sh n).getD fld0) (⟨0,0,false,false,0⟩:Fld) (fun hm1=>⟨(congrArg S.tup (Ab (congrArg V.agg (Ab (cI W14) (Ab (cI W14) (Ab (congrArg C.bool W14) (Ab (congrArg C.bool W14) (Ab (cI W14) rfl)))))) (Ab (congrArg V.c (congrArg C.bool W14)) rfl))),rfl⟩) W14
structure Lz where
 i:Nat
def Jr (n:Int) (x1:Shp):Fam:=⟨Lz,fun q1=>[(2,.v (vI n)),(6,.v (vP 0)),(8,.v (.c (.seq .fld x1.fJ))),(9,.v (vI (q1.i:Int)))],fun _=>[.cells [.int .i64 0,.int .i64 0,.bool false,.bool false,.int .i64 0]],fun q1=>q1.i≤x1.fJ.length∧Hc (List.drop q1.i x1.fJ) n=Hc x1.fJ n,fun q1=>x1.fJ.length-q1.i⟩
theorem Xm (s:List Shp) (sh:Int) (n:Int) (hp1:s.length≤1000) (hp2: ∀x∈s,x.fJ.length≤1000):Fun Tryz.prog 188 [.agg [.seq .shp s],vI sh,vI n] [] (.tup [.agg (Gc ((fieldAt s sh n).getD fld0)),vB (fieldAt s sh n).isSome]) []:=by
 have hN:A7=274877906944:=rfl
 refine Ap Tryz.func188 Q4 Q4 (w:=let z3:List C:=[.int .i64 0,.int .i64 0,.bool false,.bool false,.int .i64 0];let z4:=(s.length:Int)-1;let z5:S:= .tup [.agg (Gc ((fieldAt s sh n).getD fld0)),vB (fieldAt s sh n).isSome];let z6:=Lf (.tup [.agg z3,vB false]) z5 [] [];(.sZ [.as 14 (.v (vI z4)),.call [] (.v (vB (Ak sh 0 z4))) []] (.br (.lJ () []) (.intro (Sx (s[sh.toNat]?)) fun x1=> .sZ [.el .shp x1,.at 0,.keep [2,6,8,9],.sel [1]] (.loop (Jr n x1) fun q1=> .br (.intro (Sx (x1.fJ[q1.i]?)) fun x2=> .sZ [.el .fld x2] (.br (.sZ [.el .fld x2] (.lJ () [])) (.sZ [.as 29 (.v (vI ((q1.i:Int)+1))),.at 0,.keep [2,6,8,9],.sel [0]] (.next)))) (.lJ () [])))),(wI z4)∧(Fp 44 [vI sh,vI 0,vI z4] [] (.v (vB (Ak sh 0 z4))) [])∧Bc (!(Ak sh 0 z4)) z6 (El (s[sh.toNat]?) fun x1=>(let z2:=Jr n x1;(s[sh.toNat]? =some x1)∧((0:Int)≤sh)∧z2.Has [(2,.v (vI n)),(6,.v (vP 0)),(8,.v (.c (.seq .fld x1.fJ))),(9,.v (vI 0))] [.cells z3]∧∀q1,z2.inv q1→(let z1:=(q1.i:Int);Bc (decide (z1<(x1.fJ.length:Int))) (El (x1.fJ[q1.i]?) fun x2=>((x1.fJ[q1.i]? =some x2)∧((0:Int)≤z1)∧Bc (decide (x2.nJ=n)) ((x1.fJ[q1.i]? =some x2)∧((0:Int)≤z1)∧Lf (.tup [.agg (Gc x2),vB true]) z5 [] []) ((wI (z1+1))∧z2.Nxt q1 [(2,.v (vI n)),(6,.v (vP 0)),(8,.v (.c (.seq .fld x1.fJ))),(9,.v (vI (z1+1)))] [.cells z3]))) z6))))) Q4 ?_
 refine⟨(Ad Q2 Q2),(Bf _ _ _),fun h1=>have q1:=An h1;have p1:=Ay q1;?_,fun h1=>have q1:=Am h1;have p1:=Ar q1;?_⟩
 exact zE ((fieldAt s sh n).getD fld0) (⟨0,0,false,false,0⟩:Fld) (fun hm1=>⟨(congrArg S.tup (Ab (congrArg V.agg (Ab (cI W14) (Ab (cI W14) (Ab (congrArg C.bool W14) (Ab (congrArg C.bool W14) (Ab (cI W14) rfl)))))) (Ab (congrArg V.c (congrArg C.bool W14)) rfl))),rfl⟩) W14
 have q1_:=q1
 refine⟨(Bo (l:=s) (i:=sh.toNat) Q2),fun x1 hx1=>?_⟩
 have hfa:=Y1 (n:=n) q1_ hx1
 have hfl:=hp2 x1 (List.mem_of_getElem? hx1)
 refine⟨hx1,Q2,Bm (j:=(⟨0⟩:Lz)) Q9 rfl (by dsimp only[Jr];exact⟨by omega,by simp⟩),fun (q1:Lz) hq_q1=>?_⟩
 have hi_q1:q1.i≤x1.fJ.length∧Hc (List.drop q1.i x1.fJ) n=Hc x1.fJ n:=hq_q1
 obtain ⟨v1,v2⟩:=hi_q1
 refine dsp (fun h2 p2=>?_) fun h2 p2=>?_
 refine⟨(Bo (l:=x1.fJ) (i:=q1.i) Q2),fun x2 hx2=>?_⟩
 rw[Do hx2,U7] at v2
 refine⟨hx2,Q2,dsp (fun h3 p3=>?_) fun h3 p3=>?_⟩
 exact zE ((fieldAt s sh n).getD fld0) x2 (fun hm1=>⟨hx2,Q2,(congrArg S.tup (Ab (congrArg V.agg (Ab (cI W14) (Ab (cI W14) (Ab (congrArg C.bool W14) (Ab (congrArg C.bool W14) (Ab (cI W14) rfl)))))) (Ab (congrArg V.c (congrArg C.bool W14)) rfl))),rfl⟩) W14
 exact⟨(Ad Q2 Q2),A4 (j:=(⟨q1.i+1⟩:Lz)) Q9 rfl (by dsimp only[Jr];exact⟨by omega,by grind⟩) (by dsimp only[Jr];omega)⟩
 rw[Lo p2] at v2
 exact zE ((fieldAt s sh n).getD fld0) (⟨0,0,false,false,0⟩:Fld) (fun hm1=>⟨(congrArg S.tup (Ab (congrArg V.agg (Ab (cI W14) (Ab (cI W14) (Ab (congrArg C.bool W14) (Ab (congrArg C.bool W14) (Ab (cI W14) rfl)))))) (Ab (congrArg V.c (congrArg C.bool W14)) rfl))),rfl⟩) W14
theorem Aka (p:Pln):Fun Tryz.prog 46 [.agg (Mp p)] [] (.v (vB (Dm p))) []:=by
 have hN:A7=274877906944:=rfl
 refine Ap Tryz.func46 Q4 Q4 (w:=let z1:=(p.sQ.length:Int)-1;let z2:=Lf (.v (vB false)) (.v (vB (Dm p))) [] [];let z3:S:= .v (vB (Ak p.most 0 2000));let z4:=Ak p.rJ 0 z1;let z5:=Dy p.sQ;let z6:=Ak p.dJ 1 8;(.sZ [.call [] (.v (vB z5)) []] (.br (.sZ [.as 13 (.v (vI z1)),.call [] (.v (vB z4)) []] (.br (.sZ [.call [] (.v (vB z6)) []] (.br (.sZ [.call [] z3 []] (.lJ () [])) (.lJ () []))) (.lJ () []))) (.lJ () [])),(Fp 96 [.agg [.seq .shp p.sQ]] [] (.v (vB z5)) [])∧Bc z5 ((wI z1)∧(Fp 97 [vI p.rJ,vI 0,vI z1] [] (.v (vB z4)) [])∧Bc z4 ((Fp 97 [vI p.dJ,vI 1,vI 8] [] (.v (vB z6)) [])∧Bc z6 ((Fp 97 [vI p.most,vI 0,vI 2000] [] z3 [])∧Lf z3 (.v (vB (Dm p))) [] []) z2) z2) z2)) Q4 ?_
 refine⟨(Afu p.sQ),fun h1=>have p1:=Ud h1;?_,fun h1=>?_⟩
 refine⟨(Ad Q2 Q2),(Cj _ _ _),fun h2=>have p2:=Ar h2;?_,fun h2=>have p2:=Ay h2;?_⟩
 refine⟨(Cj _ _ _),fun h3=>have p3:=Ar h3;?_,fun h3=>have p3:=Ay h3;?_⟩
 exact⟨(Cj _ _ _),(congrArg S.v (congrArg V.c (congrArg C.bool Q83))),rfl⟩
 exact⟨(congrArg S.v (congrArg V.c (congrArg C.bool Q83))),rfl⟩
 exact⟨(congrArg S.v (congrArg V.c (congrArg C.bool Q83))),rfl⟩
 exact⟨(congrArg S.v (congrArg V.c (congrArg C.bool Q83))),rfl⟩
theorem Aai (p:Pln):Fun Tryz.prog 13 [.agg (Mp p)] [] (.v (vB (Dm p))) []:=by
 have hN:A7=274877906944:=rfl
 refine Ap Tryz.func13 Q4 Q4 (w:=let z1:=(p.sQ.length:Int)-1;let z2:=Lf (.v (vB false)) (.v (vB (Dm p))) [] [];let z3:S:= .v (vB (Ak p.most 0 2000));let z4:=Ak p.rJ 0 z1;let z5:=Dy p.sQ;let z6:=Ak p.dJ 1 8;(.sZ [.call [] (.v (vB z5)) []] (.br (.sZ [.as 13 (.v (vI z1)),.call [] (.v (vB z4)) []] (.br (.sZ [.call [] (.v (vB z6)) []] (.br (.sZ [.call [] z3 []] (.lJ () [])) (.lJ () []))) (.lJ () []))) (.lJ () [])),(Fp 43 [.agg [.seq .shp p.sQ]] [] (.v (vB z5)) [])∧Bc z5 ((wI z1)∧(Fp 44 [vI p.rJ,vI 0,vI z1] [] (.v (vB z4)) [])∧Bc z4 ((Fp 44 [vI p.dJ,vI 1,vI 8] [] (.v (vB z6)) [])∧Bc z6 ((Fp 44 [vI p.most,vI 0,vI 2000] [] z3 [])∧Lf z3 (.v (vB (Dm p))) [] []) z2) z2) z2)) Q4 ?_
 refine⟨(Afv p.sQ),fun h1=>have p1:=Ud h1;?_,fun h1=>?_⟩
 refine⟨(Ad Q2 Q2),(Bf _ _ _),fun h2=>have p2:=Ar h2;?_,fun h2=>have p2:=Ay h2;?_⟩
 refine⟨(Bf _ _ _),fun h3=>have p3:=Ar h3;?_,fun h3=>have p3:=Ay h3;?_⟩
 exact⟨(Bf _ _ _),(congrArg S.v (congrArg V.c (congrArg C.bool Q83))),rfl⟩
 exact⟨(congrArg S.v (congrArg V.c (congrArg C.bool Q83))),rfl⟩
 exact⟨(congrArg S.v (congrArg V.c (congrArg C.bool Q83))),rfl⟩
 exact⟨(congrArg S.v (congrArg V.c (congrArg C.bool Q83))),rfl⟩
theorem Afw (k:Int):Fun Tryz.prog 168 [vI k] [] (.v (vB (Fi k))) []:=by
 have hN:A7=274877906944:=rfl
 refine Ap Tryz.func168 Q4 Q4 (w:=let z1:=Lf (.v (vB true)) (.v (vB (Fi k))) [] [];(.br (.lJ () []) (.br (.lJ () []) (.lJ () [])),Bc (decide (k=2)) z1 (Bc (decide (k=3)) z1 (Lf (.v (vB (decide (k=6)))) (.v (vB (Fi k))) [] [])))) Q4 ?_
 refine dsp (fun h1 p1=>?_) fun h1 p1=>?_
 exact⟨(congrArg S.v (congrArg V.c (congrArg C.bool (by grind[Fi])))),rfl⟩
 refine dsp (fun h2 p2=>?_) fun h2 p2=>?_
 exact⟨(congrArg S.v (congrArg V.c (congrArg C.bool (by grind[Fi])))),rfl⟩
 exact⟨(congrArg S.v (congrArg V.c (congrArg C.bool (by grind[Fi])))),rfl⟩
theorem Eg (d:Dcd) (hp1:List.length (d).sJ≤A7):Fun Tryz.prog 108 [.agg (Bx d)] [] (.v (vI (Eb d))) []:=by
 have hN:A7=274877906944:=rfl
 refine Ap Tryz.func108 Q4 Q4 (w:=let z1:=((d.sJ.length:Nat):Int);(.br (.lJ () []) (.sZ [.as 12 (.v (vI (z1-1)))] (.intro (Sx (d.sJ[Int.toNat (z1-1)]?)) fun x1=> .sZ [.el .lev x1] (.lJ () []))),Bc (decide (z1=0)) (Lf (.v (vI 0)) (.v (vI (Eb d))) [] []) ((wI (z1-1))∧El (d.sJ[Int.toNat (z1-1)]?) fun x1=>((d.sJ[Int.toNat (z1-1)]? =some x1)∧((0:Int)≤z1-1)∧Lf (.v (vI x1.left)) (.v (vI (Eb d))) [] [])))) Q4 ?_
 refine dsp (fun h1 p1=>?_) fun h1 p1=>?_
 exact⟨(sI W15),rfl⟩
 refine⟨(Ad Q2 Q2),(Bo (l:=d.sJ) (i:=Int.toNat (((d.sJ.length:Nat):Int)-1)) Q2),fun x1 hx1=>?_⟩
 have htop:Eb d=x1.left:=by unfold Eb;rw[Wt (by rw[←hx1];congr 1;omega)]
 exact⟨hx1,Q2,(sI W15),rfl⟩
theorem Pu (d:Dcd) (hp1:List.length (d).sJ≤A7):Fun Tryz.prog 126 [.agg (Bx d)] [] (.v (vI (Eb d))) []:=by
 have hN:A7=274877906944:=rfl
 refine Ap Tryz.func126 Q4 Q4 (w:=let z1:=((d.sJ.length:Nat):Int);(.br (.lJ () []) (.sZ [.as 12 (.v (vI (z1-1)))] (.intro (Sx (d.sJ[Int.toNat (z1-1)]?)) fun x1=> .sZ [.el .lev x1] (.lJ () []))),Bc (decide (z1=0)) (Lf (.v (vI 0)) (.v (vI (Eb d))) [] []) ((wI (z1-1))∧El (d.sJ[Int.toNat (z1-1)]?) fun x1=>((d.sJ[Int.toNat (z1-1)]? =some x1)∧((0:Int)≤z1-1)∧Lf (.v (vI x1.left)) (.v (vI (Eb d))) [] [])))) Q4 ?_
 refine dsp (fun h1 p1=>?_) fun h1 p1=>?_
 exact⟨(sI W15),rfl⟩
 refine⟨(Ad Q2 Q2),(Bo (l:=d.sJ) (i:=Int.toNat (((d.sJ.length:Nat):Int)-1)) Q2),fun x1 hx1=>?_⟩
 have htop:Eb d=x1.left:=by unfold Eb;rw[Wt (by rw[←hx1];congr 1;omega)]
 exact⟨hx1,Q2,(sI W15),rfl⟩
theorem Aib (p:Pln) (k:Int) (hp1:List.length (p).sQ≤A7):Fun Tryz.prog 211 [.agg (Mp p),vI k] [] (.v (vB (Ak k 0 (((List.length (p).sQ:Nat):Int)-1)))) []:=by
 have hN:A7=274877906944:=rfl
 refine Ap Tryz.func211 Q4 Q4 (w:=let z1:=((p.sQ.length:Nat):Int)-1;let z2:S:= .v (vB (Ak k 0 z1));(.sZ [.as 10 (.v (vI z1)),.call [] z2 []] (.lJ () []),(wI z1)∧(Fp 97 [vI k,vI 0,vI z1] [] z2 [])∧Lf z2 (.v (vB (Ak k 0 (((List.length (p).sQ:Nat):Int)-1)))) [] [])) Q4 ?_
 exact⟨(Ad Q2 Q2),(Cj _ _ _),(congrArg S.v (congrArg V.c (congrArg C.bool (by rfl)))),rfl⟩
theorem Aic (p:Pln) (l:Lev) (hp1:List.length (p).sQ≤A7):Fun Tryz.prog 164 [.agg (Mp p),.agg (Apx l)] [] (.v (vB (Fm ((List.length (p).sQ:Nat):Int) l))) []:=by
 have hN:A7=274877906944:=rfl
 refine Ap Tryz.func164 Q4 Q4 (w:=let z1:=((List.length (p).sQ:Nat):Int);let z2:S:= .v (vB (Ak l.left 0 2000));let z3:=Ak l.mK 0 (z1-1);(.sZ [.call [] (.v (vB z3)) []] (.br (.sZ [.call [] z2 []] (.lJ () [])) (.lJ () [])),(Fp 211 [.agg (Mp p),vI l.mK] [] (.v (vB z3)) [])∧Bc z3 ((Fp 97 [vI l.left,vI 0,vI 2000] [] z2 [])∧Lf z2 (.v (vB (Fm z1 l))) [] []) (Lf (.v (vB false)) (.v (vB (Fm z1 l))) [] []))) Q4 ?_
 refine⟨(Aib p _ Q2),fun h1=>have p1:=Ar h1;?_,fun h1=>have p1:=Ay h1;?_⟩
 exact⟨(Cj _ _ _),(sB W16),rfl⟩
 exact⟨(sB W16),rfl⟩
theorem Akb (l:Lev) (d:Dcd) (hp1:List.length (d).pJ.sQ≤A7):Fun Tryz.prog 163 [.agg (Apx l),vP 0] [.cells (Bx d)] (.v (vB (!Fm ((List.length (d).pJ.sQ:Nat):Int) l))) [.cells (Bx d)]:=by
 have hN:A7=274877906944:=rfl
 refine Ap Tryz.func163 Q4 Q4 (w:=let z1:=Fm ((List.length (d.pJ).sQ:Nat):Int) l;(.sZ [.call [] (.v (vB z1)) []] (.lJ () [0]),(Fp 164 [.agg (Mp d.pJ),.agg (Apx l)] [] (.v (vB z1)) [])∧Lf (.v (vB (!z1))) (.v (vB (!Fm ((List.length (d).pJ.sQ:Nat):Int) l))) [.cells (Bx d)] [.cells (Bx d)])) Q4 ?_
 exact⟨(Aic d.pJ l Q2),(congrArg S.v (congrArg V.c (congrArg C.bool (by rfl)))),rfl⟩
structure To where
 v:Nat
def Tp (s:List Lev) (d:Dcd):Fam:=⟨To,fun q1=>[(0,.v (.c (.seq .lev s))),(1,.v (.c (.fn 163 [0]))),(7,.v (vI ((List.length s:Nat):Int))),(8,.v (vI ((q1.v:Nat):Int)))],fun _=>[.cells (Bx d)],fun q1=>q1.v≤List.length s∧Yg (List.length d.pJ.sQ:Int) (List.drop q1.v s)+q1.v=Yg (List.length d.pJ.sQ:Int) s,fun q1=>List.length s-q1.v⟩
theorem Ao2 (s:List Lev) (d:Dcd) (hp1:List.length (d).pJ.sQ≤A7) (hp2:s.length≤A7):Fun Tryz.prog 210 [.c (.seq .lev s),.c (.fn 163 [0])] [.cells (Bx d)] (.v (vI (Lr ((List.length (d).pJ.sQ:Nat):Int) s))) [.cells (Bx d)]:=by
 have hN:A7=274877906944:=rfl
 refine Ap Tryz.func210 Q4 Q4 (w:=let z3:=((List.length (d).pJ.sQ:Nat):Int);let z4:List Blk:=[.cells (Bx d)];let z5:=((s.length:Nat):Int);let z6:=Tp s d;(.sZ [.at 0,.keep [0,1,7,8],.sel [0]] (.loop z6 fun q1=> .br (.intro (Sx (s[q1.v]?)) fun x1=> .sZ [.el .lev x1,.call [0] (.v (vB (!Fm z3 x1))) z4] (.br (.lJ () [0]) (.sZ [.as 18 (.v (vI (((q1.v:Nat):Int)+1))),.at 0,.keep [0,1,7,8],.sel [0]] (.next)))) (.lJ () [0])),z6.Has [(0,.v (.c (.seq .lev s))),(1,.v (.c (.fn 163 [0]))),(7,.v (vI z5)),(8,.v (vI 0))] z4∧∀q1,z6.inv q1→(let z2:=((q1.v:Nat):Int);Bc (decide (z2<z5)) (El (s[q1.v]?) fun x1=>(let z1:= !Fm z3 x1;(s[q1.v]? =some x1)∧((0:Int)≤z2)∧(Fp 163 [.agg (Apx x1),vP 0] z4 (.v (vB z1)) z4)∧Bc z1 (Lf (.v (vI z2)) (.v (vI (Lr z3 s))) z4 z4) ((wI (z2+1))∧z6.Nxt q1 [(0,.v (.c (.seq .lev s))),(1,.v (.c (.fn 163 [0]))),(7,.v (vI z5)),(8,.v (vI (z2+1)))] z4))) (Lf (.v (vI (-1))) (.v (vI (Lr z3 s))) z4 z4)))) Q4 ?_
 refine⟨Bm (j:=(⟨0⟩:To)) Q9 rfl (by dsimp only[Tp];exact⟨by omega,rfl⟩),fun (q1:To) hq_q1=>?_⟩
 have hi_q1:q1.v≤s.length∧Yg (d.pJ.sQ.length:Int) (List.drop q1.v s)+q1.v=Yg (d.pJ.sQ.length:Int) s:=hq_q1
 obtain ⟨v1,v3⟩:=hi_q1
 refine dsp (fun h1 p1=>?_) fun h1 p1=>?_
 refine⟨(Bo (l:=s) (i:=q1.v) Q2),fun x1 hx1=>?_⟩
 rw[Do hx1,Tb] at v3
 have hll:=congrArg List.length (Do hx1)
 rw[List.length_drop,List.length_cons,List.length_drop] at hll
 refine⟨hx1,Q2,(Akb x1 d Q2),fun h2=>have q2:=An h2;?_,fun h2=>have q2:=Am h2;?_⟩
 rw[if_neg (by simp[q2])] at v3
 have hbl:Lr (d.pJ.sQ.length:Int) s=q1.v:=by unfold Lr;rw[if_neg (by omega)];omega
 exact⟨(sI W17),rfl⟩
 rw[if_pos q2] at v3
 exact⟨(Ad Q2 Q2),A4 (j:=(⟨q1.v+1⟩:To)) Q9 rfl (by dsimp only[Tp];exact⟨by omega,by omega⟩) (by dsimp only[Tp];omega)⟩
 rw[List.drop_eq_nil_of_le (by omega)] at v3
 simp only[Yg] at v3
 have hbl:Lr (d.pJ.sQ.length:Int) s= -1:=by unfold Lr;rw[if_pos (by omega)]
 exact⟨(sI W17),rfl⟩
theorem Ao3 (s:List Lev) (d:Dcd) (hp1:List.length (d).pJ.sQ≤A7) (hp2:s.length≤A7):Fun Tryz.prog 162 [.c (.seq .lev s),.c (.fn 163 [0])] [.cells (Bx d)] (.v (vB (decide (0≤Lr ((List.length (d).pJ.sQ:Nat):Int) s)))) [.cells (Bx d)]:=by
 have hN:A7=274877906944:=rfl
 refine Ap Tryz.func162 Q4 Q4 (w:=let z1:=((List.length (d).pJ.sQ:Nat):Int);let z2:List Blk:=[.cells (Bx d)];let z3:S:= .v (vB (decide (0≤Lr z1 s)));(.sZ [.call [0] (.v (vI (Lr z1 s))) z2] (.lJ () [0]),(Fp 210 [.c (.seq .lev s),.c (.fn 163 [0])] z2 (.v (vI (Lr z1 s))) z2)∧Lf z3 z3 z2 z2)) Q4 ?_
 exact⟨(Ao2 _ d Q2 Q2),rfl,rfl⟩
theorem Ze (d:Dcd) (hp1:List.length (d).sJ≤A7) (hp2:List.length (d).pJ.sQ≤A7):Fun Tryz.prog 102 [.agg (Bx d)] [] (.v (vB (Bk d))) []:=by
 have hN:A7=274877906944:=rfl
 refine Ap Tryz.func102 Q4 Q4 (w:=let z1:=decide (0≤Lr ((List.length (d).pJ.sQ:Nat):Int) d.sJ);let z2:=Lf (.v (vB false)) (.v (vB (Bk d))) [] [];(.sZ [.call [] (.v (vB (Dm d.pJ))) []] (.br (.br (.sZ [.call [0] (.v (vB z1)) [.cells (Bx d)]] (.lJ () [])) (.lJ () [])) (.lJ () [])),(Fp 46 [.agg (Mp d.pJ)] [] (.v (vB (Dm d.pJ))) [])∧Bc (Dm d.pJ) (Bc (decide (((d.sJ.length:Nat):Int)≤d.pJ.dJ)) ((Fp 162 [.c (.seq .lev d.sJ),.c (.fn 163 [0])] [.cells (Bx d)] (.v (vB z1)) [.cells (Bx d)])∧Lf (.v (vB (!z1))) (.v (vB (Bk d))) [] []) z2) z2)) Q4 ?_
 refine⟨(Aka d.pJ),fun h1=>have p1:=Cm h1;?_,fun h1=>?_⟩
 refine dsp (fun h2 p2=>?_) fun h2 p2=>?_
 exact⟨(Ao3 _ d Q2 Q2),(sB W18),rfl⟩
 exact⟨(sB W18),rfl⟩
 exact⟨(sB W18),rfl⟩
theorem Tq (k:Int):Fun Tryz.prog 166 [vI k] [] (.v (vB (Qf k))) []:=by
 have hN:A7=274877906944:=rfl
 refine Ap Tryz.func166 Q4 Q4 (w:=let z1:S:= .v (vB (Ak k 1 10));(.sZ [.call [] z1 []] (.lJ () []),(Fp 97 [vI k,vI 1,vI 10] [] z1 [])∧Lf z1 (.v (vB (Qf k))) [] [])) Q4 ?_
 exact⟨(Cj _ _ _),(congrArg S.v (congrArg V.c (congrArg C.bool (by rfl)))),rfl⟩
theorem Aaj (e:Ev):Fun Tryz.prog 167 [.agg (cEv e)] [] (.v (.agg (cEv (Ep e)))) []:=by
 have hN:A7=274877906944:=rfl
 refine Ap Tryz.func167 Q4 Q4 (w:=let zi:Int→C:= .int .i64;let z1:List C:=[.int .u64 0,zi e.len,.str [],zi 0,zi 0];let z2:S:= .v (.agg (cEv (Ep e)));let z3:S:= .v (.agg (zi e.kind::zi e.field::z1));let z4:=os 8 [5,7];(.br (.lJ () []) (.br (.sZ [.ord z4 [2]] (.lJ () [])) (.br (.sZ [.br true,.ord z4 [2]] (.lJ () [])) (.br (.sZ [.ord z4 [2]] (.lJ () [])) (.br (.lJ () []) (.br (.lJ () []) (.br (.sZ [.ord z4 [2]] (.lJ () [])) (.lJ () []))))))),Bc (decide (e.kind=1)) (Lf (.v (.agg (zi e.kind::zi 0::z1))) z2 [] []) (Bc (decide (e.kind=2)) (Lf (.v (.agg [zi e.kind,zi e.field,.int .u64 e.bits,zi 0,.str [],zi 0,zi 0])) z2 [] []) (Bc (decide (e.kind=3)) (((decide (e.kind=3))=true)∧Lf z3 z2 [] []) (Bc (decide (e.kind=6)) (Lf z3 z2 [] []) (Bc (decide (e.kind=4)) (Lf (.v (.agg [zi e.kind,zi 0,.int .u64 0,zi 0,.str e.text,zi 0,zi 0])) z2 [] []) (Bc (decide (e.kind=9)) (Lf (.v (.agg [zi e.kind,zi 0,.int .u64 0,zi 0,.str [],zi 0,zi e.aJ])) z2 [] []) (Bc (decide (e.kind=10)) (Lf (.v (.agg [zi e.kind,zi 0,.int .u64 0,zi 0,.str [],zi e.code,zi e.aJ])) z2 [] []) (Lf (.v (.agg [zi e.kind,zi 0,.int .u64 0,zi 0,.str [],zi 0,zi 0])) z2 [] []))))))))) Q4 ?_
 refine dsp (fun h1 p1=>?_) fun h1 p1=>?_
 exact zE (Ep e) (⟨e.kind,0,0,e.len,[],0,0⟩:Ev) (fun hm1=>⟨Q6,rfl⟩) W19
 refine dsp (fun h2 p2=>?_) fun h2 p2=>?_
 exact zE (Ep e) (⟨e.kind,e.field,e.bits,0,[],0,0⟩:Ev) (fun hm1=>⟨Q6,rfl⟩) W19
 refine dsp (fun h3 p3=>?_) fun h3 p3=>?_
 exact zE (Ep e) (⟨e.kind,e.field,0,e.len,[],0,0⟩:Ev) (fun hm1=>⟨h3,Q6,rfl⟩) W19
 refine dsp (fun h4 p4=>?_) fun h4 p4=>?_
 exact zE (Ep e) (⟨e.kind,e.field,0,e.len,[],0,0⟩:Ev) (fun hm1=>⟨Q6,rfl⟩) W19
 refine dsp (fun h5 p5=>?_) fun h5 p5=>?_
 exact zE (Ep e) (⟨e.kind,0,0,0,e.text,0,0⟩:Ev) (fun hm1=>⟨Q6,rfl⟩) W19
 refine dsp (fun h6 p6=>?_) fun h6 p6=>?_
 exact zE (Ep e) (⟨e.kind,0,0,0,[],0,e.aJ⟩:Ev) (fun hm1=>⟨Q6,rfl⟩) W19
 refine dsp (fun h7 p7=>?_) fun h7 p7=>?_
 exact zE (Ep e) (⟨e.kind,0,0,0,[],e.code,e.aJ⟩:Ev) (fun hm1=>⟨Q6,rfl⟩) W19
 exact zE (Ep e) (⟨e.kind,0,0,0,[],0,0⟩:Ev) (fun hm1=>⟨Q6,rfl⟩) W19
theorem Um (e:Ev):Fun Tryz.prog 107 [.agg (cEv e)] [] (.v (vB (B6 e))) []:=by
 have hN:A7=274877906944:=rfl
 refine Ap Tryz.func107 Q4 Q4 (w:=(.br (.lJ () []) (.lJ () []),Bc (decide (e.kind=9)) (Lf (.v (vB true)) (.v (vB (B6 e))) [] []) (Lf (.v (vB (decide (e.kind=10)))) (.v (vB (B6 e))) [] []))) Q4 ?_
 refine dsp (fun h1 p1=>?_) fun h1 p1=>?_
 exact⟨(sB W20),rfl⟩
 exact⟨(sB W20),rfl⟩
theorem Rg (e:Ev):Fun Tryz.prog 31 [.agg (cEv e)] [] (.v (vB (B6 e))) []:=by
 have hN:A7=274877906944:=rfl
 refine Ap Tryz.func31 Q4 Q4 (w:=(.br (.lJ () []) (.lJ () []),Bc (decide (e.kind=9)) (Lf (.v (vB true)) (.v (vB (B6 e))) [] []) (Lf (.v (vB (decide (e.kind=10)))) (.v (vB (B6 e))) [] []))) Q4 ?_
 refine dsp (fun h1 p1=>?_) fun h1 p1=>?_
 exact⟨(sB W20),rfl⟩
 exact⟨(sB W20),rfl⟩
theorem Abw (e:Ev):Fun Tryz.prog 106 [.agg (cEv e)] [] (.v (vB (Gv e))) []:=by
 have hN:A7=274877906944:=rfl
 refine Ap Tryz.func106 Q4 Q4 (w:=let z2:=Qf e.kind;let z3:S:= .v (vB (Gv e));let z5:S:= .v (vB (Ak e.field 1 536870911));let z6:S:= .v (vB z2);let z7:=decide (e.len<0);let z8:=Ep e;let z1:= !(decide (e.kind=z8.kind)&&(decide (e.field=z8.field)&&(decide (e.bits=z8.bits)&&(decide (e.len=z8.len)&&(decide (e.text=z8.text)&&(decide (e.code=z8.code)&&decide (e.aJ=z8.aJ)))))));let z4:S:= .v (.agg (cEv z8));let z9:S:= .v (vB false);let z10:=os 21 [2,7];(.case (!z2) (.sZ [.ord z10 [],.call [] z6 [],.br true] (.lJ () [])) (.case z1 (.sZ [.ord z10 [],.call [] z6 [],.br false,.call [] z4 [],.br true] (.lJ () [])) (.case z7 (.sZ [.ord z10 [],.call [] z6 [],.br false,.call [] z4 [],.br false,.br true] (.lJ () [])) (.sZ [.ord z10 [],.call [] z6 [],.br false,.call [] z4 [],.br false,.br false] (.br (.lJ () []) (.sZ [.call [] (.v (vB (Fi e.kind))) []] (.br (.sZ [.call [] z5 []] (.lJ () [])) (.br (.lJ () []) (.br (.lJ () []) (.lJ () []))))))))),Bc (!z2) ((Fp 166 [vI e.kind] [] z6 [])∧((!z2)=true)∧Lf z9 z3 [] []) (Bc z1 ((Fp 166 [vI e.kind] [] z6 [])∧((!z2)=false)∧(Fp 167 [.agg (cEv e)] [] z4 [])∧(z1=true)∧Lf z9 z3 [] []) (Bc z7 ((Fp 166 [vI e.kind] [] z6 [])∧((!z2)=false)∧(Fp 167 [.agg (cEv e)] [] z4 [])∧(z1=false)∧(z7=true)∧Lf z9 z3 [] []) ((Fp 166 [vI e.kind] [] z6 [])∧((!z2)=false)∧(Fp 167 [.agg (cEv e)] [] z4 [])∧(z1=false)∧(z7=false)∧Bc (decide (e.aJ<0)) (Lf z9 z3 [] []) ((Fp 168 [vI e.kind] [] (.v (vB (Fi e.kind))) [])∧Bc (Fi e.kind) ((Fp 97 [vI e.field,vI 1,vI 536870911] [] z5 [])∧Lf z5 z3 [] []) (Bc (decide (e.kind=4)) (Lf (.v (vB (!decide (e.text=[])))) z3 [] []) (Bc (decide (e.kind=10)) (Lf (.v (vB (decide (1≤e.code)))) z3 [] []) (Lf (.v (vB true)) z3 [] []))))))))) Q4 ?_
 refine⟨fun h1=>have q1:=An h1;?_,fun h1=>have q1:=Am h1;?_⟩
 exact⟨(Tq _),h1,(sB W21),rfl⟩
 refine⟨fun h2=>have q2:=An h2;have p2:=(Cy dT (Cy dT (Cy dT (Cy dT (Cy dT (Cy dT dF)))))).1 q2;?_,fun h2=>have q2:=Am h2;have p2:=(Cx dT (Cx dT (Cx dT (Cx dT (Cx dT (Cx dT dT)))))).1 q2;?_⟩
 have hib:Tc e=false:=by rw[Te rfl];exact q2
 exact⟨(Tq _),h1,(Aaj e),h2,(sB W21),rfl⟩
 have hib:Tc e=true:=by rw[Te rfl];exact q2
 refine dsp (fun h3 p3=>?_) fun h3 p3=>?_
 exact⟨(Tq _),h1,(Aaj e),h2,h3,(sB W21),rfl⟩
 refine⟨(Tq _),h1,(Aaj e),h2,h3,dsp (fun h4 p4=>?_) fun h4 p4=>?_⟩
 exact⟨(sB W21),rfl⟩
 refine⟨(Afw _),fun h5=>?_,fun h5=>?_⟩
 exact⟨(Cj _ _ _),(sB W21),rfl⟩
 refine dsp (fun h6 p6=>?_) fun h6 p6=>?_
 exact⟨(sB W21),rfl⟩
 refine dsp (fun h7 p7=>?_) fun h7 p7=>?_
 exact⟨(sB W21),rfl⟩
 exact⟨(sB W21),rfl⟩
structure Dc where
 wK:Ev
def R7 (e:Ev):Fam:=⟨Dc,fun j0=>[(1,.v (vP 0)),(3,.v (vP 1))],fun j0=>[.cells (cEv e),.cells (cEv j0.wK)],fun j0=>j0.wK=Ep e,fun _=>0⟩
theorem Aid (e:Ev):Fun Tryz.prog 125 [.agg (cEv e)] [] (.v (vB (Gv e))) []:=by
 have hN:A7=274877906944:=rfl
 refine Ap Tryz.func125 Q4 Q4 (w:=let zi:Int→C:= .int .i64;let z1:List C:=[.int .u64 0,zi e.len,.str [],zi 0,zi 0];let z2:S:= .v (vB (Ak e.field 1 536870911));let z3:S:= .v (vB (Gv e));let z4:=R7 e;let z5:=Lf (.v (vB false)) z3 [] [];let z6:List Blk:=[.cells (cEv e),.cells (zi e.kind::zi e.field::z1)];let z7:=decide (e.kind=3);let z8:List V:=[vI e.field,vI 1,vI 536870911];let z9:=decide (e.kind=2);let z10:=Ak e.kind 1 10;(.join 0 z4 (.br (.sZ [.at 0,.keep [1,3],.sel [0,1]] (.next)) (.br (.sZ [.at 0,.keep [1,3],.sel [0,1]] (.next)) (.br (.sZ [.br true,.at 0,.keep [1,3],.sel [0,1]] (.next)) (.br (.sZ [.at 0,.keep [1,3],.sel [0,1]] (.next)) (.br (.sZ [.at 0,.keep [1,3],.sel [0,1]] (.next)) (.br (.sZ [.at 0,.keep [1,3],.sel [0,1]] (.next)) (.br (.sZ [.at 0,.keep [1,3],.sel [0,1]] (.next)) (.sZ [.at 0,.keep [1,3],.sel [0,1]] (.next))))))))) fun j0=> .br (.lJ () []) (.sZ [.call [] (.v (vB z10)) []] (.br (.lJ () []) (.br (.lJ () []) (.br (.lJ () []) (.br (.sZ [.br true,.call [] z2 []] (.lJ () [])) (.br (.sZ [.br true,.call [] z2 []] (.lJ () [])) (.br (.sZ [.call [] z2 []] (.lJ () [])) (.br (.lJ () []) (.br (.lJ () []) (.lJ () [])))))))))),(Bc (decide (e.kind=1)) (z4.Has [(1,.v (vP 0)),(3,.v (vP 1))] [.cells (cEv e),.cells (zi e.kind::zi 0::z1)]) (Bc z9 (z4.Has [(1,.v (vP 0)),(3,.v (vP 1))] [.cells (cEv e),.cells [zi e.kind,zi e.field,.int .u64 e.bits,zi 0,.str [],zi 0,zi 0]]) (Bc z7 ((z7=true)∧z4.Has [(1,.v (vP 0)),(3,.v (vP 1))] z6) (Bc (decide (e.kind=6)) (z4.Has [(1,.v (vP 0)),(3,.v (vP 1))] z6) (Bc (decide (e.kind=4)) (z4.Has [(1,.v (vP 0)),(3,.v (vP 1))] [.cells (cEv e),.cells [zi e.kind,zi 0,.int .u64 0,zi 0,.str e.text,zi 0,zi 0]]) (Bc (decide (e.kind=9)) (z4.Has [(1,.v (vP 0)),(3,.v (vP 1))] [.cells (cEv e),.cells [zi e.kind,zi 0,.int .u64 0,zi 0,.str [],zi 0,zi e.aJ]]) (Bc (decide (e.kind=10)) (z4.Has [(1,.v (vP 0)),(3,.v (vP 1))] [.cells (cEv e),.cells [zi e.kind,zi 0,.int .u64 0,zi 0,.str [],zi e.code,zi e.aJ]]) (z4.Has [(1,.v (vP 0)),(3,.v (vP 1))] [.cells (cEv e),.cells [zi e.kind,zi 0,.int .u64 0,zi 0,.str [],zi 0,zi 0]]))))))))∧∀j0,z4.inv j0→(Bc (!(decide (e.kind=j0.wK.kind)&&(decide (e.field=j0.wK.field)&&(decide (e.bits=j0.wK.bits)&&(decide (e.len=j0.wK.len)&&(decide (e.text=j0.wK.text)&&(decide (e.code=j0.wK.code)&&decide (e.aJ=j0.wK.aJ)))))))) z5 ((Fp 44 [vI e.kind,vI 1,vI 10] [] (.v (vB z10)) [])∧Bc (!z10) z5 (Bc (decide (e.len<0)) z5 (Bc (decide (e.aJ<0)) z5 (Bc z9 ((z9=true)∧(Fp 44 z8 [] z2 [])∧Lf z2 z3 [] []) (Bc z7 ((z7=true)∧(Fp 44 z8 [] z2 [])∧Lf z2 z3 [] []) (Bc (decide (e.kind=6)) ((Fp 44 z8 [] z2 [])∧Lf z2 z3 [] []) (Bc (decide (e.kind=4)) (Lf (.v (vB (!decide (e.text=[])))) z3 [] []) (Bc (decide (e.kind=10)) (Lf (.v (vB (decide (1≤e.code)))) z3 [] []) (Lf (.v (vB true)) z3 [] [])))))))))))) Q4 ?_
 refine⟨?_,fun (j0:Dc) hq_j0=>?_⟩
 refine dsp (fun h2 p2=>?_) fun h2 p2=>?_
 exact Bm (j:=(⟨(⟨e.kind,0,0,e.len,[],0,0⟩:Ev)⟩:Dc)) rfl Q9 Q40
 refine dsp (fun h3 p3=>?_) fun h3 p3=>?_
 exact Bm (j:=(⟨(⟨e.kind,e.field,e.bits,0,[],0,0⟩:Ev)⟩:Dc)) rfl Q9 Q40
 refine dsp (fun h4 p4=>?_) fun h4 p4=>?_
 exact⟨h4,Bm (j:=(⟨(⟨e.kind,e.field,0,e.len,[],0,0⟩:Ev)⟩:Dc)) rfl Q9 Q40⟩
 refine dsp (fun h5 p5=>?_) fun h5 p5=>?_
 exact Bm (j:=(⟨(⟨e.kind,e.field,0,e.len,[],0,0⟩:Ev)⟩:Dc)) rfl Q9 Q40
 refine dsp (fun h6 p6=>?_) fun h6 p6=>?_
 exact Bm (j:=(⟨(⟨e.kind,0,0,0,e.text,0,0⟩:Ev)⟩:Dc)) rfl Q9 Q40
 refine dsp (fun h7 p7=>?_) fun h7 p7=>?_
 exact Bm (j:=(⟨(⟨e.kind,0,0,0,[],0,e.aJ⟩:Ev)⟩:Dc)) rfl Q9 Q40
 refine dsp (fun h8 p8=>?_) fun h8 p8=>?_
 exact Bm (j:=(⟨(⟨e.kind,0,0,0,[],e.code,e.aJ⟩:Ev)⟩:Dc)) rfl Q9 Q40
 exact Bm (j:=(⟨(⟨e.kind,0,0,0,[],0,0⟩:Ev)⟩:Dc)) rfl Q9 Q40
 have hi_j0:j0.wK=Ep e:=hq_j0
 refine⟨fun h2=>have q2:=An h2;have p2:=(Cy dT (Cy dT (Cy dT (Cy dT (Cy dT (Cy dT dF)))))).1 q2;?_,fun h2=>have q2:=Am h2;have p2:=(Cx dT (Cx dT (Cx dT (Cx dT (Cx dT (Cx dT dT)))))).1 q2;?_⟩
 have hib:Tc e=false:=by rw[Te hi_j0.symm];exact q2
 exact⟨(sB W21),rfl⟩
 have hib:Tc e=true:=by rw[Te hi_j0.symm];exact q2
 refine⟨(Bf _ _ _),fun h3=>have q3:=An h3;have p3:=Ay q3;?_,fun h3=>have q3:=Am h3;have p3:=Ar q3;?_⟩
 exact⟨(sB W21),rfl⟩
 refine dsp (fun h4 p4=>?_) fun h4 p4=>?_
 exact⟨(sB W21),rfl⟩
 refine dsp (fun h5 p5=>?_) fun h5 p5=>?_
 exact⟨(sB W21),rfl⟩
 refine dsp (fun h6 p6=>?_) fun h6 p6=>?_
 exact⟨h6,(Bf _ _ _),(sB W21),rfl⟩
 refine dsp (fun h7 p7=>?_) fun h7 p7=>?_
 exact⟨h7,(Bf _ _ _),(sB W21),rfl⟩
 refine dsp (fun h8 p8=>?_) fun h8 p8=>?_
 exact⟨(Bf _ _ _),(sB W21),rfl⟩
 refine dsp (fun h9 p9=>?_) fun h9 p9=>?_
 exact⟨(sB W21),rfl⟩
 refine dsp (fun h10 p10=>?_) fun h10 p10=>?_
 exact⟨(sB W21),rfl⟩
 exact⟨(sB W21),rfl⟩
theorem Aek (s:Scn):Fun Tryz.prog 172 [.agg (Lk s)] [] (.v (vB (D4 s))) []:=by
 have hN:A7=274877906944:=rfl
 refine Ap Tryz.func172 Q4 Q4 (w:=let z1:=7*s.hJ;let z2:=Ak s.hJ 0 9;(.sZ [.call [] (.v (vB z2)) []] (.br (.sZ [.as 11 (.v (vI z1)),.as 12 (.v (.c (.int .u64 z1)))] (.lJ () [])) (.lJ () [])),(Fp 97 [vI s.hJ,vI 0,vI 9] [] (.v (vB z2)) [])∧Bc z2 ((wI z1)∧(wU z1)∧((0:Int)≤7*s.hJ)∧Lf (.v (vB (decide (Int.fdiv s.bits (2 ^ min (Int.toNat z1) 64)=0)))) (.v (vB (D4 s))) [] []) (Lf (.v (vB false)) (.v (vB (D4 s))) [] []))) Q4 ?_
 refine⟨(Cj _ _ _),fun h1=>have p1:=Ar h1;?_,fun h1=>have p1:=Ay h1;?_⟩
 exact⟨(Ad Q2 Q2),(B3 Q2 Q2),Q2,(sB W22),rfl⟩
 exact⟨(sB W22),rfl⟩
theorem Vz (s:Scn):Fun Tryz.prog 189 [.agg (Lk s)] [] (.v (vB (D4 s))) []:=by
 have hN:A7=274877906944:=rfl
 refine Ap Tryz.func189 Q4 Q4 (w:=let z1:=7*s.hJ;let z2:=Ak s.hJ 0 9;(.sZ [.call [] (.v (vB z2)) []] (.br (.sZ [.as 11 (.v (vI z1)),.as 12 (.v (.c (.int .u64 z1)))] (.lJ () [])) (.lJ () [])),(Fp 44 [vI s.hJ,vI 0,vI 9] [] (.v (vB z2)) [])∧Bc z2 ((wI z1)∧(wU z1)∧((0:Int)≤7*s.hJ)∧Lf (.v (vB (decide (Int.fdiv s.bits (2 ^ min (Int.toNat z1) 64)=0)))) (.v (vB (D4 s))) [] []) (Lf (.v (vB false)) (.v (vB (D4 s))) [] []))) Q4 ?_
 refine⟨(Bf _ _ _),fun h1=>have p1:=Ar h1;?_,fun h1=>have p1:=Ay h1;?_⟩
 exact⟨(Ad Q2 Q2),(B3 Q2 Q2),Q2,(sB W22),rfl⟩
 exact⟨(sB W22),rfl⟩
theorem Rh (d:Dcd):Fun Tryz.prog 118 [.agg (Bx d)] [] (.v (vI (By d))) []:=by
 have hN:A7=274877906944:=rfl
 refine Ap Tryz.func118 Q4 Q4 (w:=let z1:=Ci d.field.kind;let z2:S:= .v (vI (A3 d.wJ));let z3:S:= .v (vI (A3 z1));let z4:S:= .v (vI (By d));(.br (.sZ [.call [] z2 []] (.lJ () [])) (.br (.sZ [.call [] (.v (vI z1)) [],.call [] z3 []] (.lJ () [])) (.lJ () [])),Bc (decide (d.mJ=5)) ((Fp 171 [vI d.wJ] [] z2 [])∧Lf z2 z4 [] []) (Bc (decide (d.mJ=8)) ((Fp 181 [vI d.field.kind] [] (.v (vI z1)) [])∧(Fp 171 [vI z1] [] z3 [])∧Lf z3 z4 [] []) (Lf (.v (vI 0)) z4 [] [])))) Q4 ?_
 refine dsp (fun h1 p1=>?_) fun h1 p1=>?_
 exact⟨(Fr _),(sI W23),rfl⟩
 refine dsp (fun h2 p2=>?_) fun h2 p2=>?_
 exact⟨(Aac _),(Fr _),(sI W23),rfl⟩
 exact⟨(sI W23),rfl⟩
theorem Ke (d:Dcd):Fun Tryz.prog 61 [.agg (Bx d)] [] (.v (vI (By d))) []:=by
 have hN:A7=274877906944:=rfl
 refine Ap Tryz.func61 Q4 Q4 (w:=let z1:=Ci d.field.kind;let z2:S:= .v (vI (A3 d.wJ));let z3:S:= .v (vI (A3 z1));let z4:S:= .v (vI (By d));(.br (.sZ [.call [] z2 []] (.lJ () [])) (.br (.sZ [.call [] (.v (vI z1)) [],.call [] z3 []] (.lJ () [])) (.lJ () [])),Bc (decide (d.mJ=5)) ((Fp 127 [vI d.wJ] [] z2 [])∧Lf z2 z4 [] []) (Bc (decide (d.mJ=8)) ((Fp 131 [vI d.field.kind] [] (.v (vI z1)) [])∧(Fp 127 [vI z1] [] z3 [])∧Lf z3 z4 [] []) (Lf (.v (vI 0)) z4 [] [])))) Q4 ?_
 refine dsp (fun h1 p1=>?_) fun h1 p1=>?_
 exact⟨(Ec _),(sI W23),rfl⟩
 refine dsp (fun h2 p2=>?_) fun h2 p2=>?_
 exact⟨(Re _),(Ec _),(sI W23),rfl⟩
 exact⟨(sI W23),rfl⟩
structure Mx where
 v:Nat
def Ks (p:Pln) (f:Fld):Fam:=⟨Mx,fun q1=>[(2,.v (vP 0)),(3,.v (vP 1)),(11,.v (vI ((List.length p.sQ:Nat):Int))),(12,.v (vI ((q1.v:Nat):Int)))],fun _=>[.cells (Mp p),.cells (Gc f)],fun q1=>q1.v≤List.length p.sQ∧Gd p.sQ f q1.v=false,fun q1=>List.length p.sQ-q1.v⟩
theorem Anr (p:Pln) (f:Fld) (hp1:List.length (p).sQ≤1000) (hp2: ∀x∈(p).sQ,x.fJ.length≤1000):Fun Tryz.prog 105 [.agg (Mp p),.agg (Gc f)] [] (.v (vB (J2 (p).sQ f))) []:=by
 have hN:A7=274877906944:=rfl
 refine Ap Tryz.func105 Q4 Q4 (w:=let z5:=((p.sQ.length:Nat):Int);let z6:=Ks p f;(.sZ [.at 0,.keep [2,3,11,12],.sel [0,1]] (.loop z6 fun q1=>let z1:=((q1.v:Nat):Int);.br (.sZ [.call [] (.tup [.agg (Gc ((fieldAt p.sQ z1 f.nJ).getD fld0)),vB (fieldAt p.sQ z1 f.nJ).isSome]) []] (.br (.br (.lJ () []) (.sZ [.as 30 (.v (vI (z1+1))),.at 0,.keep [2,3,11,12],.sel [0,1]] (.next))) (.sZ [.as 30 (.v (vI (z1+1))),.at 0,.keep [2,3,11,12],.sel [0,1]] (.next)))) (.lJ () [])),z6.Has [(2,.v (vP 0)),(3,.v (vP 1)),(11,.v (vI z5)),(12,.v (vI 0))] [.cells (Mp p),.cells (Gc f)]∧∀q1,z6.inv q1→(let z4:=((q1.v:Nat):Int);let z2:=fieldAt p.sQ z4 f.nJ;let z3:=(wI (z4+1))∧z6.Nxt q1 [(2,.v (vP 0)),(3,.v (vP 1)),(11,.v (vI z5)),(12,.v (vI (z4+1)))] [.cells (Mp p),.cells (Gc f)];Bc (decide (z4<z5)) ((Fp 165 [.agg [.seq .shp p.sQ],vI z4,vI f.nJ] [] (.tup [.agg (Gc (z2.getD fld0)),vB z2.isSome]) [])∧Bc (z2.isSome) (Bc (decide ((z2.getD fld0).nJ=f.nJ)&&(decide ((z2.getD fld0).kind=f.kind)&&(decide ((z2.getD fld0).rep=f.rep)&&(decide ((z2.getD fld0).packed=f.packed)&&decide ((z2.getD fld0).mK=f.mK))))) (Lf (.v (vB true)) (.v (vB (J2 (p).sQ f))) [] []) z3) z3) (Lf (.v (vB false)) (.v (vB (J2 (p).sQ f))) [] [])))) Q4 ?_
 refine⟨Bm (j:=(⟨0⟩:Mx)) Q9 rfl (by dsimp only[Ks];exact⟨by omega,rfl⟩),fun (q1:Mx) hq_q1=>?_⟩
 have hi_q1:q1.v≤p.sQ.length∧Gd p.sQ f q1.v=false:=hq_q1
 obtain ⟨v1,v2⟩:=hi_q1
 refine dsp (fun h1 p1=>?_) fun h1 p1=>?_
 refine⟨(Xk p.sQ _ _ Q2 Q2),fun h2=>?_,fun h2=>?_⟩
 obtain ⟨o,ho⟩:=Option.isSome_iff_exists.1 h2
 have hg:(fieldAt p.sQ (q1.v:Int) f.nJ).getD fld0=o:=by rw[ho];rfl
 refine⟨fun h3=>have p3:=(Cx dT (Cx dT (Cx dT (Cx dT dT)))).1 h3;?_,fun h3=>have p3:=(Cy dT (Cy dT (Cy dT (Cy dT dF)))).1 h3;?_⟩
 rw[hg] at p3
 have hkk:=Z4 (by omega) (show (fieldAt p.sQ (q1.v:Int) f.nJ)=some f by rw[ho,Ahk p3])
 exact⟨(sB W24),rfl⟩
 rw[hg] at p3
 have hkn:Gd p.sQ f (q1.v+1)=false:=Np v2 (by rw[ho];intro e;exact Ahm p3 (Option.some.inj e))
 exact⟨(Ad Q2 Q2),A4 (j:=(⟨q1.v+1⟩:Mx)) Q9 rfl (by dsimp only[Ks];exact⟨by omega,hkn⟩) (by dsimp only[Ks];omega)⟩
 have hkn:Gd p.sQ f (q1.v+1)=false:=Np v2 (by intro e;rw[e] at h2;simp at h2)
 exact⟨(Ad Q2 Q2),A4 (j:=(⟨q1.v+1⟩:Mx)) Q9 rfl (by dsimp only[Ks];exact⟨by omega,hkn⟩) (by dsimp only[Ks];omega)⟩
 have hkk:=Ad7 v2 (by omega)
 exact⟨(sB W24),rfl⟩
structure Hj where
 i:Nat
def F7 (d:Dcd):Fam:=⟨Hj,fun q1=>[(1,.v (vP 0)),(3,.v (vI ((q1.i:Nat):Int)))],fun _=>[.cells (Bx d)],fun q1=>q1.i≤List.length d.pJ.sQ∧Gd d.pJ.sQ d.field q1.i=false,fun q1=>List.length d.pJ.sQ-q1.i⟩
theorem Afx (d:Dcd) (hp1:List.length (d).pJ.sQ≤1000) (hp2: ∀x∈(d).pJ.sQ,x.fJ.length≤1000):Fun Tryz.prog 123 [.agg (Bx d)] [] (.v (vB (decide ((d).field=fld0)||J2 (d).pJ.sQ (d).field))) []:=by
 have hN:A7=274877906944:=rfl
 refine Ap Tryz.func123 Q4 Q4 (w:=let z6:S:= .v (vB (decide ((d).field=fld0)||J2 (d).pJ.sQ (d).field));let z7:=F7 d;(.br (.lJ () []) (.sZ [.at 0,.keep [1,3],.sel [0]] (.loop z7 fun q1=>let z2:=((q1.i:Nat):Int);let z1:=fieldAt d.pJ.sQ z2 d.field.nJ;.br (.sZ [.call [] (.tup [.agg (Gc (z1.getD fld0)),vB z1.isSome]) []] (.br (.br (.lJ () []) (.sZ [.as 18 (.v (vI (z2+1))),.at 0,.keep [1,3],.sel [0]] (.next))) (.sZ [.as 18 (.v (vI (z2+1))),.at 0,.keep [1,3],.sel [0]] (.next)))) (.lJ () []))),Bc (decide (d.field.nJ=0)&&(decide (d.field.kind=0)&&(decide (d.field.rep=false)&&(decide (d.field.packed=false)&&decide (d.field.mK=0))))) (Lf (.v (vB true)) z6 [] []) (z7.Has [(1,.v (vP 0)),(3,.v (vI 0))] [.cells (Bx d)]∧∀q1,z7.inv q1→(let z5:=((q1.i:Nat):Int);let z3:=fieldAt d.pJ.sQ z5 d.field.nJ;let z4:=(wI (z5+1))∧z7.Nxt q1 [(1,.v (vP 0)),(3,.v (vI (z5+1)))] [.cells (Bx d)];Bc (decide (z5<((d.pJ.sQ.length:Nat):Int))) ((Fp 188 [.agg [.seq .shp d.pJ.sQ],vI z5,vI d.field.nJ] [] (.tup [.agg (Gc (z3.getD fld0)),vB z3.isSome]) [])∧Bc (z3.isSome) (Bc (decide ((z3.getD fld0).nJ=d.field.nJ)&&(decide ((z3.getD fld0).kind=d.field.kind)&&(decide ((z3.getD fld0).rep=d.field.rep)&&(decide ((z3.getD fld0).packed=d.field.packed)&&decide ((z3.getD fld0).mK=d.field.mK))))) (Lf (.v (vB true)) z6 [] []) z4) z4) (Lf (.v (vB false)) z6 [] []))))) Q4 ?_
 refine⟨fun h1=>have p1:=(Cx dT (Cx dT (Cx dT (Cx dT dT)))).1 h1;?_,fun h1=>have p1:=(Cy dT (Cy dT (Cy dT (Cy dT dF)))).1 h1;?_⟩
 exact⟨(sB W25),rfl⟩
 refine⟨Bm (j:=(⟨0⟩:Hj)) Q9 rfl (by dsimp only[F7];exact⟨by omega,rfl⟩),fun (q1:Hj) hq_q1=>?_⟩
 have hi_q1:q1.i≤d.pJ.sQ.length∧Gd d.pJ.sQ d.field q1.i=false:=hq_q1
 obtain ⟨v1,v2⟩:=hi_q1
 refine dsp (fun h2 p2=>?_) fun h2 p2=>?_
 refine⟨(Xm d.pJ.sQ _ _ Q2 Q2),fun h3=>?_,fun h3=>?_⟩
 obtain ⟨o,ho⟩:=Option.isSome_iff_exists.1 h3
 have hg:(fieldAt d.pJ.sQ (q1.i:Int) d.field.nJ).getD fld0=o:=by rw[ho];rfl
 refine⟨fun h4=>have p4:=(Cx dT (Cx dT (Cx dT (Cx dT dT)))).1 h4;?_,fun h4=>have p4:=(Cy dT (Cy dT (Cy dT (Cy dT dF)))).1 h4;?_⟩
 rw[hg] at p4
 have hkk:=Z4 (by omega) (show (fieldAt d.pJ.sQ (q1.i:Int) d.field.nJ)=some d.field by rw[ho,Ahk p4])
 exact⟨(sB W25),rfl⟩
 rw[hg] at p4
 have hkn:Gd d.pJ.sQ d.field (q1.i+1)=false:=Np v2 (by rw[ho];intro e;exact Ahm p4 (Option.some.inj e))
 exact⟨(Ad Q2 Q2),A4 (j:=(⟨q1.i+1⟩:Hj)) Q9 rfl (by dsimp only[F7];exact⟨by omega,hkn⟩) (by dsimp only[F7];omega)⟩
 have hkn:Gd d.pJ.sQ d.field (q1.i+1)=false:=Np v2 (by intro e;rw[e] at h3;simp at h3)
 exact⟨(Ad Q2 Q2),A4 (j:=(⟨q1.i+1⟩:Hj)) Q9 rfl (by dsimp only[F7];exact⟨by omega,hkn⟩) (by dsimp only[F7];omega)⟩
 have hkk:=Ad7 v2 (by omega)
 exact⟨(sB W25),rfl⟩
theorem V0 {s:Scn} :s=scn0↔s.bits=0∧s.hJ=0:=⟨fun h=>by subst h;exact⟨rfl,rfl⟩,fun h=>by cases s;simp_all[scn0]⟩
theorem Da {f:Fld} :f=fld0↔f.nJ=0∧f.kind=0∧f.rep=false∧f.packed=false∧f.mK=0:=⟨fun h=>by subst h;exact⟨rfl,rfl,rfl,rfl,rfl⟩,Z5⟩
theorem Un {e:Ev} :e=ev0↔e.kind=0∧e.field=0∧e.bits=0∧e.len=0∧e.text=[]∧e.code=0∧e.aJ=0:=⟨fun h=>by subst h;exact⟨rfl,rfl,rfl,rfl,rfl,rfl,rfl⟩,fun h=>Aow h⟩
theorem Kf (d:Dcd):0≤By d∧By d≤8:=by
 unfold By
 have h1:=En d.wJ
 have h2:=En (Ci d.field.kind)
 split
 ·exact h1
 ·split
  ·exact h2
  ·omega
structure Nv where
 i:Nat
def Nw (d:Dcd):Fam:=⟨Nv,fun q1=>[(1,.v (vP 0)),(3,.v (vI ((List.length d.sJ:Nat):Int))),(4,.v (vI ((q1.i:Nat):Int)))],fun _=>[.cells (Bx d)],fun q1=>q1.i≤List.length d.sJ∧Yg (List.length d.pJ.sQ:Int) (List.drop q1.i d.sJ)+q1.i=Yg (List.length d.pJ.sQ:Int) d.sJ,fun q1=>List.length d.sJ-q1.i⟩
theorem Akc (d:Dcd) (hp1:List.length (d).sJ≤A7) (hp2:List.length (d).pJ.sQ≤1000):Fun Tryz.prog 124 [.agg (Bx d)] [] (.v (vB (R5 d))) []:=by
 have hN:A7=274877906944:=rfl
 refine Ap Tryz.func124 Q4 Q4 (w:=let z7:=((d.pJ.sQ.length:Nat):Int)-1;let z8:=((d.sJ.length:Nat):Int);let z9:S:= .v (vB (R5 d));let z10:=Ak z8 1 d.pJ.dJ;let z11:=Nw d;(.sZ [.at 0,.keep [1,3,4],.sel [0]] (.loop z11 fun q1=> .br (.intro (Sx (d.sJ[q1.i]?)) fun x1=>let z1:=Ak x1.mK 0 z7;.case (!z1) (.sZ [.ord (os 24 [12,21]) [],.el .lev x1,.as 24 (.v (vI z7)),.call [] (.v (vB z1)) [],.br true] (.lJ () [])) (.sZ [.ord (os 24 [12,21]) [],.el .lev x1,.as 24 (.v (vI z7)),.call [] (.v (vB z1)) [],.br false,.el .lev x1,.call [] (.v (vB (Ak x1.left 0 2000))) []] (.br (.lJ () []) (.sZ [.as 12 (.v (vI (((q1.i:Nat):Int)+1))),.at 0,.keep [1,3,4],.sel [0]] (.next))))) (.br (.lJ () []) (.br (.lJ () []) (.sZ [.call [] (.v (vB z10)) []] (.br (.sZ [.call [] (.v (vI (Eb d))) []] (.lJ () [])) (.lJ () [])))))),z11.Has [(1,.v (vP 0)),(3,.v (vI z8)),(4,.v (vI 0))] [.cells (Bx d)]∧∀q1,z11.inv q1→(let z6:=((q1.i:Nat):Int);let z5:=(0:Int)≤z6;Bc (decide (z6<z8)) (El (d.sJ[q1.i]?) fun x1=>(let z2:=Ak x1.mK 0 z7;let z3:=d.sJ[q1.i]? =some x1;let z4:List V:=[vI x1.mK,vI 0,vI z7];Bc (!z2) (z3∧z5∧z3∧z5∧(wI z7)∧(wI z7)∧(Fp 44 z4 [] (.v (vB z2)) [])∧((!z2)=true)∧Lf (.v (vB false)) z9 [] []) (z3∧z5∧z3∧z5∧(wI z7)∧(wI z7)∧(Fp 44 z4 [] (.v (vB z2)) [])∧((!z2)=false)∧z3∧z5∧z3∧z5∧(Fp 44 [vI x1.left,vI 0,vI 2000] [] (.v (vB (Ak x1.left 0 2000))) [])∧Bc (!(Ak x1.left 0 2000)) (Lf (.v (vB false)) z9 [] []) ((wI (z6+1))∧z11.Nxt q1 [(1,.v (vP 0)),(3,.v (vI z8)),(4,.v (vI (z6+1)))] [.cells (Bx d)])))) (Bc (decide (d.mJ=1)) (Lf (.v (vB (decide (z8=0)))) z9 [] []) (Bc (decide (d.mJ=9)) (Lf (.v (vB (decide (z8≤d.pJ.dJ)))) z9 [] []) ((Fp 44 [vI z8,vI 1,vI d.pJ.dJ] [] (.v (vB z10)) [])∧Bc z10 ((Fp 126 [.agg (Bx d)] [] (.v (vI (Eb d))) [])∧Lf (.v (vB (decide (1≤Eb d)))) z9 [] []) (Lf (.v (vB false)) z9 [] []))))))) Q4 ?_
 refine⟨Bm (j:=(⟨0⟩:Nv)) Q9 rfl (by dsimp only[Nw];exact⟨by omega,rfl⟩),fun (q1:Nv) hq_q1=>?_⟩
 have hi_q1:q1.i≤d.sJ.length∧Yg (d.pJ.sQ.length:Int) (List.drop q1.i d.sJ)+q1.i=Yg (d.pJ.sQ.length:Int) d.sJ:=hq_q1
 obtain ⟨v1,v2⟩:=hi_q1
 refine dsp (fun h1 p1=>?_) fun h1 p1=>?_
 refine⟨(Bo (l:=d.sJ) (i:=q1.i) Q2),fun x1 hx1=>?_⟩
 rw[Do hx1,Tb] at v2
 refine⟨fun h2=>have q2:=An h2;have p2:=Ay q2;?_,fun h2=>have q2:=Am h2;have p2:=Ar q2;?_⟩
 exact⟨hx1,Q2,hx1,Q2,(Ad Q2 Q2),(Ad Q2 Q2),(Bf _ _ _),h2,(sB W26),rfl⟩
 refine⟨hx1,Q2,hx1,Q2,(Ad Q2 Q2),(Ad Q2 Q2),(Bf _ _ _),h2,hx1,Q2,hx1,Q2,(Bf _ _ _),fun h3=>have q3:=An h3;have p3:=Ay q3;?_,fun h3=>have q3:=Am h3;have p3:=Ar q3;?_⟩
 exact⟨(sB W26),rfl⟩
 exact⟨(Ad Q2 Q2),A4 (j:=(⟨q1.i+1⟩:Nv)) Q9 rfl (by dsimp only[Nw];exact⟨by omega,by simp_all[Fm];omega⟩) (by dsimp only[Nw];omega)⟩
 have hal:List.all d.sJ (Fm (d.pJ.sQ.length:Int))=true:=by rw[No];rw[List.drop_eq_nil_of_le (by omega)] at v2;simp only[Yg] at v2;exact decide_eq_true (by omega)
 refine dsp (fun h2 p2=>?_) fun h2 p2=>?_
 exact⟨(sB W26),rfl⟩
 refine dsp (fun h3 p3=>?_) fun h3 p3=>?_
 exact⟨(sB W26),rfl⟩
 refine⟨(Bf _ _ _),fun h4=>have p4:=Ar h4;?_,fun h4=>have p4:=Ay h4;?_⟩
 exact⟨(Pu d Q2),(sB W26),rfl⟩
 exact⟨(sB W26),rfl⟩
theorem Qj (d:Dcd) (hp1:List.length (d).sJ≤A7):Fun Tryz.prog 130 [.agg (Bx d)] [] (.v (vB (Ac2 d))) []:=by
 have hN:A7=274877906944:=rfl
 have hwd:=Kf d
 refine Ap Tryz.func130 Q4 Q4 (w:=let z3:S:= .v (vB (Ac2 d));let z4:S:= .v (vB (D4 d.sK));let z5:=8*d.sK.hJ;let z7:S:= .v (vB (decide (d.sK.bits=0)&&decide (d.sK.hJ=0)));let z8:=Lf (.v (vB false)) z3 [] [];let z10:=decide (d.mJ=8);let z11:=By d-1;let z2:=Ak d.sK.hJ 0 z11;let z12:S:= .v (vI (Eb d));let z13:=decide (Int.fdiv d.sK.bits (2 ^ min (Int.toNat z5) 64)=0);let z14:List V:=[vI d.sK.hJ,vI 0,vI z11];let z15:S:= .v (vB z2);let z16:S:= .v (.c (.int .u64 z5));let z17:=By d;let z6:=(.v (vI (IntKind.i64.wrap (z17-1))):S)= .v (vI z11);let z9:=z17-d.sK.hJ;let z1:=(wI z5)∧(wU z5)∧((0:Int)≤8*d.sK.hJ)∧Bc z13 ((wI z9)∧Lf (.v (vB (decide (z17-d.sK.hJ≤d.wK)))) z3 [] []) z8;(.sZ [.call [] (.v (vI z17)) []] (.br (.sZ [.br true] (.lJ () [])) (.br (.sZ [.br true] (.lJ () [])) (.br (.lJ () []) (.br (.sZ [.br true] (.br (.br (.sZ [.call [] z4 []] (.lJ () [])) (.sZ [.call [] z12 [],.br true,.as 41 (.v (vI z11)),.call [] z15 []] (.br (.sZ [.as 50 (.v (vI z5)),.as 51 z16] (.br (.sZ [.as 60 (.v (vI z9))] (.lJ () [])) (.lJ () []))) (.lJ () [])))) (.sZ [.call [] z12 [],.br false,.as 41 (.v (vI z11)),.call [] z15 []] (.br (.sZ [.as 50 (.v (vI z5)),.as 51 z16] (.br (.sZ [.as 60 (.v (vI z9))] (.lJ () [])) (.lJ () []))) (.lJ () []))))) (.br (.sZ [.br true] (.br (.sZ [.call [] z4 []] (.lJ () [])) (.sZ [.call [] z12 [],.br true,.as 41 (.v (vI z11)),.call [] z15 []] (.br (.sZ [.as 50 (.v (vI z5)),.as 51 z16] (.br (.sZ [.as 60 (.v (vI z9))] (.lJ () [])) (.lJ () []))) (.lJ () []))))) (.sZ [.call [] z4 []] (.lJ () []))))))),(Fp 61 [.agg (Bx d)] [] (.v (vI z17)) [])∧Bc (decide (d.mJ=6)) (((decide (d.mJ=6))=true)∧Lf z7 z3 [] []) (Bc (decide (d.mJ=7)) (((decide (d.mJ=7))=true)∧Lf z7 z3 [] []) (Bc (decide (d.mJ=9)) (Lf z7 z3 [] []) (Bc (decide (d.mJ=5)) (((decide (d.mJ=5))=true)∧Bc z10 (Bc (decide (By d=0)) ((Fp 189 [.agg (Lk d.sK)] [] z4 [])∧Lf z4 z3 [] []) ((Fp 126 [.agg (Bx d)] [] z12 [])∧(z10=true)∧z6∧(Fp 44 z14 [] z15 [])∧Bc z2 z1 z8)) ((Fp 126 [.agg (Bx d)] [] z12 [])∧(z10=false)∧z6∧(Fp 44 z14 [] z15 [])∧Bc z2 ((wI z5)∧(wU z5)∧((0:Int)≤8*d.sK.hJ)∧Bc z13 ((wI z9)∧Lf (.v (vB (decide (z17-d.sK.hJ≤Eb d)))) z3 [] []) z8) z8)) (Bc z10 ((z10=true)∧Bc (decide (By d=0)) ((Fp 189 [.agg (Lk d.sK)] [] z4 [])∧Lf z4 z3 [] []) ((Fp 126 [.agg (Bx d)] [] z12 [])∧(z10=true)∧z6∧(Fp 44 z14 [] z15 [])∧Bc z2 z1 z8)) ((Fp 189 [.agg (Lk d.sK)] [] z4 [])∧Lf z4 z3 [] []))))))) Q4 ?_
 refine⟨(Ke d),dsp (fun h1 p1=>?_) fun h1 p1=>?_⟩
 exact⟨h1,(sB W27),rfl⟩
 refine dsp (fun h2 p2=>?_) fun h2 p2=>?_
 exact⟨h2,(sB W27),rfl⟩
 refine dsp (fun h3 p3=>?_) fun h3 p3=>?_
 exact⟨(sB W27),rfl⟩
 refine dsp (fun h4 p4=>?_) fun h4 p4=>?_
 refine⟨h4,dsp (fun h5 p5=>?_) fun h5 p5=>?_⟩
 refine dsp (fun h6 p6=>?_) fun h6 p6=>?_
 exact⟨(Vz d.sK),(sB W27),rfl⟩
 refine⟨(Pu d Q2),h5,(Ad Q2 Q2),(Bf _ _ _),fun h7=>have p7:=Ar h7;?_,fun h7=>have p7:=Ay h7;?_⟩
 refine⟨(Ad Q2 Q2),(B3 Q2 Q2),Q2,dsp (fun h8 p8=>?_) fun h8 p8=>?_⟩
 exact⟨(Ad Q2 Q2),(sB W27),rfl⟩
 exact⟨(sB W27),rfl⟩
 exact⟨(sB W27),rfl⟩
 refine⟨(Pu d Q2),h5,(Ad Q2 Q2),(Bf _ _ _),fun h6=>have p6:=Ar h6;?_,fun h6=>have p6:=Ay h6;?_⟩
 refine⟨(Ad Q2 Q2),(B3 Q2 Q2),Q2,dsp (fun h7 p7=>?_) fun h7 p7=>?_⟩
 exact⟨(Ad Q2 Q2),(sB W27),rfl⟩
 exact⟨(sB W27),rfl⟩
 exact⟨(sB W27),rfl⟩
 refine dsp (fun h5 p5=>?_) fun h5 p5=>?_
 refine⟨h5,dsp (fun h6 p6=>?_) fun h6 p6=>?_⟩
 exact⟨(Vz d.sK),(sB W27),rfl⟩
 refine⟨(Pu d Q2),h5,(Ad Q2 Q2),(Bf _ _ _),fun h7=>have p7:=Ar h7;?_,fun h7=>have p7:=Ay h7;?_⟩
 refine⟨(Ad Q2 Q2),(B3 Q2 Q2),Q2,dsp (fun h8 p8=>?_) fun h8 p8=>?_⟩
 exact⟨(Ad Q2 Q2),(sB W27),rfl⟩
 exact⟨(sB W27),rfl⟩
 exact⟨(sB W27),rfl⟩
 exact⟨(Vz d.sK),(sB W27),rfl⟩
theorem C3 (d:Dcd) (hp1:List.length (d).sJ≤A7):Fun Tryz.prog 110 [.agg (Bx d)] [] (.v (vB (J9 d))) []:=by
 have hN:A7=274877906944:=rfl
 have hwd:=Kf d
 refine Ap Tryz.func110 Q4 Q4 (w:=let z3:=8*d.sK.hJ;let z7:S:= .v (vB (J9 d));let z1:=Lf (.v (vB (decide (d.sK.bits=0)&&decide (d.sK.hJ=0)))) z7 [] [];let z4:=Lf (.v (vB false)) z7 [] [];let z8:=decide (Int.fdiv d.sK.bits (2 ^ min (Int.toNat z3) 64)=0);let z9:=By d-1;let z2:=Ak d.sK.hJ 0 z9;let z10:S:= .v (vB (D4 d.sK));let z11:=By d;let z5:=(.v (vI (IntKind.i64.wrap (z11-1))):S)= .v (vI z9);let z6:=z11-d.sK.hJ;(.sZ [.call [] (.v (vI z11)) []] (.br (.sZ [.call [] (.v (vI (Eb d))) []] (.br (.sZ [.as 21 (.v (vI z9)),.call [] (.v (vB z2)) []] (.br (.sZ [.as 30 (.v (vI z3)),.as 31 (.v (.c (.int .u64 z3)))] (.br (.sZ [.as 40 (.v (vI z6))] (.lJ () [])) (.lJ () []))) (.lJ () []))) (.sZ [.as 21 (.v (vI z9)),.call [] (.v (vB z2)) []] (.br (.sZ [.as 30 (.v (vI z3)),.as 31 (.v (.c (.int .u64 z3)))] (.br (.sZ [.as 40 (.v (vI z6))] (.lJ () [])) (.lJ () []))) (.lJ () []))))) (.br (.lJ () []) (.br (.lJ () []) (.br (.lJ () []) (.sZ [.call [] z10 []] (.lJ () [])))))),(Fp 118 [.agg (Bx d)] [] (.v (vI z11)) [])∧Bc (decide (0<By d)) ((Fp 108 [.agg (Bx d)] [] (.v (vI (Eb d))) [])∧Bc (decide (d.mJ=8)) (z5∧(Fp 97 [vI d.sK.hJ,vI 0,vI z9] [] (.v (vB z2)) [])∧Bc z2 ((wI z3)∧(wU z3)∧((0:Int)≤8*d.sK.hJ)∧Bc z8 ((wI z6)∧Lf (.v (vB (decide (z11-d.sK.hJ≤d.wK)))) z7 [] []) z4) z4) (z5∧(Fp 97 [vI d.sK.hJ,vI 0,vI z9] [] (.v (vB z2)) [])∧Bc z2 ((wI z3)∧(wU z3)∧((0:Int)≤8*d.sK.hJ)∧Bc z8 ((wI z6)∧Lf (.v (vB (decide (z11-d.sK.hJ≤Eb d)))) z7 [] []) z4) z4)) (Bc (decide (d.mJ=6)) z1 (Bc (decide (d.mJ=7)) z1 (Bc (decide (d.mJ=9)) z1 ((Fp 172 [.agg (Lk d.sK)] [] z10 [])∧Lf z10 z7 [] [])))))) Q4 ?_
 refine⟨(Rh d),dsp (fun h1 p1=>?_) fun h1 p1=>?_⟩
 refine⟨(Eg d Q2),dsp (fun h2 p2=>?_) fun h2 p2=>?_⟩
 refine⟨(Ad Q2 Q2),(Cj _ _ _),fun h3=>have p3:=Ar h3;?_,fun h3=>have p3:=Ay h3;?_⟩
 refine⟨(Ad Q2 Q2),(B3 Q2 Q2),Q2,dsp (fun h4 p4=>?_) fun h4 p4=>?_⟩
 exact⟨(Ad Q2 Q2),(sB W28),rfl⟩
 exact⟨(sB W28),rfl⟩
 exact⟨(sB W28),rfl⟩
 refine⟨(Ad Q2 Q2),(Cj _ _ _),fun h3=>have p3:=Ar h3;?_,fun h3=>have p3:=Ay h3;?_⟩
 refine⟨(Ad Q2 Q2),(B3 Q2 Q2),Q2,dsp (fun h4 p4=>?_) fun h4 p4=>?_⟩
 exact⟨(Ad Q2 Q2),(sB W28),rfl⟩
 exact⟨(sB W28),rfl⟩
 exact⟨(sB W28),rfl⟩
 refine dsp (fun h2 p2=>?_) fun h2 p2=>?_
 exact⟨(sB W28),rfl⟩
 refine dsp (fun h3 p3=>?_) fun h3 p3=>?_
 exact⟨(sB W28),rfl⟩
 refine dsp (fun h4 p4=>?_) fun h4 p4=>?_
 exact⟨(sB W28),rfl⟩
 exact⟨(Aek d.sK),(sB W28),rfl⟩
theorem C4 (d:Dcd) (hp1:List.length (d).sJ≤A7):Fun Tryz.prog 109 [.agg (Bx d)] [] (.v (vB (Jn d&&Jo d))) []:=by
 have hN:A7=274877906944:=rfl
 have hww:A3 d.wJ=0∨0≤d.wJ:=by unfold A3;split<;>(try split)<;>omega
 refine Ap Tryz.func109 Q4 Q4 (w:=let z1:= !(!(decide (d.field.nJ=0)&&(decide (d.field.kind=0)&&(decide (d.field.rep=false)&&(decide (d.field.packed=false)&&decide (d.field.mK=0))))));let z2:S:= .v (vB (Jn d&&Jo d));let z3:S:= .v (vB (Dx d.field d.wJ));let z4:=Lf (.v (vB false)) z2 [] [];let z5:=Lf (.v (vB true)) z2 [] [];let z6:=Ak d.wK 1 (Eb d);let z7:S:= .v (vB (U5 d.field));let z8:=decide (d.mJ=6);let z9:=Gc d.field;let z10:S:= .v (vI (Eb d));let z11:S:= .v (vI (A3 d.wJ));let z12:=decide (d.mJ=8);let z13:List V:=[vI d.wK,vI 1,vI (Eb d)];let z14:S:= .v (vB z6);(.br (.sZ [.br true,.ord (os 6 [3,4]) [],.call [] z10 [],.call [] z14 []] (.br (.lJ () []) (.sZ [.br true] (.br (.lJ () []) (.lJ () []))))) (.br (.sZ [.br true,.ord (os 6 [3,4]) [],.call [] z10 [],.call [] z14 []] (.br (.lJ () []) (.sZ [.br false] (.br (.sZ [.call [] z7 []] (.lJ () [])) (.br (.br (.br (.lJ () []) (.sZ [.call [] z3 []] (.lJ () []))) (.lJ () [])) (.br (.br (.br (.lJ () []) (.sZ [.call [] z3 []] (.lJ () []))) (.lJ () [])) (.br (.sZ [.call [] z11 []] (.br (.br (.lJ () []) (.sZ [.call [] z3 []] (.lJ () []))) (.lJ () []))) (.lJ () [])))))))) (.br (.sZ [.ord (os 6 [3,4]) [],.call [] z10 [],.call [] z14 []] (.br (.lJ () []) (.sZ [.br false,.br true,.call [] z7 []] (.lJ () [])))) (.br (.lJ () []) (.sZ [.br false,.br false] (.br (.br (.br (.lJ () []) (.sZ [.call [] z3 []] (.lJ () []))) (.lJ () [])) (.br (.br (.br (.lJ () []) (.sZ [.call [] z3 []] (.lJ () []))) (.lJ () [])) (.br (.sZ [.call [] z11 []] (.br (.br (.lJ () []) (.sZ [.call [] z3 []] (.lJ () []))) (.lJ () []))) (.lJ () [])))))))),Bc z8 ((z8=true)∧(Fp 108 [.agg (Bx d)] [] z10 [])∧(Fp 97 z13 [] z14 [])∧Bc (!z6) z4 ((z8=true)∧Bc (decide (d.field.kind=6)) z5 (Lf (.v (vB (decide (d.field.kind=7)))) z2 [] []))) (Bc (decide (d.mJ=7)) (((decide (d.mJ=7))=true)∧(Fp 108 [.agg (Bx d)] [] z10 [])∧(Fp 97 z13 [] z14 [])∧Bc (!z6) z4 ((z8=false)∧Bc z12 ((Fp 169 [.agg z9] [] z7 [])∧Lf z7 z2 [] []) (Bc (decide (d.mJ=3)) (Bc (decide (d.wJ=0)) (Bc z1 z5 ((Fp 170 [.agg z9,vI d.wJ] [] z3 [])∧Lf z3 z2 [] [])) z4) (Bc (decide (d.mJ=4)) (Bc (decide (d.wJ=2)) (Bc z1 z5 ((Fp 170 [.agg z9,vI d.wJ] [] z3 [])∧Lf z3 z2 [] [])) z4) (Bc (decide (d.mJ=5)) ((Fp 171 [vI d.wJ] [] z11 [])∧Bc (decide (0<A3 d.wJ)) (Bc z1 z5 ((Fp 170 [.agg z9,vI d.wJ] [] z3 [])∧Lf z3 z2 [] [])) z4) z5))))) (Bc z12 ((Fp 108 [.agg (Bx d)] [] z10 [])∧(Fp 97 z13 [] z14 [])∧Bc (!z6) z4 ((z8=false)∧(z12=true)∧(Fp 169 [.agg z9] [] z7 [])∧Lf z7 z2 [] [])) (Bc (!decide (d.wK=0)) z4 ((z8=false)∧(z12=false)∧Bc (decide (d.mJ=3)) (Bc (decide (d.wJ=0)) (Bc z1 z5 ((Fp 170 [.agg z9,vI d.wJ] [] z3 [])∧Lf z3 z2 [] [])) z4) (Bc (decide (d.mJ=4)) (Bc (decide (d.wJ=2)) (Bc z1 z5 ((Fp 170 [.agg z9,vI d.wJ] [] z3 [])∧Lf z3 z2 [] [])) z4) (Bc (decide (d.mJ=5)) ((Fp 171 [vI d.wJ] [] z11 [])∧Bc (decide (0<A3 d.wJ)) (Bc z1 z5 ((Fp 170 [.agg z9,vI d.wJ] [] z3 [])∧Lf z3 z2 [] [])) z4) z5)))))))) Q4 ?_
 refine dsp (fun h1 p1=>?_) fun h1 p1=>?_
 refine⟨h1,(Eg d Q2),(Cj _ _ _),fun h2=>have q2:=An h2;have p2:=Ay q2;?_,fun h2=>have q2:=Am h2;have p2:=Ar q2;?_⟩
 exact⟨(sB W29),rfl⟩
 refine⟨h1,dsp (fun h3 p3=>?_) fun h3 p3=>?_⟩
 exact⟨(sB W29),rfl⟩
 exact⟨(sB W29),rfl⟩
 refine dsp (fun h2 p2=>?_) fun h2 p2=>?_
 refine⟨h2,(Eg d Q2),(Cj _ _ _),fun h3=>have q3:=An h3;have p3:=Ay q3;?_,fun h3=>have q3:=Am h3;have p3:=Ar q3;?_⟩
 exact⟨(sB W29),rfl⟩
 refine⟨h1,dsp (fun h4 p4=>?_) fun h4 p4=>?_⟩
 exact⟨(Aht d.field),(sB W29),rfl⟩
 refine dsp (fun h5 p5=>?_) fun h5 p5=>?_
 refine dsp (fun h6 p6=>?_) fun h6 p6=>?_
 refine⟨fun h7=>have q7:=An h7;have q7':=Am q7;have p7:=(Cx dT (Cx dT (Cx dT (Cx dT dT)))).1 q7';?_,fun h7=>have q7:=Am h7;have q7':=An q7;have p7:=(Cy dT (Cy dT (Cy dT (Cy dT dF)))).1 q7';?_⟩
 exact⟨(sB W29),rfl⟩
 exact⟨(K9 d.field _ Q2),(sB W29),rfl⟩
 exact⟨(sB W29),rfl⟩
 refine dsp (fun h6 p6=>?_) fun h6 p6=>?_
 refine dsp (fun h7 p7=>?_) fun h7 p7=>?_
 refine⟨fun h8=>have q8:=An h8;have q8':=Am q8;have p8:=(Cx dT (Cx dT (Cx dT (Cx dT dT)))).1 q8';?_,fun h8=>have q8:=Am h8;have q8':=An q8;have p8:=(Cy dT (Cy dT (Cy dT (Cy dT dF)))).1 q8';?_⟩
 exact⟨(sB W29),rfl⟩
 exact⟨(K9 d.field _ Q2),(sB W29),rfl⟩
 exact⟨(sB W29),rfl⟩
 refine dsp (fun h7 p7=>?_) fun h7 p7=>?_
 refine⟨(Fr _),dsp (fun h8 p8=>?_) fun h8 p8=>?_⟩
 refine⟨fun h9=>have q9:=An h9;have q9':=Am q9;have p9:=(Cx dT (Cx dT (Cx dT (Cx dT dT)))).1 q9';?_,fun h9=>have q9:=Am h9;have q9':=An q9;have p9:=(Cy dT (Cy dT (Cy dT (Cy dT dF)))).1 q9';?_⟩
 exact⟨(sB W29),rfl⟩
 exact⟨(K9 d.field _ Q2),(sB W29),rfl⟩
 exact⟨(sB W29),rfl⟩
 exact⟨(sB W29),rfl⟩
 refine dsp (fun h3 p3=>?_) fun h3 p3=>?_
 refine⟨(Eg d Q2),(Cj _ _ _),fun h4=>have q4:=An h4;have p4:=Ay q4;?_,fun h4=>have q4:=Am h4;have p4:=Ar q4;?_⟩
 exact⟨(sB W29),rfl⟩
 exact⟨h1,h3,(Aht d.field),(sB W29),rfl⟩
 refine⟨fun h4=>have q4:=An h4;have p4:=of_decide_eq_false q4;?_,fun h4=>have q4:=Am h4;have p4:=of_decide_eq_true q4;?_⟩
 exact⟨(sB W29),rfl⟩
 refine⟨h1,h3,dsp (fun h5 p5=>?_) fun h5 p5=>?_⟩
 refine dsp (fun h6 p6=>?_) fun h6 p6=>?_
 refine⟨fun h7=>have q7:=An h7;have q7':=Am q7;have p7:=(Cx dT (Cx dT (Cx dT (Cx dT dT)))).1 q7';?_,fun h7=>have q7:=Am h7;have q7':=An q7;have p7:=(Cy dT (Cy dT (Cy dT (Cy dT dF)))).1 q7';?_⟩
 exact⟨(sB W29),rfl⟩
 exact⟨(K9 d.field _ Q2),(sB W29),rfl⟩
 exact⟨(sB W29),rfl⟩
 refine dsp (fun h6 p6=>?_) fun h6 p6=>?_
 refine dsp (fun h7 p7=>?_) fun h7 p7=>?_
 refine⟨fun h8=>have q8:=An h8;have q8':=Am q8;have p8:=(Cx dT (Cx dT (Cx dT (Cx dT dT)))).1 q8';?_,fun h8=>have q8:=Am h8;have q8':=An q8;have p8:=(Cy dT (Cy dT (Cy dT (Cy dT dF)))).1 q8';?_⟩
 exact⟨(sB W29),rfl⟩
 exact⟨(K9 d.field _ Q2),(sB W29),rfl⟩
 exact⟨(sB W29),rfl⟩
 refine dsp (fun h7 p7=>?_) fun h7 p7=>?_
 refine⟨(Fr _),dsp (fun h8 p8=>?_) fun h8 p8=>?_⟩
 refine⟨fun h9=>have q9:=An h9;have q9':=Am q9;have p9:=(Cx dT (Cx dT (Cx dT (Cx dT dT)))).1 q9';?_,fun h9=>have q9:=Am h9;have q9':=An q9;have p9:=(Cy dT (Cy dT (Cy dT (Cy dT dF)))).1 q9';?_⟩
 exact⟨(sB W29),rfl⟩
 exact⟨(K9 d.field _ Q2),(sB W29),rfl⟩
 exact⟨(sB W29),rfl⟩
 exact⟨(sB W29),rfl⟩
end Go.Proofs.YtphecbmdhbphgaaGreat.Ax
