/- The Ajf as a function: slices given away, what is known in other words, lists of operations. A region that draws its order, walked in ONE order: operations that yield one value in every world of a class are taken first; an operation that changes the world is met where nothing else may come up. A region that draws its order whose last operation may turn what the operations C8 of it read. The Ajf as a function: regions, plain ones and ones that draw their order. The Ajf as a function: a region that draws its order. What is known of memory, said in another way: published, made, cut; slots forgotten. A region that draws its order, walked in a tree of orders. -/
import Derived.Test.YtphecbmdhbphgaaGreatKB2
import Derived.ProofKit
import Derived.Deep.Quiet
import Derived.OrdersHeld
import Derived.Deep.RegionHeld3
import Derived.Test.YtphecbmdhbphgaaGreatKB1
set_option linter.unusedSimpArgs false
set_option linter.unusedVariables false
namespace Go.Proofs.YtphecbmdhbphgaaGreat.Ax
open Go.RowKit
def Ar0 (H:List Blk):Dir→C→Option (C×List Blk)
 | .pub _ _,.own k=>match H[k]? with
  |some (.lst t l)=>some (.seq t l,H.set k .dK)
  |some (.tree l)=>some (.seq .shp l,H.set k .dK)
  |_=>none
 | .pubS _,.own k=>match H[k]? with
  |some (.lst t l)=>some (.seq t l,H.set k .dK)
  |some (.tree l)=>some (.seq .shp l,H.set k .dK)
  |_=>none
 | .mkT _ _,.nil=>some (.own H.length,H++[.tree []])
 | .mkTS _,.nil=>some (.own H.length,H++[.tree []])
 | .mk _ _ t,.nil=>some (.own H.length,H++[.lst t []])
 | .mkS _ t,.nil=>some (.own H.length,H++[.lst t []])
 | .cut _ _,.sub k 0 len=>match H[k]? with
  |some (.lst t l)=>some (.own H.length,H.set k .dK++[.lst t (l.take len)])
  |_=>none
 | .cutS _,.sub k 0 len=>match H[k]? with
  |some (.lst t l)=>some (.own H.length,H.set k .dK++[.lst t (l.take len)])
  |_=>none
 | .cut _ _,.own k=>match H[k]? with
  |some (.lst t l)=>some (.own H.length,H.set k .dK++[.lst t l])
  |some (.tree l)=>some (.own H.length,H.set k .dK++[.tree l])
  |_=>none
 | .cutS _,.own k=>match H[k]? with
  |some (.lst t l)=>some (.own H.length,H.set k .dK++[.lst t l])
  |some (.tree l)=>some (.own H.length,H.set k .dK++[.tree l])
  |_=>none
 |_,_=>none
def Aed (H:List Blk) (d:Dir) (j i:Nat):Option (List Blk):=match H[j]? with
 |some (.cells cs)=>match cs[i]? with
  |some c=>match Ar0 H d c with
   |some (c',H1)=>match H1[j]? with
    |some (.cells _)=>some (H1.set j (.cells (cs.set i c')))
    |_=>none
   |none=>none
  |none=>none
 |_=>none
def Abf (tm:List (Nat×S)) (H:List Blk) (d:Dir) (t:Nat):Option (List (Nat×S)×List Blk):=match Qz tm t with
 |some (.v (.c c))=>match Ar0 H d c with
  |some (c',H1)=>some ((t,V1 c')::tm,H1)
  |none=>none
 |some (.v (.agg cs))=>match d with
  | .inA _ i d=>match cs[i]? with
   |some c=>match Ar0 H d c with
    |some (c',H1)=>some ((t,.v (.agg (cs.set i c')))::tm,H1)
    |none=>none
   |none=>none
  |_=>none
 |_=>none
def Anb (x:X):X:=match x.ds with
 | .as t s::ds=>match Qz x.tm t with
  |some s0=>⟨ds,(t,s)::x.tm,x.hp,(s0=s)::x.ob⟩
  |none=>x
 | .pubS t::ds=>match Abf x.tm x.hp (.pubS t) t with
  |some (tm',H')=>⟨ds,tm',H',x.ob⟩
  |none=>x
 | .asB j b::ds=>⟨ds,x.tm,x.hp.set j b,(x.hp[j]? =some b)::x.ob⟩
 |_=>x
def xas (x:X):X:=Anb (Anb x)
def Gz (H:List Blk) (j:Nat) (l:List Shp) (e:Shp):List Blk:=H.set j (.ghost l.length)++[.lst .fld e.fJ]
def He (H2:List Blk) (j N:Nat) (l:List Shp):List Blk:=(H2.set j (.tree l)).set N .dK
def Abg (x:X) (o:Oper):Option (Shp×List Dir×TypeId×Nat×Nat×Nat×List Shp):=match x.ds with
 | .focus:: .el .shp e::ds=>match o.op,o.guard with
  | .load ty p,none=>match ev x.tm p with
   |some (.v (.c (.eptr j i c)))=>match x.hp[j]? with
    |some (.tree l)=>some (e,ds,ty,j,i,c,l)
    |_=>none
   |_=>none
  |_,_=>none
 |_=>none
theorem Acx {x:X} {o:Oper} {e:Shp} {ds:List Dir} {ty:TypeId} {j i c:Nat} {l:List Shp} (h:Abg x o=some (e,ds,ty,j,i,c,l)):
  ∃p,o.op= .load ty p∧o.guard=none∧ev x.tm p=some (.v (.c (.eptr j i c)))∧x.hp[j]? =some (.tree l):=by
 unfold Abg at h
 split at h
 ·split at h
  ·rename_i h1 h2
   split at h
   ·rename_i h3
    split at h
    ·rename_i h4
     cases h
     exact⟨_,h1,h2,h3,h4⟩
    ·cases h
   ·cases h
  ·cases h
 ·cases h
def Anc (P:Program) (n:Nat) (ops:Array Oper):List Oper→X→Option X
 |[],x=>some x
 |o::r,x=>match Abg x o with
  |some (e,ds,ty,j,i,c,l)=>match Nat.beq c 1,Su P ty [.own x.hp.length] 0,Acv n x.tm o.dst (V1 (.own x.hp.length)) with
   |true,some (.c (.own _)),some tm'=>match Anc P n ops r ⟨ds,tm',Gz x.hp j l e,(l[i]? =some e)::x.ob⟩ with
    |some y=>match y.hp[j]?,y.hp[x.hp.length]? with
     |some (.ghost _),some (.lst .fld fs)=>some ⟨y.ds,y.tm,He y.hp j x.hp.length (l.set i ⟨e.id,fs⟩),y.ob⟩
     |_,_=>none
    |none=>none
   |_,_,_=>none
  |none=>match xop P n ops o x with
   |some y=>Anc P n ops r (xas y)
   |none=>none
section
variable {H H1:List Blk} {π:Nat→Pl} {R:Nat→Prop} {w:World} {P:Program} {tm:List (Nat×S)} {a:Act} {n:Nat}
theorem Apr (ok:HOK H π R w) {k:Nat} {t:T} {l:List t.ty} (hk:H[k]? =some (.lst t l)): ∃R',HOK (H.set k .dK) π R' w∧Goes H π R w (H.set k .dK) π R' w∧∀v,RepC H π w R (.own k) v→RepC (H.set k .dK) π w R' (.seq t l) v:=by
 by_cases hc:0<(π k).cap
 ·refine⟨_,ok.publish hk,Goes.publish hk,fun v hv=>?_⟩
  rcases Lc hk hv with ⟨h0,_⟩|⟨_,rfl⟩
  ·omega
  ·refine⟨_,_,rfl,Ld ok hk,(ok.blocks k _ hk).2.1,fun _=>⟨_,0,rfl,.inr ⟨hc,rfl⟩,fun i x hi=>?_⟩⟩
   rw[Nat.zero_add]
   exact(Lg ok hk hc i x hi).mono rfl fun c v _=>Rep1.mono (fun _ h=> .inl h) (fun _ _=>rfl) c v
 ·refine⟨R,ok.kill hk,Goes.kill hk,fun v hv=>?_⟩
  rcases Lc hk hv with ⟨h0,hn,ad,rfl⟩|⟨h,_⟩
  ·have:l=[]:=List.eq_nil_of_length_eq_zero hn
   subst this
   exact⟨ad,0,rfl,Nat.le_refl _,by simp,fun h=>(h rfl).elim⟩
  ·exact(hc h).elim
theorem Ai5 (ok:HOK H π R w) {k:Nat} {l:List Shp} (hk:H[k]? =some (.tree l)): ∃R',HOK (H.set k .dK) π R' w∧Goes H π R w (H.set k .dK) π R' w∧∀v,RepC H π w R (.own k) v→RepC (H.set k .dK) π w R' (.seq .shp l) v:=
 ⟨_,ok.publish hk,Goes.publish hk,fun v hv=>(Hz ok hk).seq (S8 hk hv) fun b hb=> .inr hb⟩
theorem X7 (ok:HOK H π R w):HOK (H++[.tree []]) (upd π H.length ⟨0,0,Hx⟩) R w∧Goes H π R w (H++[.tree []]) (upd π H.length ⟨0,0,Hx⟩) R w∧∀ad,RepC (H++[.tree []]) (upd π H.length ⟨0,0,Hx⟩) w R (.own H.length) (.slice ad 0 0):=by
 refine⟨ok.push (Grows.refl w) ⟨0,0,Hx⟩ _ (fun b h=>absurd h.1 (by simp)) ⟨Nat.le_refl _,by simp,fun h=>absurd h (by simp)⟩,Goes.push (Grows.refl w) _ _ fun b h=>absurd h.1 (by simp),fun ad=>?_⟩
 simp only[RepC,Cy,Ci]
 exact .inl ⟨rfl,rfl,ad,rfl⟩
theorem Aaa (ok:HOK H π R w) (t:T):HOK (H++[.lst t []]) (upd π H.length ⟨0,0,Hx⟩) R w∧Goes H π R w (H++[.lst t []]) (upd π H.length ⟨0,0,Hx⟩) R w∧∀ad,RepC (H++[.lst t []]) (upd π H.length ⟨0,0,Hx⟩) w R (.own H.length) (.slice ad 0 0):=by
 refine⟨ok.push (Grows.refl w) ⟨0,0,Hx⟩ _ (fun b h=>absurd h.1 (by simp)) ⟨Nat.le_refl _,by simp,fun h=>absurd h (by simp)⟩,Goes.push (Grows.refl w) _ _ fun b h=>absurd h.1 (by simp),fun ad=>?_⟩
 simp only[RepC,Cy,Ci]
 exact .inl ⟨rfl,rfl,ad,rfl⟩
theorem Ai6 (ok:HOK H π R w) {k len:Nat} {t:T} {l:List t.ty} (hk:H[k]? =some (.lst t l)):
  ∃π',HOK (H.set k .dK++[.lst t (l.take len)]) π' R w∧Goes H π R w (H.set k .dK++[.lst t (l.take len)]) π' R w∧∀v,RepC H π w R (.sub k 0 len) v→RepC (H.set k .dK++[.lst t (l.take len)]) π' w R (.own H.length) v:=by
 have hl1:(H.set k .dK).length=H.length:=by simp
 by_cases hc:0<(π k).cap
 ·obtain ⟨hlc,hcm,hblk⟩:=ok.blocks k _ hk
  obtain ⟨e,vs,fr,hb,hth,hsz,hel⟩:=hblk hc
  have tu:Turns (π k).b w w:=⟨rfl,rfl,rfl,rfl,fun _ _=>rfl⟩
  refine⟨upd π H.length (π k),ok.move tu (π k) hk hc (fun b h=>h) ⟨by simp;omega,hcm,fun _=>⟨e,vs,fr,hb,hth,hsz,fun i x hi=>?_⟩⟩,Goes.move tu (π k) hk hc fun b h=>h,fun v hv=>?_⟩
  ·rw[List.getElem?_take] at hi
   split at hi
   ·exact hel i x hi
   ·cases hi
  ·obtain ⟨hle,ad,rfl,had⟩:=V6 hk hv
   simp only[RepC]
   rw[←hl1,Cy,hl1,Ci]
   refine .inr ⟨hc,?_⟩
   rw[had (by omega)]
   simp
   omega
 ·obtain ⟨h1,h2,h3⟩:=Aaa (ok.kill hk) t
  have hl0:l=[]:=List.eq_nil_of_length_eq_zero (by have:=Ld ok hk;omega)
  subst hl0
  rw[hl1] at h1 h2 h3
  refine⟨_,by simpa using h1,(Goes.kill hk).trans (by simpa using h2),fun v hv=>?_⟩
  obtain ⟨hle,ad,rfl,_⟩:=V6 hk hv
  have h0:len=0:=by simpa using hle
  subst h0
  have:=h3 ad
  simp only[List.take_nil]
  rw[show (π k).cap-0=0 by omega]
  exact this
theorem Afq (ok:HOK H π R w) {k:Nat} {t:T} {l:List t.ty} (hk:H[k]? =some (.lst t l)):
  ∃π',HOK (H.set k .dK++[.lst t l]) π' R w∧Goes H π R w (H.set k .dK++[.lst t l]) π' R w∧∀v,RepC H π w R (.own k) v→RepC (H.set k .dK++[.lst t l]) π' w R (.own H.length) v:=by
 obtain ⟨π',h1,h2,h3⟩:=Ai6 ok (len:=l.length) hk
 rw[List.take_length] at h1 h2 h3
 refine⟨π',h1,h2,fun v hv=>h3 v ?_⟩
 have hb:=Ld ok hk
 rcases Lc hk hv with ⟨h0,hn,ad,rfl⟩|⟨h0,rfl⟩
 ·simp only[RepC,hk]
  refine⟨by omega,ad,by rw[hn,h0],fun h=>by omega⟩
 ·simp only[RepC,hk]
  exact⟨by omega,_,rfl,fun _=>by simp⟩
theorem Acy (ok:HOK H π R w) {k:Nat} {l:List Shp} (hk:H[k]? =some (.tree l)):
  ∃π',HOK (H.set k .dK++[.tree l]) π' R w∧Goes H π R w (H.set k .dK++[.tree l]) π' R w∧∀v,RepC H π w R (.own k) v→RepC (H.set k .dK++[.tree l]) π' w R (.own H.length) v:=by
 have hl1:(H.set k .dK).length=H.length:=by simp
 have tu:Turns (π k).b w w:=⟨rfl,rfl,rfl,rfl,fun _ _=>rfl⟩
 by_cases hc:0<(π k).cap
 ·refine⟨upd π H.length (π k),ok.move tu (π k) hk hc (fun b h=>h) (Hz ok hk),Goes.move tu (π k) hk hc fun b h=>h,fun v hv=>?_⟩
  simp only[RepC]
  rw[←hl1,Cy,hl1,Ci]
  exact S8 hk hv
 ·obtain ⟨h1,h2,h3⟩:=X7 (ok.kill hk)
  have hl0:l=[]:=List.eq_nil_of_length_eq_zero (by have:=(Hz ok hk).1;omega)
  subst hl0
  rw[hl1] at h1 h2 h3
  refine⟨_,h1,(Goes.kill hk).trans h2,fun v hv=>?_⟩
  rcases S8 hk hv with ⟨_,_,ad,rfl⟩|⟨h,_⟩
  ·exact h3 ad
  ·exact(hc h).elim
theorem RowAt.near {p q:Pl} (e:Pl.Near q p) {t:T} {l:List t.ty} (h:RowAt w p t l):RowAt w q t l:=by
 unfold RowAt at h ⊢;rw[e.1,e.2];exact h
theorem BlkRep.near {p q:Pl} (e:Pl.Near q p) {fs:List Fld} (h:BlkRep H π w R p (.lst .fld fs)):BlkRep H π w R q (.lst .fld fs):=by
 obtain ⟨h1,h2,h3⟩:=h
 exact⟨by rw[e.2];exact h1,by rw[e.2];exact h2,fun hc=>by rw[e.1,e.2];rw[e.2] at hc;exact h3 hc⟩
def Qv (H:List Blk) (j i:Nat) (l:List Shp) (x:Shp):List Blk:=H.set j (.hole l i H.length)++[.lst .fld x.fJ]
theorem Aqi (ok:HOK H π R w) {j i:Nat} {l:List Shp} {x:Shp} (hj:H[j]? =some (.tree l)) (hi:l[i]? =some x):
  ∃π',HOK (Qv H j i l x) π' R w∧(∀b,Ey (Qv H j i l x) π' b→Ey H π b)∧(∀k,k<H.length→Pl.Near (π' k) (π k))∧(∀k,k<H.length→k≠j→π' k=π k)∧
   (∀(k:Nat) z,H[k]? =some z→∃y,(Qv H j i l x)[k]? =some y∧Like z y):=by
 obtain ⟨h1,h2,h3⟩:=Hz ok hj
 have hil:=Aw hi
 have hjl:=Aw hj
 have hc:0<(π j).cap:=by omega
 obtain ⟨e,vs,fr,q,hb,ht,hs,hn,hx,hq⟩:=h3 hc
 obtain ⟨a1,⟨v,hv,hov⟩,hrow,hins⟩:=hx i x hi
 let p':Pl:=⟨(π j).b,(π j).cap,fun c=>(π j).ins c∧¬(0<(q i).cap∧(q i).b=c)⟩
 let π':Nat→Pl:=upd (upd π j p') H.length (q i)
 have uN:π' H.length=q i:=Ci _ _ _
 have uj:π' j=p':=by show upd (upd π j p') H.length (q i) j=p';rw[Xz _ _ (by omega),Ci]
 have uo: ∀ {k},k<H.length→k≠j→π' k=π k:=fun {k} hk hkj=>by show upd (upd π j p') H.length (q i) k=π k;rw[Xz _ _ (by omega),Xz _ _ hkj]
 have near: ∀k,k<H.length→Pl.Near (π' k) (π k):=fun k hk=>by
  by_cases hkj:k=j
  ·subst hkj;rw[uj];exact⟨rfl,rfl⟩
  ·rw[uo hk hkj];exact⟨rfl,rfl⟩
 have hlen:(Qv H j i l x).length=H.length+1:=by simp[Qv]
 have get: ∀ {k:Nat} {z:Blk},(Qv H j i l x)[k]? =some z→(k=j∧z= .hole l i H.length)∨(k=H.length∧z= .lst .fld x.fJ)∨(k≠j∧k<H.length∧H[k]? =some z):=by
  intro k z hk
  rcases Hy hk with ⟨hl,hk⟩|⟨hl,rfl⟩
  ·rcases Ds hk with ⟨rfl,rfl,_⟩|⟨hkj,hk⟩
   ·exact .inl ⟨rfl,rfl⟩
   ·exact .inr (.inr ⟨hkj,Aw hk,hk⟩)
  ·exact .inr (.inl ⟨by simpa using hl,rfl⟩)
 have hN:(Qv H j i l x)[H.length]? =some (.lst .fld x.fJ):=by
  unfold Qv
  rw[List.getElem?_append_right (by simp)]
  simp
 have hjf:(Qv H j i l x)[j]? =some (.hole l i H.length):=by
  unfold Qv
  rw[List.getElem?_append_left (by simpa using hjl)]
  exact List.getElem?_set_self hjl
 have old: ∀ {k:Nat} {z:Blk},k≠j→H[k]? =some z→(Qv H j i l x)[k]? =some z:=fun {k z} hkj hk=>by
  unfold Qv
  rw[List.getElem?_append_left (by simpa using Aw hk),List.getElem?_set_ne (fun e=>hkj e.symm)]
  exact hk
 have like: ∀(k:Nat) z,H[k]? =some z→∃y,(Qv H j i l x)[k]? =some y∧Like z y:=fun k z hk=>by
  by_cases hkj:k=j
  ·subst hkj;rw[hj] at hk;cases hk;exact⟨_,hjf,rfl⟩
  ·exact⟨z,old hkj hk,Like.refl z⟩
 have rep: ∀ {c:C} {v:Value},RepC H π w R c v→RepC (Qv H j i l x) π' w R c v:=fun h=>RepC.goes' (fun _ h=>h) (fun _ _=>rfl) near like h
 have own: ∀ {c},Ey (Qv H j i l x) π' c→(0<(q i).cap∧(q i).b=c)∨(Has (π j) (.tree l) c∧¬(0<(q i).cap∧(q i).b=c))∨∃k z,k≠j∧H[k]? =some z∧Has (π k) z c:=by
  rintro c ⟨k,z,hk,hz⟩
  rcases get hk with ⟨rfl,rfl⟩|⟨rfl,rfl⟩|⟨hkj,hkl,hk⟩
  ·rw[uj] at hz
   rcases hz with ⟨_,hz|hz⟩
   ·exact .inr (.inl ⟨⟨hc,.inl hz⟩,fun h=>hn (by rw[show (π k).b=(q i).b from Eq.trans hz h.2.symm];exact hins h.1)⟩)
   ·exact .inr (.inl ⟨⟨hc,.inr hz.1⟩,hz.2⟩)
  ·rw[uN] at hz;exact .inl hz
  ·rw[uo hkl hkj] at hz;exact .inr (.inr ⟨k,z,hkj,hk,hz⟩)
 have ownH: ∀c,Ey (Qv H j i l x) π' c→Ey H π c:=fun c h=>by
  rcases own h with ⟨h1,h2⟩|⟨h,_⟩|⟨k,z,_,hk,hz⟩
  ·exact⟨j,_,hj,hc,.inr (h2▸hins h1)⟩
  ·exact⟨j,_,hj,h⟩
  ·exact⟨k,z,hk,hz⟩
 refine⟨π',⟨fun k z hk=>?_,fun k k' z z' c hk hk' hz hz'=>?_,fun k z c hk hz=>?_,fun c hR=>⟨(ok.R c hR).1,fun ho=>(ok.R c hR).2 (ownH c ho)⟩⟩,ownH,near,fun k hk hkj=>uo hk hkj,like⟩
 ·rcases get hk with ⟨rfl,rfl⟩|⟨rfl,rfl⟩|⟨hkj,hkl,hk⟩
  ·rw[uj]
   refine⟨by rw[hlen];omega,hil,h1,h2,e,vs,fr,q,hb,ht,hs,fun h=>hn h.1,fun m y hm=>?_,fun a b ha hb' _ _=>hq a b ha hb'⟩
   obtain ⟨b1,⟨u,b2,b3⟩,b4,b5⟩:=hx m y hm
   refine⟨b1,⟨u,b2,fun e=>?_,fun _=>b3⟩,fun e=>⟨b4,fun h=>⟨b5 h,fun h'=>e (hq m i (Aw hm) hil h h'.1 h'.2.symm)⟩⟩⟩
   subst e;rw[uN];exact b3
  ·rw[uN];exact Z6 hrow
  ·rw[uo hkl hkj]
   have hbk:=ok.blocks k z hk
   cases z with
   |dK=>trivial
   |cells cs=>obtain ⟨e',us,hbl,hl⟩:=hbk;exact⟨e',us,hbl,hl.imp fun _ _ _ h=>rep h⟩
   |lst t l'=>exact hbk
   |tree l'=>exact hbk
   |ghost n=>trivial
   |hole l' i' N'=>exact⟨by rw[hlen];have:=hbk.1;omega,HoleAt.mono hbk.2 (near N' hbk.1) (fun _ _=>rfl)⟩
 ·have cl: ∀ {k:Nat} {z:Blk},(Qv H j i l x)[k]? =some z→Has (π' k) z c→(k=j∧Has (π j) (.tree l) c∧¬(0<(q i).cap∧(q i).b=c))∨(k=H.length∧0<(q i).cap∧(q i).b=c)∨(k≠j∧k<H.length∧H[k]? =some z∧Has (π k) z c):=by
   intro k z hk hz
   rcases get hk with ⟨rfl,rfl⟩|⟨rfl,rfl⟩|⟨hkj,hkl,hk⟩
   ·rw[uj] at hz
    rcases hz with ⟨_,hz|hz⟩
    ·exact .inl ⟨rfl,⟨hc,.inl hz⟩,fun h=>hn (by rw[show (π k).b=(q i).b from Eq.trans hz h.2.symm];exact hins h.1)⟩
    ·exact .inl ⟨rfl,⟨hc,.inr hz.1⟩,hz.2⟩
   ·rw[uN] at hz;exact .inr (.inl ⟨rfl,hz⟩)
   ·rw[uo hkl hkj] at hz;exact .inr (.inr ⟨hkj,hkl,hk,hz⟩)
  have tr:0<(q i).cap→(q i).b=c→Has (π j) (.tree l) c:=fun h1 h2=>⟨hc,.inr (h2▸hins h1)⟩
  rcases cl hk hz with ⟨e1,g1,n1⟩|⟨e1,g1,n1⟩|⟨n1,l1,g1,s1⟩<;>rcases cl hk' hz' with ⟨e2,g2,n2⟩|⟨e2,g2,n2⟩|⟨n2,l2,g2,s2⟩
  ·omega
  ·exact(n1 ⟨g2,n2⟩).elim
  ·exact(n2 (ok.inj _ _ _ _ c g2 hj s2 g1)).elim
  ·exact(n2 ⟨g1,n1⟩).elim
  ·omega
  ·exact(n2 (ok.inj _ _ _ _ c g2 hj s2 (tr g1 n1))).elim
  ·exact(n1 (ok.inj _ _ _ _ c g1 hj s1 g2)).elim
  ·exact(n1 (ok.inj _ _ _ _ c g1 hj s1 (tr g2 n2))).elim
  ·exact ok.inj _ _ _ _ c g1 g2 s1 s2
 ·obtain ⟨m',y,hm',hy⟩:=ownH c ⟨k,z,hk,hz⟩
  exact ok.lt m' y c hm' hy
theorem Ane (ok:HOK H π R w) {j i:Nat} {l:List Shp} {x:Shp} (hj:H[j]? =some (.tree l)) (hi:l[i]? =some x):
  ∃p0:Pl,HOK (Gz H j l x) (upd π H.length p0) R w∧Goes H π R w (Gz H j l x) (upd π H.length p0) R w∧
   CellsAt (RepC (Gz H j l x) (upd π H.length p0) w R) w (π j).b (i*2+1) [.own H.length]∧
   ∀ {H2:List Blk} {π2:Nat→Pl} {R2:Nat→Prop} {w2:World} {m:Nat} {fs:List Fld},HOK H2 π2 R2 w2→Goes (Gz H j l x) (upd π H.length p0) R w H2 π2 R2 w2→H2[j]? =some (.ghost m)→H2[H.length]? =some (.lst .fld fs)→
    HOK (He H2 j H.length (l.set i ⟨x.id,fs⟩)) (upd π2 j (π j)) R2 w2∧Goes H π R w (He H2 j H.length (l.set i ⟨x.id,fs⟩)) (upd π2 j (π j)) R2 w2∧
    ∀tm a,Frm tm H2 π2 w2 R2 a→Frm tm (He H2 j H.length (l.set i ⟨x.id,fs⟩)) (upd π2 j (π j)) w2 R2 a:=by
 obtain ⟨h1,h2,h3⟩:=Hz ok hj
 have hil:=Aw hi
 have hjl:=Aw hj
 have hc:0<(π j).cap:=by omega
 obtain ⟨e,vs,fr,q,hb,ht,hs,hn,hx,hq⟩:=h3 hc
 obtain ⟨a1,⟨v,hv,hov⟩,hrow,hins⟩:=hx i x hi
 have hfl:(Gz H j l x).length=H.length+1:=by simp[Gz]
 have hN:(Gz H j l x)[H.length]? =some (.lst .fld x.fJ):=by
  unfold Gz
  rw[List.getElem?_append_right (by simp)]
  simp
 have hjf:(Gz H j l x)[j]? =some (.ghost l.length):=by
  unfold Gz
  rw[List.getElem?_append_left (by simpa using hjl)]
  exact List.getElem?_set_self hjl
 have get: ∀ {k:Nat} {z:Blk},(Gz H j l x)[k]? =some z→(k=j∧z= .ghost l.length)∨(k=H.length∧z= .lst .fld x.fJ)∨(k≠j∧k<H.length∧H[k]? =some z):=by
  intro k z hk
  rcases Hy hk with ⟨hl,hk⟩|⟨hl,rfl⟩
  ·rcases Ds hk with ⟨rfl,rfl,_⟩|⟨hkj,hk⟩
   ·exact .inl ⟨rfl,rfl⟩
   ·exact .inr (.inr ⟨hkj,Aw hk,hk⟩)
  ·exact .inr (.inl ⟨by simpa using hl,rfl⟩)
 have old: ∀ {k:Nat} {z:Blk},k≠j→H[k]? =some z→(Gz H j l x)[k]? =some z:=fun {k z} hkj hk=>by
  unfold Gz
  rw[List.getElem?_append_left (by simpa using Aw hk),List.getElem?_set_ne (fun e=>hkj e.symm)]
  exact hk
 have uN:upd π H.length (q i) H.length=q i:=Ci _ _ _
 have uo: ∀ {k},k<H.length→upd π H.length (q i) k=π k:=fun h=>Fo π _ h
 have ownF: ∀ {c},Ey (Gz H j l x) (upd π H.length (q i)) c→(0<(q i).cap∧(q i).b=c)∨∃k z,k≠j∧H[k]? =some z∧Has (π k) z c:=by
  rintro c ⟨k,z,hk,hz⟩
  rcases get hk with ⟨rfl,rfl⟩|⟨rfl,rfl⟩|⟨hkj,hkl,hk⟩
  ·exact hz.elim
  ·rw[uN] at hz;exact .inl hz
  ·rw[uo hkl] at hz;exact .inr ⟨k,z,hkj,hk,hz⟩
 have ownFH: ∀ {c},Ey (Gz H j l x) (upd π H.length (q i)) c→Ey H π c:=fun h=>by
  rcases ownF h with ⟨h1,h2⟩|⟨k,z,_,hk,hz⟩
  ·exact⟨j,_,hj,hc,.inr (h2▸hins h1)⟩
  ·exact⟨k,z,hk,hz⟩
 have g0:Goes H π R w (Gz H j l x) (upd π H.length (q i)) R w:=by
  refine⟨rfl,rfl,rfl,Nat.le_refl _,fun _ _ _=>rfl,fun c h=> .inl (ownFH h),fun k hk=>by rw[uo hk];exact Pl.At.refl _,fun k z hk=>?_,fun _ h=>h,fun _ h=> .inl h⟩
  by_cases hkj:k=j
  ·subst hkj
   rw[hj] at hk;cases hk
   exact⟨_,hjf,rfl⟩
  ·exact⟨z,old hkj hk,Like.refl z⟩
 have okF:HOK (Gz H j l x) (upd π H.length (q i)) R w:=by
  refine⟨fun k z hk=>?_,fun k k' z z' c hk hk' hz hz'=>?_,fun k z c hk hz=>?_,fun c hR=>⟨(ok.R c hR).1,fun ho=>(ok.R c hR).2 (ownFH ho)⟩⟩
  ·rcases get hk with ⟨rfl,rfl⟩|⟨rfl,rfl⟩|⟨hkj,hkl,hk⟩
   ·trivial
   ·rw[uN];exact Z6 hrow
   ·rw[uo hkl];exact g0.blk ok (fun _ _=>rfl) (ok.blocks k z hk)
  ·rcases get hk with ⟨rfl,rfl⟩|⟨rfl,rfl⟩|⟨hkj,hkl,hk⟩<;>rcases get hk' with ⟨rfl,rfl⟩|⟨rfl,rfl⟩|⟨hkj',hkl',hk'⟩
   ·rfl
   ·exact hz.elim
   ·exact hz.elim
   ·exact hz'.elim
   ·rfl
   ·rw[uN] at hz;rw[uo hkl'] at hz'
    exact(hkj' (ok.inj _ _ _ _ c hk' hj hz' ⟨hc,.inr (hz.2▸hins hz.1)⟩)).elim
   ·exact hz'.elim
   ·rw[uN] at hz';rw[uo hkl] at hz
    exact(hkj (ok.inj _ _ _ _ c hk hj hz ⟨hc,.inr (hz'.2▸hins hz'.1)⟩)).elim
   ·rw[uo hkl] at hz;rw[uo hkl'] at hz'
    exact ok.inj _ _ _ _ c hk hk' hz hz'
  ·obtain ⟨k',z',hk',hz'⟩:=ownFH ⟨k,z,hk,hz⟩
   exact ok.lt k' z' c hk' hz'
 refine⟨q i,okF,g0,fun p c hp=>?_,?_⟩
 ·rcases p with _|p
  ·cases hp
   refine⟨v,by rw[cell_of_row w _ _ vs e fr hb];exact hv,?_⟩
   simp only[RepC,hN,uN]
   exact hov
  ·simp at hp
 ·intro H2 π2 R2 w2 m fs ok2 g hj2 hN2
  have hjN:j≠H.length:=by omega
  have hl2:H.length<H2.length:=Aw hN2
  have nN:Pl.Near (π2 H.length) (q i):=by have:=(g.place H.length (by omega)).near;rwa [uN] at this
  have hm:m=l.length:=by
   obtain ⟨y,hy,hk⟩:=g.like j _ hjf
   rw[hj2] at hy;cases hy
   exact Eq.symm hk
  have hfs:fs.length=x.fJ.length:=by
   obtain ⟨y,hy,hk⟩:=g.like H.length _ hN
   rw[hN2] at hy;cases hy
   exact hk.2.symm
  -- the tree's memory but for what was taken oJ
  have part: ∀ {c},Has (π j) (.tree l) c→¬(0<(q i).cap∧(q i).b=c)→c<w.heap.size∧¬Ey (Gz H j l x) (upd π H.length (q i)) c:=fun {c} h hn=>by
   refine⟨ok.lt j _ c hj h,fun ho=>?_⟩
   rcases ownF ho with h'|⟨k,z,hkj,hk,hz⟩
   ·exact hn h'
   ·exact hkj (ok.inj _ _ _ _ c hk hj hz h)
  have still: ∀ {c},Has (π j) (.tree l) c→¬(0<(q i).cap∧(q i).b=c)→w2.heap[c]? =w.heap[c]? :=fun h hn=>g.keep _ (part h hn).1 (part h hn).2
  have notOwn: ∀ {c},Has (π j) (.tree l) c→¬(0<(q i).cap∧(q i).b=c)→¬Ey H2 π2 c:=fun h hn ho=>by
   rcases g.owned _ ho with h'|h'
   ·exact(part h hn).2 h'
   ·have:=(part h hn).1;omega
  have hasT: ∀ {l':List Shp} {c:Nat},Has (π j) (.tree l') c→Has (π j) (.tree l) c:=fun h=>h
  have hole:0<(q i).cap→Has (π2 H.length) (.lst .fld fs) (q i).b:=fun h=>⟨by rw[nN.2];exact h,nN.1⟩
  have hb2:w2.heap[(π j).b]? =some (.cells vs e fr):=by rw[still ⟨hc,.inl rfl⟩ (fun h=>hn (h.2▸hins h.1))];exact hb
  have pj:upd π2 j (π j) j=π j:=Ci _ _ _
  have po: ∀ {k},k≠j→upd π2 j (π j) k=π2 k:=fun h=>Xz _ _ h
  have get3: ∀ {k:Nat} {z:Blk},(He H2 j H.length (l.set i ⟨x.id,fs⟩))[k]? =some z→(k=H.length∧z= .dK)∨(k=j∧z= .tree (l.set i ⟨x.id,fs⟩))∨(k≠j∧k≠H.length∧H2[k]? =some z):=by
   intro k z hk
   rcases Ds hk with ⟨rfl,rfl,_⟩|⟨hkN,hk⟩
   ·exact .inl ⟨rfl,rfl⟩
   ·rcases Ds hk with ⟨rfl,rfl,_⟩|⟨hkj,hk⟩
    ·exact .inr (.inl ⟨rfl,rfl⟩)
    ·exact .inr (.inr ⟨hkj,hkN,hk⟩)
  have near3: ∀k,k<H2.length→Pl.Near (upd π2 j (π j) k) (π2 k):=fun k _=>by
   by_cases hkj:k=j
   ·subst hkj
    rw[pj]
    have:=(g.place k (by omega)).near
    rw[uo hjl] at this
    exact⟨this.1.symm,this.2.symm⟩
   ·rw[po hkj];exact⟨rfl,rfl⟩
  have like3: ∀(k:Nat) z,H2[k]? =some z→∃y,(He H2 j H.length (l.set i ⟨x.id,fs⟩))[k]? =some y∧Like z y:=fun k z hk=>by
   unfold He
   by_cases hkN:k=H.length
   ·subst hkN
    exact⟨.dK,List.getElem?_set_self (by simpa using hl2),by cases z<;>trivial⟩
   ·rw[List.getElem?_set_ne (fun e=>hkN e.symm)]
    by_cases hkj:k=j
    ·subst hkj
     rw[hj2] at hk;cases hk
     exact⟨_,List.getElem?_set_self (Aw hj2),by simp[Like,hm]⟩
    ·exact⟨z,by rw[List.getElem?_set_ne (fun e=>hkj e.symm)];exact hk,Like.refl z⟩
  have rep3: ∀ {c:C} {u:Value},RepC H2 π2 w2 R2 c u→RepC (He H2 j H.length (l.set i ⟨x.id,fs⟩)) (upd π2 j (π j)) w2 R2 c u:=fun h=>RepC.goes' (fun _ h=>h) (fun _ _=>rfl) near3 like3 h
  have own3: ∀ {c},Ey (He H2 j H.length (l.set i ⟨x.id,fs⟩)) (upd π2 j (π j)) c→Has (π j) (.tree l) c∨Ey H2 π2 c:=by
   rintro c ⟨k,z,hk,hz⟩
   rcases get3 hk with ⟨rfl,rfl⟩|⟨rfl,rfl⟩|⟨hkj,hkN,hk⟩
   ·exact hz.elim
   ·rw[pj] at hz;exact .inl (hasT hz)
   ·rw[po hkj] at hz;exact .inr ⟨k,z,hk,hz⟩
  refine⟨⟨fun k z hk=>?_,fun k k' z z' c hk hk' hz hz'=>?_,fun k z c hk hz=>?_,fun c hR=>⟨(ok2.R c hR).1,fun ho=>?_⟩⟩,⟨g.os,g.tape,g.output,g.size,fun c hcs ho=>g.keep c hcs fun h=>ho (ownFH h),fun c ho=>?_,fun k hk=>?_,fun k z hk=>?_,g.mono,fun c h=>?_⟩,fun tm a hf t s hl=>?_⟩
  ·rcases get3 hk with ⟨rfl,rfl⟩|⟨rfl,rfl⟩|⟨hkj,hkN,hk⟩
   ·trivial
   ·rw[pj]
    refine⟨by simpa using h1,h2,fun _=>⟨e,vs,fr,q,hb2,ht,hs,hn,fun i' x' hi'=>?_,by simpa using hq⟩⟩
    by_cases hii:i'=i
    ·subst hii
     rw[List.getElem?_set_self hil] at hi'
     cases hi'
     exact⟨a1,⟨v,hv,by dsimp only;rw[hfs];exact hov⟩,(R9 (ok2.blocks _ _ hN2)).near ⟨nN.1.symm,nN.2.symm⟩,hins⟩
    ·rw[List.getElem?_set_ne (fun e=>hii e.symm)] at hi'
     obtain ⟨b1,b2,b3,b4⟩:=hx i' x' hi'
     exact⟨b1,b2,b3.mono fun h=>still ⟨hc,.inr (b4 h)⟩ fun h'=>hii (hq i' i (Aw hi') hil h h'.1 h'.2.symm),b4⟩
   ·rw[po hkj]
    have hbk:=ok2.blocks k z hk
    cases z with
    |dK=>trivial
    |cells cs=>obtain ⟨e',us,hbl,hl⟩:=hbk;exact⟨e',us,hbl,hl.imp fun _ _ _ h=>rep3 h⟩
    |lst t l'=>exact hbk
    |tree l'=>exact hbk
    |ghost n=>trivial
    |hole l' i' N'=>
     refine⟨by have:=hbk.1;simpa [He] using this,HoleAt.mono hbk.2 ?_ (fun _ _=>rfl)⟩
     by_cases hNj:N'=j
     ·subst hNj
      have nj:Pl.Near (π2 N') (π N'):=by have:=(g.place N' (Aw hjf)).near;rwa [Fo π _ (Aw hj)] at this
      rw[pj];exact⟨nj.1.symm,nj.2.symm⟩
     ·rw[po hNj];exact⟨rfl,rfl⟩
  ·have two: ∀ {k:Nat} {z:Blk},k≠j→k≠H.length→H2[k]? =some z→Has (π2 k) z c→¬Has (π j) (.tree l) c:=fun {k z} hkj hkN hk hz hT=>by
    by_cases hh:0<(q i).cap∧(q i).b=c
    ·exact hkN (ok2.inj _ _ _ _ c hk hN2 hz (hh.2▸hole hh.1))
    ·exact notOwn hT hh ⟨k,z,hk,hz⟩
   rcases get3 hk with ⟨e1,rfl⟩|⟨e1,rfl⟩|⟨hkj,hkN,hk⟩<;>rcases get3 hk' with ⟨e2,rfl⟩|⟨e2,rfl⟩|⟨hkj',hkN',hk'⟩
   ·omega
   ·exact hz.elim
   ·exact hz.elim
   ·exact hz'.elim
   ·omega
   ·rw[e1,pj] at hz;rw[po hkj'] at hz';exact(two hkj' hkN' hk' hz' (hasT hz)).elim
   ·exact hz'.elim
   ·rw[e2,pj] at hz';rw[po hkj] at hz;exact(two hkj hkN hk hz (hasT hz')).elim
   ·rw[po hkj] at hz;rw[po hkj'] at hz';exact ok2.inj _ _ _ _ c hk hk' hz hz'
  ·rcases own3 ⟨k,z,hk,hz⟩ with h|⟨k',z',hk',hz'⟩
   ·exact Nat.lt_of_lt_of_le (ok.lt j _ c hj h) g.size
   ·exact ok2.lt k' z' c hk' hz'
  ·rcases own3 ho with h|h
   ·by_cases hh:0<(q i).cap∧(q i).b=c
    ·exact(ok2.R c hR).2 ⟨_,_,hN2,hh.2▸hole hh.1⟩
    ·rcases g.back c hR with h'|h'|h'
     ·exact(ok.R c h').2 ⟨j,_,hj,h⟩
     ·exact(part h hh).2 h'
     ·have:=(part h hh).1;omega
   ·exact(ok2.R c hR).2 h
  ·rcases own3 ho with h|h
   ·exact .inl ⟨j,_,hj,h⟩
   ·exact(g.owned c h).imp ownFH id
  ·by_cases hkj:k=j
   ·subst hkj;rw[pj];exact Pl.At.refl _
   ·rw[po hkj]
    have:=g.place k (by omega)
    rwa [uo hk] at this
  ·by_cases hkj:k=j
   ·subst hkj
    rw[hj] at hk;cases hk
    refine⟨.tree (l.set i ⟨x.id,fs⟩),?_,by simp[Like]⟩
    unfold He
    rw[List.getElem?_set_ne (fun e=>hjN e.symm)]
    exact List.getElem?_set_self (Aw hj2)
   ·obtain ⟨y,hy,hlk⟩:=g.like k z (old hkj hk)
    refine⟨y,?_,hlk⟩
    unfold He
    rw[List.getElem?_set_ne (fun e=>by have:=Aw hk;omega),List.getElem?_set_ne (fun e=>hkj e.symm)]
    exact hy
  ·rcases g.back c h with h'|h'|h'
   ·exact .inl h'
   ·exact .inr (.inl (ownFH h'))
   ·exact .inr (.inr h')
  ·have h:=hf t s hl
   cases s with
   |v y=>cases y with
    |c y=>exact rep3 h
    |agg y=>obtain ⟨us,hu,hh⟩:=h;exact⟨us,hu,hh.imp fun _ _ _ h=>rep3 h⟩
   |tup y=>
    obtain ⟨us,hu,hh⟩:=h
    refine⟨us,hu,hh.imp fun y _ _ h=>?_⟩
    cases y with
    |c y=>exact rep3 h
    |agg y=>obtain ⟨us,hu,hh⟩:=h;exact⟨us,hu,hh.imp fun _ _ _ h=>rep3 h⟩
   |junk=>trivial
theorem Aee (ok:HOK H π R w) {d:Dir} {c c':C} (h:Ar0 H d c=some (c',H1)): ∃π' R',HOK H1 π' R' w∧Goes H π R w H1 π' R' w∧(∀v,RepC H π w R c v→RepC H1 π' w R' c' v):=by
 have mk: ∀t,∃π' R',HOK (H++[.lst t []]) π' R' w∧Goes H π R w (H++[.lst t []]) π' R' w∧(∀v,RepC H π w R .nil v→RepC (H++[.lst t []]) π' w R' (.own H.length) v):=fun t=>by
  obtain ⟨h1,h2,h3⟩:=Aaa ok t
  exact⟨_,R,h1,h2,fun v ⟨ad,hv⟩=>by subst hv;exact h3 ad⟩
 have mkT: ∃π' R',HOK (H++[.tree []]) π' R' w∧Goes H π R w (H++[.tree []]) π' R' w∧(∀v,RepC H π w R .nil v→RepC (H++[.tree []]) π' w R' (.own H.length) v):=by
  obtain ⟨h1,h2,h3⟩:=X7 ok
  exact⟨_,R,h1,h2,fun v ⟨ad,hv⟩=>by subst hv;exact h3 ad⟩
 unfold Ar0 at h
 split at h
 ·split at h
  ·rename_i hk
   cases h
   obtain ⟨R',h1,h2,h3⟩:=Apr ok hk
   exact⟨π,R',h1,h2,h3⟩
  ·rename_i hk
   cases h
   obtain ⟨R',h1,h2,h3⟩:=Ai5 ok hk
   exact⟨π,R',h1,h2,h3⟩
  ·cases h
 ·split at h
  ·rename_i hk
   cases h
   obtain ⟨R',h1,h2,h3⟩:=Apr ok hk
   exact⟨π,R',h1,h2,h3⟩
  ·rename_i hk
   cases h
   obtain ⟨R',h1,h2,h3⟩:=Ai5 ok hk
   exact⟨π,R',h1,h2,h3⟩
  ·cases h
 ·cases h;exact mkT
 ·cases h;exact mkT
 ·cases h;exact mk _
 ·cases h;exact mk _
 ·split at h
  ·rename_i hk
   cases h
   obtain ⟨π',h1,h2,h3⟩:=Ai6 ok hk
   exact⟨π',R,h1,h2,h3⟩
  ·cases h
 ·split at h
  ·rename_i hk
   cases h
   obtain ⟨π',h1,h2,h3⟩:=Ai6 ok hk
   exact⟨π',R,h1,h2,h3⟩
  ·cases h
 ·split at h
  ·rename_i hk
   cases h
   obtain ⟨π',h1,h2,h3⟩:=Afq ok hk
   exact⟨π',R,h1,h2,h3⟩
  ·rename_i hk
   cases h
   obtain ⟨π',h1,h2,h3⟩:=Acy ok hk
   exact⟨π',R,h1,h2,h3⟩
  ·cases h
 ·split at h
  ·rename_i hk
   cases h
   obtain ⟨π',h1,h2,h3⟩:=Afq ok hk
   exact⟨π',R,h1,h2,h3⟩
  ·rename_i hk
   cases h
   obtain ⟨π',h1,h2,h3⟩:=Acy ok hk
   exact⟨π',R,h1,h2,h3⟩
  ·cases h
 ·cases h
theorem Anf (ok:HOK H π R w) {d:Dir} {j i:Nat} {H':List Blk} (h:Aed H d j i=some H'): ∃π' R',HOK H' π' R' w∧Goes H π R w H' π' R' w:=by
 unfold Aed at h
 split at h
 ·rename_i cs hj
  split at h
  ·rename_i c hc
   split at h
   ·rename_i c' H1 hx
    split at h
    ·rename_i cs1 hj1
     cases h
     obtain ⟨π',R',ok1,g1,hr⟩:=Aee ok hx
     have hπ:(π' j).b=(π j).b:=(g1.place j (Aw hj)).1
     have tu:Turns (π' j).b w w:=⟨rfl,rfl,rfl,rfl,fun _ _=>rfl⟩
     have hlen:cs1.length=cs.length:=by
      obtain ⟨y,hy,hl⟩:=g1.like j _ hj
      rw[hj1] at hy
      cases hy
      exact Eq.symm hl
     have lk:Like (Blk.cells cs1) (.cells (cs.set i c')):=by simp[Like,hlen]
     have g2:Goes H1 π' R' w (H1.set j (.cells (cs.set i c'))) π' R' w:=Goes.set tu hj1 trivial lk
     refine⟨π',R',ok1.set tu hj1 trivial lk ?_,g1.trans g2⟩
     obtain ⟨e,vs,hb,hl⟩:=ok.blocks j _ hj
     refine⟨e,vs,by rw[hπ];exact hb,?_⟩
     refine All2.of_get (by rw[List.length_set];exact hl.length) fun q x y hx hy=>?_
     obtain ⟨x0,hx0,hr0⟩:=hl.get' hy
     rcases Ds hx with ⟨rfl,rfl,_⟩|⟨hq,hx'⟩
     ·rw[hc] at hx0
      cases hx0
      exact g2.repC ok1 (hr y hr0)
     ·rw[hx'] at hx0
      cases hx0
      exact g2.repC ok1 (g1.repC ok hr0)
    ·cases h
   ·cases h
  ·cases h
 ·cases h
theorem Afr (sr:SR n tm H π R a w) {d:Dir} {t:Nat} {tm':List (Nat×S)} (h:Abf tm H d t=some (tm',H1)): ∃π' R',SR n tm' H1 π' R' a w∧Goes H π R w H1 π' R' w:=by
 unfold Abf at h
 split at h
 ·rename_i c hc
  split at h
  ·rename_i c' H2 hx
   cases h
   obtain ⟨π',R',ok1,g1,hr⟩:=Aee sr.ok hx
   refine⟨π',R',⟨ok1,fun u s hu=>?_,sr.size,sr.defers⟩,g1⟩
   unfold Qz at hu
   split at hu
   ·rename_i hb
    cases hu
    have:t=u:=Nat.eq_of_beq_eq_true hb
    subst this
    exact hr _ (sr.frm t _ hc)
   ·exact g1.repS sr.ok (sr.frm u s hu)
  ·cases h
 ·rename_i cs hcs
  split at h
  ·rename_i q i d'
   split at h
   ·rename_i c hc
    split at h
    ·rename_i c' H2 hx
     cases h
     obtain ⟨π',R',ok1,g1,hr⟩:=Aee sr.ok hx
     refine⟨π',R',⟨ok1,fun u s hu=>?_,sr.size,sr.defers⟩,g1⟩
     unfold Qz at hu
     split at hu
     ·rename_i hb
      cases hu
      have:t=u:=Nat.eq_of_beq_eq_true hb
      subst this
      obtain ⟨vs,hv,hl⟩:=sr.frm t _ hcs
      refine⟨vs,hv,All2.of_get (by rw[List.length_set];exact hl.length) fun q x y hx hy=>?_⟩
      obtain ⟨x0,hx0,hr0⟩:=hl.get' hy
      rcases Ds hx with ⟨rfl,rfl,_⟩|⟨hq,hx'⟩
      ·rw[hc] at hx0
       cases hx0
       exact hr y hr0
      ·rw[hx'] at hx0
       cases hx0
       exact g1.repC sr.ok hr0
     ·exact g1.repS sr.ok (sr.frm u s hu)
    ·cases h
   ·cases h
  ·cases h
 ·cases h
end
def Tb:Op→Bool
 | .move _| .assign _| .pick _ _ _| .load _ _| .binOp _ _ _ _ _| .unOp _ _ _| .convert _ _ _| .slice _ _ _ _ _| .fieldAddr _ _ _| .field _ _ _| .indexAddr _ _ _| .index _ _ _| .extract _ _| .build _ _| .makeFunc _ _ _| .nilCheck _=>true
 | .call { callee:= .builtin .len,.. } =>true
 |_=>false
section
variable {P:Program}
theorem Rm {α:Type} {f:α→Value} {s:Sem α} {w w':World} {n:Next} (h:(do let x ←s;pure (.value (f x)):Sem Next).run P w= .ok n w'): ∃u,n= .value u:=by
 rw[Sem.run_bind] at h
 cases hs:s.run P w with
 |ok x w1=>
  rw[hs] at h
  simp only[Result.andThen_ok,Sem.run_pure,Result.ok.injEq] at h
  exact⟨_,h.1.symm⟩
 |halt x w1=>rw[hs] at h;simp[Result.andThen] at h
def OV (P:Program) (s:Sem Next):Prop:= ∀w n w',s.run P w= .ok n w'→∃u,n= .value u
theorem OV.pure (v:Value):OV P (Pure.pure (.value v)):=fun w n w' h=>by
 simp only[Sem.run_pure,Result.ok.injEq] at h;exact⟨_,h.1.symm⟩
theorem OV.bind {α:Type} {s:Sem α} {f:α→Sem Next} (hf: ∀x,OV P (f x)):OV P (s>>=f):=fun w n w' h=>by
 rw[Sem.run_bind] at h
 cases hs:s.run P w with
 |ok x w1=>rw[hs] at h;exact hf x _ _ _ h
 |halt x w1=>rw[hs] at h;simp[Result.andThen] at h
theorem OV.panic (v:Value):OV P (goPanic v):=fun w n w' h=>by cases h
theorem OV.rp (e:RuntimeError):OV P (runtimePanic e):=by
 unfold runtimePanic
 exact OV.bind fun p=>by split<;>first|exact OV.panic _|exact OV.bind fun _=>OV.bind fun _=>OV.panic _
theorem Aef {o:Oper} {ρ:Operand→Value} {x:Operand} (ho:o.op= .nilCheck x):OV P (execOp ρ o):=by
 simp only[execOp,ho]
 split
 ·exact OV.rp _
 ·exact OV.rp _
 ·exact OV.rp _
 ·split
  ·exact OV.rp _
  ·refine OV.bind fun p=>OV.bind fun q=>?_
   split
   ·exact OV.bind fun _=>OV.pure _
   ·exact OV.pure _
  ·exact OV.pure _
 ·exact OV.pure _
theorem Zw {o:Oper} {ρ:Operand→Value} {w w':World} {n:Next} (hp:Tb o.op=true) (h:(execOp ρ o).run P w= .ok n w'): ∃u,n= .value u:=by
 obtain ⟨dst,op,type,pos,after,guard⟩:=o
 cases op
 case call c=>
  obtain ⟨callee,args,tys⟩:=c
  cases callee
  case builtin b=>
   cases b<;>simp only[Tb,Bool.false_eq_true] at hp
   simp only[execOp,resolve,invoke,Sem.run_bind,Sem.run_pure,Result.andThen_ok] at h
   exact Rm (f:=id) h
  all_goals simp[Tb] at hp
 case nilCheck x=>exact Aef (x:=x) rfl _ _ _ h
 all_goals first
  |(exfalso;revert hp;simp[Tb];done)
  |exact Rm (f:=id) h
  |exact Rm h
  |(simp only[execOp,Sem.run_pure,Result.ok.injEq] at h;exact⟨_,h.1.symm⟩)
variable {ops:Array Oper} {Q:Exit→Act→World→Prop} {S:World→Prop}
theorem Rn {o:Oper} {a:Act} {v:Value} (hp:Tb o.op=true) (h: ∀w,S w→o.quietAt P a S w v): ∀w,S w→(execOp a.eval o).run P w= .ok (.value v) w:=by
 intro w hw
 have h1:=h w hw
 unfold Oper.quietAt at h1
 cases hr:(execOp a.eval o).run P w with
 |halt x w'=>rw[hr] at h1;exact h1.elim
 |ok n w'=>
  obtain ⟨u,rfl⟩:=Zw hp hr
  rw[hr] at h1
  obtain ⟨e1,e2⟩:=h1
  rw[e1,e2]
end
end Go.Proofs.YtphecbmdhbphgaaGreat.Ax
namespace Go.Proofs.YtphecbmdhbphgaaGreat.Ax
open Go Go.RowKit
def Ang (md:Region.Mode) (ops:Array Oper):Nat→Nat→Nat→Bool
 |0,_,_=>false
 |f+1,k,i=>match ops[k]? with
  |none=>false
  |some o=>(o.after.any fun e=>Region.binds md e&&e.on==i)||(o.after.any fun e=>Region.binds md e&&Ang md ops f e.on i)
def J7 (md:Region.Mode) (ops:Array Oper) (k i:Nat):Bool:=match ops[k]? with
 |none=>true
 |some _=>Ang md ops 4 k i
def Closed (md:Region.Mode) (ops:Array Oper) (listed:Array Bool):Prop:= ∀j o,ops[j]? =some o→listed.getD j false=true→∀e∈o.after,Region.binds md e=true→listed.getD e.on false=true
theorem Li {l:Array Bool} {i k:Nat} (h:l.getD k false=true):(l.setIfInBounds i true).getD k false=true:=by
 simp only[Array.getD_eq_getD_getElem?,Array.getElem?_setIfInBounds] at h ⊢
 split
 ·split
  ·rfl
  ·rename_i h1 h2;subst h1;simp[Array.getElem?_eq_none (Nat.le_of_not_lt h2)] at h
 ·exact h
theorem Closed.set {md:Region.Mode} {ops:Array Oper} {listed:Array Bool} (h:Closed md ops listed) {j:Nat} (hj:j∈Region.ready md ops listed):Closed md ops (listed.setIfInBounds j true):=by
 intro q o ho hq e he hb
 obtain ⟨_,oj,hoj,hall⟩:=mem_ready.1 hj
 by_cases hqj:q=j
 ·subst hqj
  rw[ho] at hoj;cases hoj
  exact Li (hall e he hb)
 ·refine Li (h q o ho ?_ e he hb)
  simpa [Array.getD_eq_getD_getElem?,Array.getElem?_setIfInBounds,Ne.symm hqj] using hq
theorem Closed.none {md:Region.Mode} {ops:Array Oper} {n:Nat} :Closed md ops (Array.replicate n false):=by
 intro j o _ hj
 simp only[Array.getD_eq_getD_getElem?,Array.getElem?_replicate] at hj
 split at hj<;>simp at hj
theorem V9 {md:Region.Mode} {ops:Array Oper} {listed:Array Bool} (h:Closed md ops listed): ∀ {f k i:Nat},Ang md ops f k i=true→(∀o,ops[k]? =some o→∀e∈o.after,Region.binds md e=true→listed.getD e.on false=true)→listed.getD i false=true
 |0,_,_,h0,_=>by cases h0
 |f+1,k,i,h0,hall=>by
  unfold Ang at h0
  split at h0
  ·cases h0
  ·rename_i o ho
   simp only[Bool.or_eq_true] at h0
   rcases h0 with h0|h0
   ·obtain ⟨e,he,hb⟩:=Array.any_eq_true'.1 h0
    simp only[Bool.and_eq_true,beq_iff_eq] at hb
    exact hb.2▸hall o ho e he hb.1
   ·obtain ⟨e,he,hb⟩:=Array.any_eq_true'.1 h0
    simp only[Bool.and_eq_true] at hb
    exact V9 h hb.2 fun o' ho' e' he' hb'=>h e.on o' ho' (hall o ho e he hb.1) e' he' hb'
section
variable {P:Program} {md:Region.Mode} {ops:Array Oper} {Q:Exit→Act→World→Prop} {S:World→Prop} {k:Nat}
def Wa (P:Program) (md:Region.Mode) (ops:Array Oper) (Q:Exit→Act→World→Prop) (S:World→Prop) (k:Nat):Nat→Array Bool→Act→World→Prop
 |0,listed,a,w=>Region.ready md ops listed=[]∧Q .normal a w
 |fuel+1,listed,a,w=>
  (Region.ready md ops listed=[]→Q .normal a w)∧
  ∀i∈Region.ready md ops listed,wpOp P ops Q i (fun a' w'=>((listed.setIfInBounds i true).getD k false=true∨S w')∧Wa P md ops Q S k fuel (listed.setIfInBounds i true) a' w') a w
theorem U7: ∀(fuel:Nat) (listed:Array Bool) (a:Act) (w:World),Wa P md ops Q S k fuel listed a w→wpAny P md ops Q fuel listed a w
 |0,_,_,_,h=>h
 |fuel+1,_,_,_,h=>⟨h.1,fun i hi=>wpOp_mono (fun a' w' h'=>U7 fuel _ a' w' h'.2) (h.2 i hi)⟩
theorem Ee {l:Array Bool} {i k:Nat} (h:i≠k):(l.setIfInBounds i true).getD k false=l.getD k false:=by
 simp[Array.getD_eq_getD_getElem?,Array.getElem?_setIfInBounds,h]
theorem Wb {T:World→Prop} {i:Nat} {oi:Oper} {v:Value} (hi:ops[i]? =some oi) (hsel: ∀(j:Nat) (o:Oper) cs b,ops[j]? =some o→o.op≠ .select cs b)
  (hQ: ∀c a w,Q (.panic c) (a.put oi.dst v) w→Q (.panic c) a w) (hik:i≠k) (hT:(∀w,T w)∨((∀w,S w→T w)∧J7 md ops k i=true)):
  ∀(fuel:Nat) (listed:Array Bool) (a:Act) (w:World),Closed md ops listed→
   (∀j oj,ops[j]? =some oj→j≠i→listed.getD j true=false→(∀e∈oj.after,Region.binds md e=true→e.on≠i)→oi.apart ops oj=true)→
   i∈Region.ready md ops listed→YieldsIf P ops T oi v a→(listed.getD k false=true∨S w)→((∀w,T w)∨listed.getD k false=false)→
   Wa P md ops Q S k fuel (listed.setIfInBounds i true) (a.put oi.dst v) w→Wa P md ops Q S k (fuel+1) listed a w:=by
 have now: ∀ {listed:Array Bool} {w:World},(listed.getD k false=true∨S w)→((∀w,T w)∨listed.getD k false=false)→T w:=by
  intro listed w hG hk
  rcases hT with hT|⟨hT,_⟩
  ·exact hT w
  ·rcases hk with hk|hk
   ·exact hk w
   ·rcases hG with hG|hG
    ·rw[hk] at hG;cases hG
    ·exact hT w hG
 intro fuel
 induction fuel with
 |zero=>
  intro listed a w _ _ hr hy hG hk H
  refine⟨fun h=>(by rw[h] at hr;cases hr),fun j hj=>?_⟩
  by_cases hji:j=i
  ·subst hji;exact hy.wpOp hi (now hG hk) ⟨by rw[Ee hik];exact hG,H⟩
  ·have:=ready_mono hj hji
   rw[H.1] at this
   cases this
 |succ fuel ih=>
  intro listed a w hcl hfree hr hy hG hk H
  refine⟨fun h=>(by rw[h] at hr;cases hr),fun j hj=>?_⟩
  by_cases hji:j=i
  ·subst hji;exact hy.wpOp hi (now hG hk) ⟨by rw[Ee hik];exact hG,H⟩
  ·have h1:=H.2 j (ready_mono hj hji)
   obtain ⟨hjun,oj,hoj,hall⟩:=mem_ready.1 hj
   have hnot: ∀e∈oj.after,Region.binds md e=true→e.on≠i:=fun e he hb heq=>by
    have h1:=hall e he hb
    have h0:=(mem_ready.1 hr).1
    rw[heq] at h1
    rcases Nat.lt_or_ge i listed.size with h'|h'
    ·simp[h'] at h0 h1;rw[h0] at h1;cases h1
    ·simp[Array.getElem?_eq_none h'] at h1
   have h2:=wpOp_putIf hoj (hfree j oj hoj hji hjun hnot) (fun cs b=>hsel i oi cs b hi) (fun cs b=>hsel j oj cs b hoj) hQ hy h1
   have hfree': ∀q oq,ops[q]? =some oq→q≠i→(listed.setIfInBounds j true).getD q true=false→
     (∀e∈oq.after,Region.binds md e=true→e.on≠i)→oi.apart ops oq=true:=fun q oq hq hqi hun hno=>by
    refine hfree q oq hq hqi ?_ hno
    by_cases hjq:j=q
    ·subst hjq;exact hjun
    ·rw[getD_set_ne true hjq] at hun;exact hun
   have hk':(∀w,T w)∨(listed.setIfInBounds j true).getD k false=false:=by
    rcases hT with hT|⟨_,hw⟩
    ·exact .inl hT
    ·rcases hk with hk|hk
     ·exact .inl hk
     ·right
      have hjk:j≠k:=by
       rintro rfl
       simp only[J7,hoj] at hw
       have h1:=V9 hcl hw fun o' ho' e he hb=>by
        rw[hoj] at ho';cases ho'
        exact hall e he hb
       have h0:=(mem_ready.1 hr).1
       rcases Nat.lt_or_ge i listed.size with h'|h'
       ·simp[h'] at h0 h1;rw[h0] at h1;cases h1
       ·simp[Array.getElem?_eq_none h'] at h1
      rw[Ee hjk];exact hk
   refine wpOp_mono (fun a' w' h3=>?_) h2
   have hG':(listed.setIfInBounds j true).getD k false=true∨S w':=by
    have:=h3.2.1
    rw[Array.setIfInBounds_comm _ _ (Ne.symm hji),Ee hik] at this
    exact this
   refine⟨hG',ih (listed.setIfInBounds j true) a' w' (hcl.set hj) hfree' (ready_mono hr (Ne.symm hji)) h3.1 hG' hk' ?_⟩
   rw[Array.setIfInBounds_comm _ _ hji]
   exact h3.2.2
def Sy (P:Program) (ops:Array Oper) (Q:Exit→Act→World→Prop) (S:World→Prop) (k:Nat) (md:Region.Mode):List (Nat×Bool)→Act→World→Prop
 |[],a,w=>Q .normal a w
 |(i,true)::r,a,w=> ∃o,ops[i]? =some o∧if Region.wanted o (yielded ops a.tmps) then o.quiet P a (fun w'=>J7 md ops k i=true→S w') (fun a'=>Sy P ops Q S k md r a' w) else Sy P ops Q S k md r (a.put o.dst undef) w
 |(i,false)::r,a,w=> ∃o,ops[i]? =some o∧if Region.wanted o (yielded ops a.tmps) then o.wp P a w (fun a' w'=>(i=k∨S w')∧Sy P ops Q S k md r a' w') Q else Sy P ops Q S k md r (a.put o.dst undef) w
def Wc (md:Region.Mode) (ops:Array Oper) (k:Nat):List (Nat×Bool)→Array Bool→Bool
 |[],listed=>(Region.ready md ops listed).isEmpty
 |(i,true)::r,listed=> !(i==k)&&(!(J7 md ops k i)|| !(listed.getD k false))&&Region.free md ops listed i&&(Region.ready md ops listed).contains i&&(match ops[i]? with|some o=>Tb o.op|none=>false)&&Wc md ops k r (listed.setIfInBounds i true)
 |(i,false)::r,listed=>(match Region.ready md ops listed with|[j]=>j==i|_=>false)&&Wc md ops k r (listed.setIfInBounds i true)
theorem Ks (hs:Region.noSelect ops=true) (hQ: ∀c a w,¬Q (.panic c) a w): ∀(l:List (Nat×Bool)) (listed:Array Bool) (a:Act) (w:World),
  Closed md ops listed→Wc md ops k l listed=true→(listed.getD k false=true∨S w)→Sy P ops Q S k md l a w→Wa P md ops Q S k l.length listed a w
 |[],listed,a,w,_,hok,_,h=>⟨by simpa [Wc] using hok,h⟩
 |(i,true)::r,listed,a,w,hcl,hok,hG,h=>by
  simp only[Wc,Bool.and_eq_true,Bool.or_eq_true,Bool.not_eq_true',beq_eq_false_iff_ne,ne_eq] at hok
  obtain ⟨⟨⟨⟨⟨hik,hkl⟩,hf⟩,hr⟩,hp⟩,hok'⟩:=hok
  obtain ⟨o,ho,h⟩:=h
  rw[ho] at hp
  dsimp only at hp
  have hG':(listed.setIfInBounds i true).getD k false=true∨S w:=by rw[Ee hik];exact hG
  have first: ∀ {v:Value},YieldsIf P ops (fun w'=>J7 md ops k i=true→S w') o v a→Sy P ops Q S k md r (a.put o.dst v) w→Wa P md ops Q S k (r.length+1) listed a w:=fun {v} hy h2=>by
   refine Wb (T:=fun w'=>J7 md ops k i=true→S w') ho (Region.noSelect_spec hs) (fun c a w hq=>(hQ _ _ _ hq).elim) hik ?_ _ _ _ _ hcl (Region.free_spec ho hf) (by simpa using hr) hy hG ?_ (Ks hs hQ r _ _ _ (hcl.set (by simpa using hr)) hok' hG' h2)
   ·cases hw:J7 md ops k i with
    |false=>exact .inl fun _ h=>by cases h
    |true=>exact .inr ⟨fun _ h _=>h,rfl⟩
   ·rcases hkl with hkl|hkl
    ·exact .inl fun _ h=>by rw[hkl] at h;cases h
    ·exact .inr hkl
  by_cases hw:Region.wanted o (yielded ops a.tmps)=true
  ·rw[if_pos hw] at h
   obtain ⟨v,h1,h2⟩:=h
   exact first (.inl ⟨hw,Rn hp h1⟩) h2
  ·rw[if_neg hw] at h
   exact first (.inr ⟨by simpa using hw,rfl⟩) h
 |(i,false)::r,listed,a,w,hcl,hok,hG,h=>by
  simp only[Wc,Bool.and_eq_true] at hok
  obtain ⟨hr,hok'⟩:=hok
  have hr':Region.ready md ops listed=[i]:=by
   split at hr
   ·rename_i j hj;rw[hj];simpa using hr
   ·simp at hr
  obtain ⟨o,ho,h⟩:=h
  refine⟨fun h0=>(by rw[hr'] at h0;cases h0),fun j hj=>?_⟩
  rw[hr'] at hj
  have:j=i:=by simpa using hj
  subst this
  have hlt:j<listed.size:=by
   have h0:=(mem_ready.1 (show j∈Region.ready md ops listed by rw[hr'];simp)).1
   rcases Nat.lt_or_ge j listed.size with h'|h'
   ·exact h'
   ·simp[Array.getElem?_eq_none h'] at h0
  have up: ∀ {w'},(j=k∨S w')→(listed.setIfInBounds j true).getD k false=true∨S w':=by
   rintro w' (rfl|h)
   ·left;simp[Array.getD_eq_getD_getElem?,hlt]
   ·exact .inr h
  unfold wpOp
  rw[ho]
  dsimp only
  by_cases hw:Region.wanted o (yielded ops a.tmps)=true
  ·rw[if_pos hw] at h
   rw[if_pos hw]
   exact .inl (Oper.wp_mono (fun a' w' ⟨h1,h2⟩=>⟨up h1,Ks hs hQ r _ _ _ (hcl.set (by rw[hr'];simp)) hok' (up h1) h2⟩) h)
  ·rw[if_neg hw] at h
   rw[if_neg hw]
   have hG2:(listed.setIfInBounds j true).getD k false=true∨S w:=by
    rcases hG with hG|hG
    ·left
     by_cases hjk:j=k
     ·subst hjk;simp[Array.getD_eq_getD_getElem?,hlt]
     ·rw[Ee hjk];exact hG
    ·exact .inr hG
   exact⟨hG2,Ks hs hQ r _ _ _ (hcl.set (by rw[hr'];simp)) hok' hG2 h⟩
def Abh (P:Program) (ops:Array Oper) (Q:Exit→Act→World→Prop) (S:World→Prop) (k:Nat) (md:Region.Mode) (b:Bool) (i:Nat) (K:Act→World→Prop) (a:Act) (w:World):Prop:=match b with
 |true=> ∃o,ops[i]? =some o∧if Region.wanted o (yielded ops a.tmps) then o.quiet P a (fun w'=>J7 md ops k i=true→S w') (fun a'=>K a' w) else K (a.put o.dst undef) w
 |false=> ∃o,ops[i]? =some o∧if Region.wanted o (yielded ops a.tmps) then o.wp P a w (fun a' w'=>(i=k∨S w')∧K a' w') Q else K (a.put o.dst undef) w
theorem Ai7 {b:Bool} {i:Nat} {r:List (Nat×Bool)} {a:Act} {w:World} (h:Abh P ops Q S k md b i (Sy P ops Q S k md r) a w):Sy P ops Q S k md ((i,b)::r) a w:=by
 cases b<;>exact h
theorem Ag2 {i:Nat} {J:Act→World→Prop} {a:Act} {w:World} (o:Oper) (ho:ops[i]? =some o) (hw:Region.wanted o (yielded ops a.tmps)=true)
  (h: ∀K:Act→Prop,(∀a',J a' w→K a')→o.quiet P a (fun w'=>J7 md ops k i=true→S w') K):Abh P ops Q S k md true i J a w:=
 ⟨o,ho,by rw[if_pos hw];exact h _ (fun _ h=>h)⟩
theorem Ag3 {i:Nat} {b:Bool} {J:Act→World→Prop} {a:Act} {w:World} (o:Oper) (ho:ops[i]? =some o) (hw:Region.wanted o (yielded ops a.tmps)=false)
  (h:J (a.put o.dst undef) w):Abh P ops Q S k md b i J a w:=by
 cases b<;>exact⟨o,ho,by rw[if_neg (by rw[hw];exact Bool.false_ne_true)];exact h⟩
theorem Anh {i:Nat} {J:Act→World→Prop} {a:Act} {w:World} (o:Oper) (ho:ops[i]? =some o) (hw:Region.wanted o (yielded ops a.tmps)=true)
  (h: ∀K:Act→World→Prop,(∀a' w',(i=k∨S w')→J a' w'→K a' w')→o.wp P a w K Q):Abh P ops Q S k md false i J a w:=
 ⟨o,ho,by rw[if_pos hw];exact h _ (fun _ _ h1 h2=>⟨h1,h2⟩)⟩
theorem Zx {id:Nat} {Q:Exit→Act→World→Prop} {a:Act} {w:World} {lo:List Oper} (S:World→Prop) (k:Nat) (l:List (Nat×Bool)) (hm:P.follows .mixedOrders=true)
  (hB:(Region.noSelect lo.toArray&&Wc .any lo.toArray k l (Array.replicate lo.toArray.size false)&&l.length==lo.toArray.size)=true) (hS:S w.drew)
  (h:Sy P lo.toArray (NoPanic Q) S k .any l a w.drew):(Code.region id lo.toArray true).wp P Q a w:=by
 simp only[Bool.and_eq_true,beq_iff_eq] at hB
 obtain ⟨⟨hs,hok⟩,hl⟩:=hB
 refine wp_region_noPanic (wp_region_any hm ?_)
 have:=Ks (P:=P) (md:= .any) (Q:=NoPanic Q) (S:=S) (k:=k) hs (fun c a w hq=>hq) l _ a w.drew Closed.none hok (.inr hS) h
 rw[hl] at this
 exact U7 _ _ _ _ this
end
def Dj (H:List Blk):List Nat→List Blk
 |[]=>H
 |j::r=>Dj (H.set j .dK) r
def Abi (N:Nat) (vol:List Nat):List Nat→Bool
 |[]=>true
 |j::r=>(Nat.ble N j||(F0 vol j).isSome)&&Abi N vol r
def Ai8 (P:Program) (wt:Bool) (H:List Blk) (tm:List (Nat×S)) (hq:List Blk) (tq:List (Nat×S)) (op:Op) (d:Option Dir):Option (S×S×List Prop×Bool):=
 match J5 P H tm op with
 |some (s,ob)=>match J5 P hq tq op with
  |some (s',ob')=>some (s,s',Ag1 ob ob',false)
  |none=>some (s,.junk,ob,false)
 |none=>match wt with
  |false=>none
  |true=>match Agw P hq tq op,Agw P H tm op with
   |some (s',ob'),some (s,ob)=>some (s,s',Ag1 ob ob',false)
   |_,_=>match d with
    |some d=>match Ary P hq tq op d,Ary P H tm op d with
     |some (s',ob'),some (s,ob)=>some (s,s',Ag1 ob ob',true)
     |_,_=>none
    |none=>none
structure XQ where
 x:X
 tq:List (Nat×S)
def Abj (P:Program) (n:Nat) (hq:List Blk) (N:Nat) (vol:List Nat) (wt last:Bool) (o:Oper) (quiet:Bool) (q:XQ):Option XQ:=
 match quiet with
 |true=>match Ai8 P wt q.x.hp q.x.tm hq q.tq o.op q.x.ds.head? with
  |some (s,s',ob,u)=>match Acv n q.x.tm o.dst s,Acv n q.tq o.dst s' with
   |some tm',some tq'=>some ⟨⟨Art q.x.ds u,tm',q.x.hp,Ag1 ob q.x.ob⟩,tq'⟩
   |_,_=>none
  |none=>none
 |false=>match last||Abi N vol (Sw q.x.tm o.op q.x.ds.head?),xdo P q.x.hp q.x.tm o.op q.x.ds.head? with
  |true,some (s,H',ob,u)=>match Acv n q.x.tm o.dst s,Acv n q.tq o.dst .junk with
   |some tm',some tq'=>some ⟨⟨Art q.x.ds u,tm',H',Ag1 ob q.x.ob⟩,tq'⟩
   |_,_=>none
  |_,_=>none
def Acz (n:Nat) (o:Oper) (q:XQ):Option XQ:=match Acv n q.x.tm o.dst (.tup []),Acv n q.tq o.dst (.tup []) with
 |some tm',some tq'=>some ⟨{ q.x with tm:=tm' },tq'⟩
 |_,_=>none
def qop (P:Program) (n:Nat) (ops:Array Oper) (hq:List Blk) (N:Nat) (vol:List Nat) (wt last:Bool) (o:Oper) (quiet:Bool) (q:XQ):Option XQ:=
 match o.guard with
 |none=>Abj P n hq N vol wt last o quiet q
 |some (j,wK)=>match (ops[j]?).bind (·.dst) with
  |some t=>match Nat.blt t n,Qz q.x.tm t with
   |true,some (.v (.c (.lit b)))=>match b,wK with
    |true,true=>Abj P n hq N vol wt last o quiet q
    |false,false=>Abj P n hq N vol wt last o quiet q
    |_,_=>Acz n o q
   |true,some (.tup _)=>Acz n o q
   |true,some (.v (.c (.bool b)))=>match q.x.ds with
    | .br true::ds=>match wK with
     |true=>Abj P n hq N vol wt last o quiet ⟨⟨ds,(t,V1 (.lit true))::q.x.tm,q.x.hp,(b=true)::q.x.ob⟩,q.tq⟩
     |false=>Acz n o ⟨⟨ds,(t,V1 (.lit true))::q.x.tm,q.x.hp,(b=true)::q.x.ob⟩,q.tq⟩
    | .br false::ds=>match wK with
     |true=>Acz n o ⟨⟨ds,(t,V1 (.lit false))::q.x.tm,q.x.hp,(b=false)::q.x.ob⟩,q.tq⟩
     |false=>Abj P n hq N vol wt last o quiet ⟨⟨ds,(t,V1 (.lit false))::q.x.tm,q.x.hp,(b=false)::q.x.ob⟩,q.tq⟩
    |_=>none
   |_,_=>none
  |none=>none
def Aij (q:XQ):XQ:=match q.x.ds with
 | .as t s::ds=>match Qz q.x.tm t,Qz q.tq t with
  |some s0,some .junk=>⟨⟨ds,(t,s)::q.x.tm,q.x.hp,(s0=s)::q.x.ob⟩,q.tq⟩
  |some s0,some s1=>⟨⟨ds,(t,s)::q.x.tm,q.x.hp,(s1=s)::(s0=s)::q.x.ob⟩,(t,s)::q.tq⟩
  |_,_=>q
 | .asB j b::ds=>⟨⟨ds,q.x.tm,q.x.hp.set j b,(q.x.hp[j]? =some b)::q.x.ob⟩,q.tq⟩
 |_=>q
def qas (q:XQ):XQ:=Aij (Aij q)
def Ani (ops:Array Oper):List (Nat×Bool)→Nat
 |[]=>ops.size
 |[(i,false)]=>i
 |[(_,true)]=>ops.size
 |_::r=>Ani ops r
def Aru (P:Program) (n:Nat) (ops:Array Oper) (hq:List Blk) (N:Nat) (vol:List Nat) (k:Nat):List (Nat×Bool)→XQ→Option XQ
 |[],q=>some q
 |(i,quiet)::r,q=>match ops[i]? with
  |some o=>match qop P n ops hq N vol (J7 .any ops k i) (Nat.beq i k&&r.isEmpty) o quiet q with
   |some q'=>Aru P n ops hq N vol k r (qas q')
   |none=>none
  |none=>none
def Anj (P:Program) (n:Nat) (ops:Array Oper) (x:X):Option X:=match x.ds with
 | .ord l vol::ds=>match Region.noSelect ops&&Wc .any ops (Ani ops l) l (Array.replicate ops.size false)&&l.length==ops.size&&P.follows .mixedOrders with
  |true=>match Aru P n ops (Dj x.hp vol) x.hp.length vol (Ani ops l) l ⟨{ x with ds:=ds },x.tm⟩ with
   |some q=>some q.x
   |none=>none
  |false=>none
 |_=>none
section
variable {H:List Blk} {π:Nat→Pl} {R:Nat→Prop} {w:World} {P:Program} {tm:List (Nat×S)} {a:Act} {n:Nat}
theorem Tc {ops:Array Oper} {rest:List Oper} {Q:Exit→Act→World→Prop} {o:Oper} (hw:Region.wanted o (yielded ops a.tmps)=true)
  (h: ∀K:Act→World→Prop,(∀a w,wpList P ops Q rest a w→K a w)→o.wp P a w K Q):wpList P ops Q (o::rest) a w:=
 wpList_step fun K hK=>by rw[if_pos hw];exact h K hK
theorem X8 {n:Nat} :N8 H π w R (.tup []) undef:=⟨[],rfl,.nil⟩
theorem Aab {o:Oper} {ops:Array Oper} {j:Nat} {wK:Bool} {t:Tmp} {l:List V} (h:o.guard=some (j,wK)) (hj:(ops[j]?).bind (·.dst)=some t) (hsz:a.tmps.size=n) (ht:t<n) (hv:N8 H π w R (.tup l) (a.tmps.getD t undef)):
  Region.wanted o (yielded ops a.tmps)=false:=by
 obtain ⟨vs,hv,_⟩:=hv
 have:a.tmps[t]? =some (.tuple vs.toArray):=by
  have hlt:t<a.tmps.size:=by rw[hsz];exact ht
  rw[Array.getD_eq_getD_getElem?,Array.getElem?_eq_getElem hlt] at hv
  rw[Array.getElem?_eq_getElem hlt]
  exact congrArg some hv
 simp[Region.wanted,h,yielded,hj,this]
theorem Jr {o:Oper} {y:Nat→Option Bool} (h:o.guard=none):Region.wanted o y=true:=by simp[Region.wanted,h]
theorem Sa {o:Oper} {ops:Array Oper} {j:Nat} {wK b:Bool} {t:Tmp} (h:o.guard=some (j,wK)) (hj:(ops[j]?).bind (·.dst)=some t) (hsz:a.tmps.size=n) (ht:t<n) (hv:a.tmps.getD t undef= .bool b):
  Region.wanted o (yielded ops a.tmps)=(b==wK):=by
 have:a.tmps[t]? =some (.bool b):=by
  have hlt:t<a.tmps.size:=by rw[hsz];exact ht
  rw[Array.getD_eq_getD_getElem?,Array.getElem?_eq_getElem hlt] at hv
  rw[Array.getElem?_eq_getElem hlt]
  exact congrArg some hv
 simp[Region.wanted,h,yielded,hj,this]
theorem Aeg (hf:Frm tm H π w R a) {t:Nat} {b d:Bool} (hl:Qz tm t=some (.v (.c (.bool b)))) (hb:b=d):Frm ((t,V1 (.lit d))::tm) H π w R a:=fun u s hu=>by
 unfold Qz at hu
 split at hu
 ·rename_i he
  cases hu
  have:t=u:=Nat.eq_of_beq_eq_true he
  subst this
  subst hb
  have:N8 H π w R (V1 (.bool b)) (a.tmps.getD t undef):=hf t _ hl
  exact this
 ·exact hf u s hu
theorem Aac (hf:Frm tm H π w R a) {t:Nat} {s0 s:S} (hl:Qz tm t=some s0) (he:s0=s):Frm ((t,s)::tm) H π w R a:=fun u s1 hu=>by
 unfold Qz at hu
 split at hu
 ·rename_i hb
  cases hu
  have:t=u:=Nat.eq_of_beq_eq_true hb
  subst this
  exact he▸hf t _ hl
 ·exact hf u s1 hu
theorem Abk {α:Type} {l:List α} {j:Nat} {b:α} (h:l[j]? =some b):l.set j b=l:=by
 apply List.ext_getElem?
 intro i
 rw[List.getElem?_set]
 split
 ·rename_i e
  subst e
  split
  ·exact h.symm
  ·rename_i hn;rw[List.getElem?_eq_none (by omega)] at h;cases h
 ·rfl
theorem Aeh (x:X) (h:All (Anb x).ob):All x.ob:=by
 unfold Anb at h
 split at h
 ·split at h
  ·exact h.2
  ·exact h
 ·split at h<;>exact h
 ·exact h.2
 ·exact h
theorem Ai9 {x:X} (sr:SR n x.tm x.hp π R a w) (h:All (Anb x).ob): ∃π' R',SR n (Anb x).tm (Anb x).hp π' R' a w∧Goes x.hp π R w (Anb x).hp π' R' w:=by
 unfold Anb at h ⊢
 split at h
 ·split at h
  ·rename_i hl
   exact⟨π,R,⟨sr.ok,Aac sr.frm hl h.1,sr.size,sr.defers⟩,Goes.refl _ _ _ _⟩
  ·exact⟨π,R,sr,Goes.refl _ _ _ _⟩
 ·split at h
  ·rename_i hs
   exact Afr sr hs
  ·exact⟨π,R,sr,Goes.refl _ _ _ _⟩
 ·simp only
  rw[Abk h.1]
  exact⟨π,R,sr,Goes.refl _ _ _ _⟩
 ·exact⟨π,R,sr,Goes.refl _ _ _ _⟩
theorem Wd (x:X) (h:All (xas x).ob):All x.ob:=Aeh _ (Aeh _ h)
theorem Afs {x:X} (sr:SR n x.tm x.hp π R a w) (h:All (xas x).ob): ∃π' R',SR n (xas x).tm (xas x).hp π' R' a w∧Goes x.hp π R w (xas x).hp π' R' w:=by
 obtain ⟨π1,R1,h1,g1⟩:=Ai9 sr (Aeh _ h)
 obtain ⟨π2,R2,h2,g2⟩:=Ai9 h1 h
 exact⟨π2,R2,h2,g1.trans g2⟩
theorem X9 {ops:Array Oper} {o:Oper} {ds:List Dir} {ob:List Prop} {y:X} (sr:SR n tm H π R a w) (h:xop P n ops o ⟨ds,tm,H,ob⟩=some y) (hob:All y.ob):
  All ob∧∀(Q:Exit→Act→World→Prop) (rest:List Oper),(∀a' w' π' R',SR n y.tm y.hp π' R' a' w'→Goes H π R w y.hp π' R' w'→wpList P ops Q rest a' w')→wpList P ops Q (o::rest) a w:=by
 have wK: ∀ {ds:List Dir} {tm:List (Nat×S)} {ob:List Prop},SR n tm H π R a w→Region.wanted o (yielded ops a.tmps)=true→Ww P n o ⟨ds,tm,H,ob⟩=some y→
   All ob∧∀(Q:Exit→Act→World→Prop) (rest:List Oper),(∀a' w' π' R',SR n y.tm y.hp π' R' a' w'→Goes H π R w y.hp π' R' w'→wpList P ops Q rest a' w')→wpList P ops Q (o::rest) a w:=by
  intro ds tm ob sr hw h
  unfold Ww at h
  split at h
  ·rename_i s H' ob' u hdo
   split at h
   ·rename_i tm' hput
    cases h
    obtain ⟨h1,h2⟩:=Ft hob
    refine⟨h2,fun Q rest hK=>Tc hw fun K hKK=>X6 (n:=n) sr.ok sr.frm hdo h1 K Q fun v w' π' R' ok g _ hv=>hKK _ _ ?_⟩
    obtain ⟨f1,f2,f3⟩:=Kk (g.frm sr.ok sr.frm) sr.size hput hv
    exact hK _ _ π' R' ⟨ok,f1,f2,f3.trans sr.defers⟩ g
   ·cases h
  ·cases h
 have skip: ∀ {ds:List Dir} {tm:List (Nat×S)} {ob:List Prop},SR n tm H π R a w→Region.wanted o (yielded ops a.tmps)=false→Zv n o ⟨ds,tm,H,ob⟩=some y→
   All ob∧∀(Q:Exit→Act→World→Prop) (rest:List Oper),(∀a' w' π' R',SR n y.tm y.hp π' R' a' w'→Goes H π R w y.hp π' R' w'→wpList P ops Q rest a' w')→wpList P ops Q (o::rest) a w:=by
  intro ds tm ob sr hw h
  unfold Zv at h
  split at h
  ·rename_i tm' hput
   cases h
   refine⟨hob,fun Q rest hK=>wpList_step fun K hKK=>?_⟩
   rw[if_neg (by rw[hw];simp)]
   obtain ⟨f1,f2,f3⟩:=Kk sr.frm sr.size hput (v:=undef) (X8 (n:=0))
   exact hKK _ _ (hK _ _ π R ⟨sr.ok,f1,f2,f3.trans sr.defers⟩ (Goes.refl _ _ _ _))
  ·cases h
 unfold xop at h
 split at h
 ·rename_i hg
  exact wK sr (Jr hg) h
 ·rename_i j wt hg
  split at h
  ·rename_i t hj
   split at h
   ·rename_i b hlt hl
    have hlt:t<n:=by simpa using hlt
    have hv:a.tmps.getD t undef= .bool b:=sr.frm t _ hl
    have hw:=Sa hg hj sr.size hlt hv
    split at h
    ·exact wK sr (by rw[hw];rfl) h
    ·exact wK sr (by rw[hw];rfl) h
    ·rename_i h1 h2
     exact skip sr (by rw[hw];cases b<;>cases wt<;>simp_all) h
   ·rename_i l hlt hl
    exact skip sr (Aab hg hj sr.size (by simpa using hlt) (sr.frm t _ hl)) h
   ·rename_i b hlt hl
    have hlt:t<n:=by simpa using hlt
    have hv:a.tmps.getD t undef= .bool b:=sr.frm t _ hl
    have hw:=Sa hg hj sr.size hlt hv
    have sr': ∀d,b=d→SR n ((t,V1 (.lit d))::tm) H π R a w:=fun d hd=>⟨sr.ok,Aeg sr.frm hl hd,sr.size,sr.defers⟩
    have obOf: ∀ {z:X} {ds:List Dir} {tm:List (Nat×S)} {p:Prop},(Ww P n o ⟨ds,tm,H,p::ob⟩=some z∨Zv n o ⟨ds,tm,H,p::ob⟩=some z)→All z.ob→p∧All ob:=by
     rintro z ds tm p (hz|hz) ha
     ·unfold Ww at hz
      split at hz
      ·split at hz
       ·cases hz;exact(Ft ha).2
       ·cases hz
      ·cases hz
     ·unfold Zv at hz
      split at hz
      ·cases hz;exact ha
      ·cases hz
    split at h
    ·split at h
     ·obtain ⟨hb,ho⟩:=obOf (.inl h) hob
      exact⟨ho,(wK (sr' _ hb) (by rw[hw,hb];rfl) h).2⟩
     ·obtain ⟨hb,ho⟩:=obOf (.inr h) hob
      exact⟨ho,(skip (sr' _ hb) (by rw[hw,hb];rfl) h).2⟩
    ·split at h
     ·obtain ⟨hb,ho⟩:=obOf (.inr h) hob
      exact⟨ho,(skip (sr' _ hb) (by rw[hw,hb];rfl) h).2⟩
     ·obtain ⟨hb,ho⟩:=obOf (.inl h) hob
      exact⟨ho,(wK (sr' _ hb) (by rw[hw,hb];rfl) h).2⟩
    ·cases h
   ·cases h
  ·cases h
theorem Afu {o:Oper} {x y:X} (h:Ww P n o x=some y) (hob:All y.ob):All x.ob:=by
 unfold Ww at h
 split at h
 ·split at h
  ·cases h;exact(Ft hob).2
  ·cases h
 ·cases h
theorem Afv {o:Oper} {x y:X} (h:Zv n o x=some y) (hob:All y.ob):All x.ob:=by
 unfold Zv at h
 split at h
 ·cases h;exact hob
 ·cases h
theorem Aps {ops:Array Oper} {o:Oper} {x y:X} (h:xop P n ops o x=some y) (hob:All y.ob):All x.ob:=by
 unfold xop at h
 repeat' split at h
 all_goals first|(cases h;done)|exact Afu h hob|exact Afv h hob|exact(Afu h hob).2|exact(Afv h hob).2
theorem Td {ops:Array Oper} : ∀ {l:List Oper} {x y:X},Anc P n ops l x=some y→All y.ob→All x.ob
 |[],x,y,h,hob=>by cases h;exact hob
 |o::r,x,y,h,hob=>by
  unfold Anc at h
  split at h
  ·split at h
   ·split at h
    ·rename_i y' hy
     split at h
     ·cases h;exact(Td hy hob).2
     ·cases h
    ·cases h
   ·cases h
  ·split at h
   ·rename_i z hz
    exact Aps hz (Wd _ (Td h hob))
   ·cases h
theorem Pe {ops:Array Oper} : ∀ {l:List Oper} {x y:X} {π:Nat→Pl} {R:Nat→Prop} {a:Act} {w:World},SR n x.tm x.hp π R a w→Anc P n ops l x=some y→All y.ob→
  ∀(Q:Exit→Act→World→Prop) (rest:List Oper),(∀a' w' π' R',SR n y.tm y.hp π' R' a' w'→Goes x.hp π R w y.hp π' R' w'→wpList P ops Q rest a' w')→wpList P ops Q (l++rest) a w
 |[],x,y,π,R,a,w,sr,h,hob,Q,rest,hK=>by cases h;exact hK a w π R sr (Goes.refl _ _ _ _)
 |o::r,x,y,π,R,a,w,sr,h,hob,Q,rest,hK=>by
  rw[List.cons_append]
  unfold Anc at h
  split at h
  ·rename_i e ds ty j i c l hfo
   obtain ⟨p,hop,hgd,hp,hj⟩:=Acx hfo
   ·skip
    ·skip
     ·skip
      split at h
      ·rename_i c0 tm' hc1 hpv hput
       split at h
       ·rename_i y' hy
        split at h
        ·rename_i m fs hgh hfs
         cases h
         have hi:l[i]? =some e:=(Td hy hob).1
         have hc1:c=1:=Nat.eq_of_beq_eq_true hc1
         subst hc1
         obtain ⟨p0,okF,gF,hcell,hback⟩:=Ane sr.ok hj hi
         have hfF:Frm x.tm (Gz x.hp j l e) (upd π x.hp.length p0) w R a:=gF.frm sr.ok sr.frm
         have hc0:c0=x.hp.length:=by
          have:Su P ty [.own x.hp.length] 0=some (.c (.own c0)):=hpv
          unfold Su at this
          split at this
          ·split at this<;>cases this
          ·split at this<;>cases this
          ·simp at this;exact this.symm
          ·cases this
         subst hc0
         have h1:=T6 (w:=w) (R:=R) hj (A7 sr.frm hp)
         obtain ⟨v,hrun,hv⟩:=Pd (H:=Gz x.hp j l e) (π:=upd π x.hp.length p0) (R:=R) hpv (fun _ _ h=>h) hcell
         have hex:(execOp a.eval o).run P w= .ok (.value v) w:=by
          have:=hrun w rfl
          simp only[Nat.add_zero] at this
          simp[execOp,hop,h1,this]
         refine Tc (Jr hgd) fun K hKK=>?_
         unfold Oper.wp
         rw[hex]
         refine hKK _ _ ?_
         obtain ⟨f1,f2,f3⟩:=Kk hfF sr.size hput hv
         refine Pe (x:=⟨ds,tm',Gz x.hp j l e,(l[i]? =some e)::x.ob⟩) ⟨okF,f1,f2,f3.trans sr.defers⟩ hy hob Q rest fun a' w' π' R' sr' g'=>?_
         obtain ⟨b1,b2,b3⟩:=hback sr'.ok g' hgh hfs
         exact hK _ _ _ _ ⟨b1,b3 _ _ sr'.frm,sr'.size,sr'.defers⟩ b2
        ·cases h
       ·cases h
      ·cases h
  split at h
  ·rename_i z hz
   refine(X9 sr hz (Wd _ (Td h hob))).2 Q (r++rest) fun a' w' π' R' sr' g=>?_
   obtain ⟨π1,R1,sr1,g1⟩:=Afs sr' (Td h hob)
   exact Pe sr1 h hob Q rest fun a'' w'' π'' R'' sr'' g'=>hK _ _ _ _ sr'' ((g.trans g1).trans g')
  ·cases h
theorem Ag4 {ops:Array Oper} {l:List Oper} {x y:X} {π:Nat→Pl} {R:Nat→Prop} {a:Act} {w:World} (sr:SR n x.tm x.hp π R a w) (h:Anc P n ops l x=some y) (hob:All y.ob)
  (Q:Exit→Act→World→Prop) (hK: ∀a' w' π' R',SR n y.tm y.hp π' R' a' w'→Goes x.hp π R w y.hp π' R' w'→Q .normal a' w'):wpList P ops Q l a w:=by
 have:=Pe sr h hob Q [] fun a' w' π' R' sr' g=>wpList_nil (hK a' w' π' R' sr' g)
 rwa [List.append_nil] at this
end
section
variable {H:List Blk} {π:Nat→Pl} {R:Nat→Prop} {w:World} {P:Program} {tm:List (Nat×S)} {a:Act} {n:Nat}
theorem We: ∀ {vol:List Nat} {H:List Blk} {j:Nat} {x:Blk},(Dj H vol)[j]? =some x→x= .dK∨(F0 vol j=none∧H[j]? =some x)
 |[],_,_,_,h=> .inr ⟨rfl,h⟩
 |i::r,H,j,x,h=>by
  rcases We (H:=H.set i .dK) h with h1|⟨h1,h2⟩
  ·exact .inl h1
  ·rcases Ds h2 with ⟨rfl,rfl,_⟩|⟨h3,h4⟩
   ·exact .inl rfl
   ·refine .inr ⟨?_,h4⟩
    unfold F0
    split
    ·rename_i hb;exact(h3 (Nat.eq_of_beq_eq_true hb).symm).elim
    ·rw[h1];rfl
theorem Nc: ∀ {vol:List Nat} {H:List Blk},HOK H π R w→HOK (Dj H vol) π R w∧Goes H π R w (Dj H vol) π R w
 |[],H,ok=>⟨ok,Goes.refl _ _ _ _⟩
 |i::r,H,ok=>by
  rw[Dj]
  cases hi:H[i]? with
  |none=>
   have:H.set i .dK=H:=List.set_eq_of_length_le (by
    rcases Nat.lt_or_ge i H.length with h|h
    ·rw[List.getElem?_eq_getElem h] at hi;cases hi
    ·exact h)
   rw[this]
   exact Nc ok
  |some x=>
   obtain ⟨h1,h2⟩:=Nc (vol:=r) (ok.kill hi)
   exact⟨h1,(Goes.kill hi).trans h2⟩
theorem Afw {op:Op} {d:Option Dir} {so:Option S} {H':List Blk} {ob:List Prop} {u:Bool} (h:Qu P H tm op d=some (so,H',ob,u)): ∀j,j<H.length→j ∉ Jp tm op→H'[j]? =H[j]? :=by
 intro j hj hm
 have push: ∀ {x:Blk},(H++[x])[j]? =H[j]? :=fun {x} =>List.getElem?_append_left hj
 unfold Qu at h
 split at h
 case h_3=>
  split at h
  ·rename_i hx _
   simp only[Jp,hx,List.mem_singleton] at hm
   repeat' split at h
   all_goals first
    |(cases h;done)
    |(cases h;exact List.getElem?_set_ne (fun e=>hm e.symm))
  ·rename_i hx hy
   have hm1: ∀ {k:Nat},j≠k→True:=fun _=>trivial
   have hmj: ∀ {q:Nat},q∈Jp tm (.store _ _ _)→j≠q:=fun h e=>hm (e▸h)
   have h0:=hmj (Rj hx _ (List.mem_singleton.2 rfl))
   repeat' split at h
   all_goals first
    |(cases h;done)
    |(cases h;exact List.getElem?_set_ne (fun e=>h0 e.symm))
    |(cases h
      have h1:=hmj (Aiy hx hy)
      rw[List.getElem?_set_ne (fun e=>h1 e.symm)]
      exact List.getElem?_set_ne (fun e=>h0 e.symm))
    |(cases h
      have h1:=hmj (Aiz hx hy)
      rw[List.getElem?_set_ne (fun e=>h1 e.symm)]
      exact List.getElem?_set_ne (fun e=>h0 e.symm))
  ·cases h
 case h_7 args tys=>
  split at h
  ·rename_i s x ts tx t hargs _
   split at h
   ·rename_i hs hx
    have hmj: ∀ {q:Nat},ev tm s=some (.v (.c (.own q)))→j≠q:=fun hq e=>hm (e▸X3 hargs hq)
    repeat' split at h
    all_goals first
     |(cases h;done)
     |(cases h;exact push)
     |(cases h
       rw[List.getElem?_append_left (by simpa using hj)]
       exact List.getElem?_set_ne (fun e=>hmj hs e.symm))
   ·cases h
  ·rename_i s x ts tx hargs _
   split at h
   ·rename_i e e2 j1 k1 _ _ hs hx
    have m1:j1∈Jp tm (.call { callee:= .builtin .append,args,argTypes:=tys }):=X3 hargs hs
    have m2:k1∈Jp tm (.call { callee:= .builtin .append,args,argTypes:=tys }):=by simp[Jp,hargs,hs,hx]
    repeat' split at h
    all_goals first
     |(cases h;done)
     |(cases h
       have n1:j1≠j:=fun e=>hm (e▸m1)
       have n2:k1≠j:=fun e=>hm (e▸m2)
       rw[List.getElem?_append_left (by simpa using hj),List.getElem?_set_ne n2,List.getElem?_set_ne n1])
   ·cases h
  ·cases h
 case h_4 ty len parts=>
  split at h
  ·repeat' split at h
   all_goals first
    |(cases h;done)
    |(cases h;exact push)
  ·split at h
   ·rename_i i n k hi hps
    have m1:k∈Jp tm (.buildSlice ty len parts):=by simp only[Jp,hps];simp
    repeat' split at h
    all_goals first
     |(cases h;done)
     |(cases h
       have n1:k≠j:=fun e=>hm (e▸m1)
       rw[List.getElem?_append_left (by simpa using hj),List.getElem?_set_ne n1])
   ·repeat' split at h
    all_goals first
     |(cases h;done)
     |(cases h;exact push)
   ·cases h
  ·cases h
 all_goals
  repeat' split at h
  all_goals first
   |(cases h;done)
   |(cases h;exact push)
theorem Ank {c:Call} {idx:List Nat} {res s:S} {L' H':List Blk} {p:Prop} (h:Aeb P H tm c idx res L'=some (s,H',p)): ∀j,j<H.length→j ∉ idx→H'[j]? =H[j]? :=by
 intro j hj hm
 unfold Aeb at h
 repeat' split at h
 all_goals first
  |(cases h;done)
  |skip
 cases h
 unfold Rk
 rw[List.getElem?_append_left (by rw[Jq];exact hj)]
 exact Ma _ _ _ _ fun p hp=>hm (List.mem_of_getElem? hp)
theorem Ar1 {op:Op} {d:Option Dir} {s:S} {H':List Blk} {ob:List Prop} {u:Bool} (h:xdo P H tm op d=some (s,H',ob,u)): ∀j,j<H.length→j ∉ Sw tm op d→H'[j]? =H[j]? :=by
 intro j hj hm
 have noCall: ∀ {so ob u},Qu P H tm op d=some (so,H',ob,u)→Sw tm op d=Jp tm op:=by
  intro so ob u hp
  unfold Sw
  split
  ·rename_i heq
   unfold Qu at hp
   split at hp<;>first|(cases hp;done)|(rename_i he;cases he)
  ·rfl
 unfold xdo at h
 split at h
 ·cases h;rfl
 ·split at h
  ·cases h;rfl
  ·split at h
   ·rename_i hp
    cases h
    rw[noCall hp] at hm
    exact Afw hp j hj hm
   ·rename_i hp
    cases h
    rw[noCall hp] at hm
    exact Afw hp j hj hm
   ·split at h
    ·split at h
     ·cases h;rfl
     ·split at h
      ·rename_i c idx res L' _ _ _ _
       split at h
       ·rename_i hp
        cases h
        refine Ank hp j hj ?_
        have hval: ∃f,c.callee= .value f:=by
         unfold Aeb at hp
         split at hp
         ·rename_i f hcal;exact⟨f,hcal⟩
         ·cases hp
        obtain ⟨f,hf'⟩:=hval
        obtain ⟨callee,args,tys⟩:=c
        dsimp only at hf'
        subst hf'
        exact hm
       ·cases h
      ·cases h
    ·cases h
theorem Ac0 {wt:Bool} {hq:List Blk} {tq:List (Nat×S)} {π0:Nat→Pl} {R0:Nat→Prop} {W:World} (okq:HOK hq π0 R0 W) (fq:Frm tq hq π0 W R0 a) (ok:HOK H π R w) (hf:Frm tm H π w R a) (hS:Still hq π0 R0 W w)
  {o:Oper} {d:Option Dir} {s s':S} {ob:List Prop} {u:Bool} (h:Ai8 P wt H tm hq tq o.op d=some (s,s',ob,u)) (hob:All ob):
  ∃v,(∀w',(wt=true→Still hq π0 R0 W w')→(execOp a.eval o).run P w'= .ok (.value v) w')∧N8 H π w R s v∧N8 hq π0 W R0 s' v:=by
 have both: ∀ {s s':S},Rg P hq π0 W R0 a o s'→Rg P H π w R a o s→∃v,(∀w',Still hq π0 R0 W w'→(execOp a.eval o).run P w'= .ok (.value v) w')∧N8 H π w R s v∧N8 hq π0 W R0 s' v:=by
  rintro s s' ⟨v,hv,hr⟩ ⟨v',hv',hr'⟩
  have h1:=hv w hS
  have h2:=hv' w Still.refl
  rw[h1] at h2
  cases h2
  exact⟨v,hv,hr',hr⟩
 unfold Ai8 at h
 split at h
 ·rename_i s1 ob1 hp
  split at h
  ·rename_i s2 ob2 hp2
   cases h
   obtain ⟨h1,h2⟩:=Ft hob
   obtain ⟨v,hv,hr⟩:=Le ok hf hp h1
   obtain ⟨v',hv',hr'⟩:=Le okq fq hp2 h2
   have:=hv w
   rw[hv' w] at this
   cases this
   exact⟨v,fun w' _=>hv w',hr,hr'⟩
  ·cases h
   obtain ⟨v,hv,hr⟩:=Le ok hf hp hob
   exact⟨v,fun w' _=>hv w',hr,trivial⟩
 ·split at h
  ·cases h
  split at h
  ·rename_i hp1 hp2
   cases h
   obtain ⟨h1,h2⟩:=Ft hob
   obtain ⟨v,hv,hr⟩:=both (S9 okq fq hp1 h2) (S9 ok hf hp2 h1)
   exact⟨v,fun w' hS=>hv w' (hS rfl),hr⟩
  ·split at h
   ·split at h
    ·rename_i hp1 hp2
     cases h
     obtain ⟨h1,h2⟩:=Ft hob
     obtain ⟨v,hv,hr⟩:=both (U6 okq fq hp1 h2) (U6 ok hf hp2 h1)
     exact⟨v,fun w' hS=>hv w' (hS rfl),hr⟩
    ·cases h
   ·cases h
theorem Wf {N:Nat} {vol:List Nat} : ∀ {M:List Nat},Abi N vol M=true→∀j∈M,N≤j∨(F0 vol j).isSome=true
 |[],_,j,hj=>by cases hj
 |i::r,h,j,hj=>by
  simp only[Abi,Bool.and_eq_true,Bool.or_eq_true] at h
  rcases List.mem_cons.1 hj with rfl|hj
  ·exact h.1.imp (fun h=>Nat.le_of_ble_eq_true h) id
  ·exact Wf h.2 j hj
structure Mid (n:Nat) (H0:List Blk) (π0:Nat→Pl) (R0:Nat→Prop) (W:World) (vol:List Nat) (q:XQ) (π:Nat→Pl) (R:Nat→Prop) (a:Act) (w:World):Prop where
 sr:SR n q.x.tm q.x.hp π R a w
 goes:Goes H0 π0 R0 W q.x.hp π R w
 fq:Frm q.tq (Dj H0 vol) π0 W R0 a
 still:Still (Dj H0 vol) π0 R0 W w
 same: ∀j,j<H0.length→F0 vol j=none→q.x.hp[j]? =H0[j]?
theorem Xc {hq:List Blk} {N:Nat} {vol:List Nat} {wt last:Bool} {o:Oper} {b:Bool} {q q':XQ} (h:Abj P n hq N vol wt last o b q=some q') (hob:All q'.x.ob):All q.x.ob:=by
 unfold Abj at h
 repeat' split at h
 all_goals first|(cases h;done)|(cases h;exact(Ft hob).2)
theorem Xd {o:Oper} {q q':XQ} (h:Acz n o q=some q') (hob:All q'.x.ob):All q.x.ob:=by
 unfold Acz at h
 split at h
 ·cases h;exact hob
 ·cases h
theorem Qp {ops:Array Oper} {hq:List Blk} {N:Nat} {vol:List Nat} {wt last:Bool} {o:Oper} {b:Bool} {q q':XQ} (h:qop P n ops hq N vol wt last o b q=some q') (hob:All q'.x.ob):All q.x.ob:=by
 unfold qop at h
 repeat' split at h
 all_goals first|(cases h;done)|exact Xc h hob|exact Xd h hob|exact(Xc h hob).2|exact(Xd h hob).2
theorem Abm (q:XQ) (h:All (Aij q).x.ob):All q.x.ob:=by
 unfold Aij at h
 split at h
 ·split at h
  ·exact h.2
  ·exact h.2.2
  ·exact h
 ·exact h.2
 ·exact h
theorem Mb (q:XQ) (h:All (qas q).x.ob):All q.x.ob:=Abm _ (Abm _ h)
theorem Ya {ops:Array Oper} {hq:List Blk} {N:Nat} {vol:List Nat} {k:Nat} : ∀ {l:List (Nat×Bool)} {q q':XQ},Aru P n ops hq N vol k l q=some q'→All q'.x.ob→All q.x.ob
 |[],q,q',h,hob=>by cases h;exact hob
 |(i,b)::r,q,q',h,hob=>by
  unfold Aru at h
  split at h
  ·split at h
   ·rename_i hz;exact Qp hz (Mb _ (Ya h hob))
   ·cases h
  ·cases h
section
variable {H0:List Blk} {π0:Nat→Pl} {R0:Nat→Prop} {W:World} {vol:List Nat} {ops:Array Oper} {Q:Exit→Act→World→Prop}
structure Aft (n:Nat) (H0:List Blk) (π0:Nat→Pl) (R0:Nat→Prop) (W:World) (vol:List Nat) (last:Bool) (q:XQ) (π:Nat→Pl) (R:Nat→Prop) (a:Act) (w:World):Prop where
 sr:SR n q.x.tm q.x.hp π R a w
 goes:Goes H0 π0 R0 W q.x.hp π R w
 mid:last=false→Mid n H0 π0 R0 W vol q π R a w
theorem Mid.aft {last:Bool} {q:XQ} {π:Nat→Pl} {R:Nat→Prop} {a:Act} {w:World} (m:Mid n H0 π0 R0 W vol q π R a w):Aft n H0 π0 R0 W vol last q π R a w:=⟨m.sr,m.goes,fun _=>m⟩
theorem Lj (ok0:HOK H0 π0 R0 W) {i k:Nat} {last:Bool} (hlast:last=true→i=k) {b:Bool} {J:Act→World→Prop} {o:Oper} (ho:ops[i]? =some o) {q q':XQ} {π:Nat→Pl} {R:Nat→Prop} {a:Act} {w:World} (mid:Mid n H0 π0 R0 W vol q π R a w)
  (hw:Region.wanted o (yielded ops a.tmps)=true) (h:Abj P n (Dj H0 vol) H0.length vol (J7 .any ops k i) last o b q=some q') (hob:All q'.x.ob)
  (hK: ∀π' R' a' w',Aft n H0 π0 R0 W vol last q' π' R' a' w'→J a' w'):Abh P ops (NoPanic Q) (Still (Dj H0 vol) π0 R0 W) k .any b i J a w:=by
 obtain ⟨okq,gq⟩:=Nc (vol:=vol) ok0
 unfold Abj at h
 split at h
 ·split at h
  ·rename_i s s' ob u hdo
   split at h
   ·rename_i tm' tq' h1 h2
    cases h
    obtain ⟨v,hv,hr,hr'⟩:=Ac0 okq mid.fq mid.sr.ok mid.sr.frm mid.still hdo (Ft hob).1
    refine Ag2 o ho hw fun K hKK=>⟨v,fun w' hS=>?_,hKK _ (hK π R _ w (Mid.aft ?_))⟩
    ·unfold Oper.quietAt
     rw[hv w' hS]
     exact⟨rfl,rfl⟩
    ·obtain ⟨f1,f2,f3⟩:=Kk mid.sr.frm mid.sr.size h1 hr
     obtain ⟨g1,_,_⟩:=Kk mid.fq mid.sr.size h2 hr'
     exact⟨⟨mid.sr.ok,f1,f2,f3.trans mid.sr.defers⟩,mid.goes,g1,mid.still,mid.same⟩
   ·cases h
  ·cases h
 ·split at h
  ·rename_i s H' ob u htouch hdo
   split at h
   ·rename_i tm' tq' h1 h2
    cases h
    refine Anh o ho hw fun K hKK=>X6 (n:=n) mid.sr.ok mid.sr.frm hdo (Ft hob).1 K _ fun v w' π' R' ok g hm hv=>?_
    obtain ⟨f1,f2,f3⟩:=Kk (g.frm mid.sr.ok mid.sr.frm) mid.sr.size h1 hv
    have sr2:SR n tm' H' π' R' (a.put o.dst v) w':=⟨ok,f1,f2,f3.trans mid.sr.defers⟩
    cases hla:last with
    |true=>exact hKK _ _ (.inl (hlast hla)) (hK π' R' _ _ ⟨sr2,mid.goes.trans g,fun h=>by rw[hla] at h;cases h⟩)
    |false=>
    rw[hla,Bool.false_or] at htouch
    have hTS:=Wf htouch
    have hS':Still (Dj H0 vol) π0 R0 W w':=by
     refine⟨fun b hb=>(g.keepR mid.sr.ok (mid.goes.mono b hb)).trans (mid.still.R b hb),?_⟩
     rintro b ⟨j,x,hj,hr⟩
     rcases We hj with rfl|⟨hv,hj0⟩
     ·exact hr.elim
     have hlt:=Aw hj0
     have hcur:q.x.hp[j]? =some x:=(mid.same j hlt hv).trans hj0
     have hr':Has (π j) x b:=hr.at (mid.goes.place j hlt)
     rw[←mid.still.own _ ⟨j,x,hj,hr⟩]
     refine hm _ (mid.sr.ok.lt j x b hcur hr') fun j' hj' x' hx' hrx'=>?_
     have:=mid.sr.ok.inj j j' x x' b hcur hx' hr' hrx'
     subst this
     rcases hTS j hj' with h|h
     ·omega
     ·rw[hv] at h;cases h
    refine hKK _ _ (.inr hS') (hK π' R' _ _ (Mid.aft ?_))
    obtain ⟨g1,_,_⟩:=Kk mid.fq mid.sr.size h2 (v:=v) trivial
    refine⟨⟨ok,f1,f2,f3.trans mid.sr.defers⟩,mid.goes.trans g,g1,hS',fun j hj hv=>?_⟩
    have hjl:j<q.x.hp.length:=by
     have:=mid.same j hj hv
     rw[List.getElem?_eq_getElem hj] at this
     exact Aw this
    rw[Ar1 hdo j hjl fun hjm=>by
     rcases hTS j hjm with h|h
     ·omega
     ·rw[hv] at h;cases h]
    exact mid.same j hj hv
   ·cases h
  ·cases h
theorem Pf {i k:Nat} {last:Bool} (hlast:last=true→i=k) {b:Bool} {J:Act→World→Prop} {o:Oper} (ho:ops[i]? =some o) {q q':XQ} {π:Nat→Pl} {R:Nat→Prop} {a:Act} {w:World} (mid:Mid n H0 π0 R0 W vol q π R a w)
  (hw:Region.wanted o (yielded ops a.tmps)=false) (h:Acz n o q=some q')
  (hK: ∀π' R' a' w',Aft n H0 π0 R0 W vol last q' π' R' a' w'→J a' w'):Abh P ops (NoPanic Q) (Still (Dj H0 vol) π0 R0 W) k .any b i J a w:=by
 unfold Acz at h
 split at h
 ·rename_i tm' tq' h1 h2
  cases h
  refine Ag3 o ho hw (hK π R _ w (Mid.aft ?_))
  obtain ⟨f1,f2,f3⟩:=Kk mid.sr.frm mid.sr.size h1 (v:=undef) (X8 (n:=0))
  obtain ⟨g1,_,_⟩:=Kk mid.fq mid.sr.size h2 (v:=undef) (X8 (n:=0))
  exact⟨⟨mid.sr.ok,f1,f2,f3.trans mid.sr.defers⟩,mid.goes,g1,mid.still,mid.same⟩
 ·cases h
theorem Ac1 (ok0:HOK H0 π0 R0 W) {i k:Nat} {last:Bool} (hlast:last=true→i=k) {b:Bool} {J:Act→World→Prop} {o:Oper} (ho:ops[i]? =some o) {q q':XQ} {π:Nat→Pl} {R:Nat→Prop} {a:Act} {w:World} (mid:Mid n H0 π0 R0 W vol q π R a w)
  (h:qop P n ops (Dj H0 vol) H0.length vol (J7 .any ops k i) last o b q=some q') (hob:All q'.x.ob)
  (hK: ∀π' R' a' w',Aft n H0 π0 R0 W vol last q' π' R' a' w'→J a' w'):Abh P ops (NoPanic Q) (Still (Dj H0 vol) π0 R0 W) k .any b i J a w:=by
 have sr:=mid.sr
 unfold qop at h
 split at h
 ·rename_i hg
  exact Lj ok0 hlast ho mid (Jr hg) h hob hK
 ·rename_i j wt hg
  split at h
  ·rename_i t hj
   split at h
   ·rename_i c hlt hl
    have hlt:t<n:=by simpa using hlt
    have hv:a.tmps.getD t undef= .bool c:=sr.frm t _ hl
    have hw:=Sa hg hj sr.size hlt hv
    split at h
    ·exact Lj ok0 hlast ho mid (by rw[hw];rfl) h hob hK
    ·exact Lj ok0 hlast ho mid (by rw[hw];rfl) h hob hK
    ·rename_i h1 h2
     exact Pf (last:=last) hlast ho mid (by rw[hw];cases c<;>cases wt<;>simp_all) h hK
   ·rename_i l hlt hl
    exact Pf (last:=last) hlast ho mid (Aab hg hj sr.size (by simpa using hlt) (sr.frm t _ hl)) h hK
   ·rename_i c hlt hl
    have hlt:t<n:=by simpa using hlt
    have hv:a.tmps.getD t undef= .bool c:=sr.frm t _ hl
    have hw:=Sa hg hj sr.size hlt hv
    have mid': ∀d ds ob,c=d→Mid n H0 π0 R0 W vol ⟨⟨ds,(t,V1 (.lit d))::q.x.tm,q.x.hp,ob⟩,q.tq⟩ π R a w:=fun d ds ob hd=>⟨⟨sr.ok,Aeg sr.frm hl hd,sr.size,sr.defers⟩,mid.goes,mid.fq,mid.still,mid.same⟩
    split at h
    ·split at h
     ·have hb:=(Xc h hob).1
      exact Lj ok0 hlast ho (mid' _ _ _ hb) (by rw[hw,hb];rfl) h hob hK
     ·have hb:=(Xd h hob).1
      exact Pf (last:=last) hlast ho (mid' _ _ _ hb) (by rw[hw,hb];rfl) h hK
    ·split at h
     ·have hb:=(Xd h hob).1
      exact Pf (last:=last) hlast ho (mid' _ _ _ hb) (by rw[hw,hb];rfl) h hK
     ·have hb:=(Xc h hob).1
      exact Lj ok0 hlast ho (mid' _ _ _ hb) (by rw[hw,hb];rfl) h hob hK
    ·cases h
   ·cases h
  ·cases h
theorem Aja {q:XQ} {π:Nat→Pl} {R:Nat→Prop} {a:Act} {w:World} (mid:Mid n H0 π0 R0 W vol q π R a w) (h:All (Aij q).x.ob):Mid n H0 π0 R0 W vol (Aij q) π R a w:=by
 unfold Aij at h ⊢
 split at h
 ·split at h
  ·rename_i hl _
   exact⟨⟨mid.sr.ok,Aac mid.sr.frm hl h.1,mid.sr.size,mid.sr.defers⟩,mid.goes,mid.fq,mid.still,mid.same⟩
  ·rename_i hl hq
   exact⟨⟨mid.sr.ok,Aac mid.sr.frm hl h.2.1,mid.sr.size,mid.sr.defers⟩,mid.goes,Aac mid.fq hq h.1,mid.still,mid.same⟩
  ·exact mid
 ·have he:=Abk h.1
  refine⟨?_,?_,mid.fq,mid.still,?_⟩<;>simp only
  ·rw[he];exact mid.sr
  ·rw[he];exact mid.goes
  ·rw[he];exact mid.same
 ·exact mid
theorem Apt {q:XQ} {π:Nat→Pl} {R:Nat→Prop} {a:Act} {w:World} (mid:Mid n H0 π0 R0 W vol q π R a w) (h:All (qas q).x.ob):Mid n H0 π0 R0 W vol (qas q) π R a w:=Aja (Aja mid (Abm _ h)) h
theorem Ajb {q:XQ} {π:Nat→Pl} {R:Nat→Prop} {a:Act} {w:World} (sr:SR n q.x.tm q.x.hp π R a w) (h:All (Aij q).x.ob):SR n (Aij q).x.tm (Aij q).x.hp π R a w∧(Aij q).x.hp=q.x.hp:=by
 unfold Aij at h ⊢
 split at h
 ·split at h
  ·rename_i hl _
   exact⟨⟨sr.ok,Aac sr.frm hl h.1,sr.size,sr.defers⟩,rfl⟩
  ·rename_i hl hq
   exact⟨⟨sr.ok,Aac sr.frm hl h.2.1,sr.size,sr.defers⟩,rfl⟩
  ·exact⟨sr,rfl⟩
 ·have he:=Abk h.1
  simp only
  rw[he]
  exact⟨sr,rfl⟩
 ·exact⟨sr,rfl⟩
theorem Apu {q:XQ} {π:Nat→Pl} {R:Nat→Prop} {a:Act} {w:World} (sr:SR n q.x.tm q.x.hp π R a w) (h:All (qas q).x.ob):SR n (qas q).x.tm (qas q).x.hp π R a w∧(qas q).x.hp=q.x.hp:=by
 obtain ⟨h1,h2⟩:=Ajb sr (Abm _ h)
 obtain ⟨h3,h4⟩:=Ajb h1 h
 exact⟨h3,h4.trans h2⟩
theorem Aad (ok0:HOK H0 π0 R0 W) {k:Nat} : ∀ {l:List (Nat×Bool)} {q q':XQ} {π:Nat→Pl} {R:Nat→Prop} {a:Act} {w:World},Mid n H0 π0 R0 W vol q π R a w→
  Aru P n ops (Dj H0 vol) H0.length vol k l q=some q'→All q'.x.ob→(∀π' R' a' w',SR n q'.x.tm q'.x.hp π' R' a' w'→Goes H0 π0 R0 W q'.x.hp π' R' w'→Q .normal a' w')→Sy P ops (NoPanic Q) (Still (Dj H0 vol) π0 R0 W) k .any l a w
 |[],q,q',π,R,a,w,mid,h,_,hK=>by cases h;exact hK π R a w mid.sr mid.goes
 |(i,b)::r,q,q',π,R,a,w,mid,h,hob,hK=>by
  unfold Aru at h
  split at h
  ·rename_i o ho
   split at h
   ·rename_i z hz
    have hl:(Nat.beq i k&&r.isEmpty)=true→i=k:=fun h=>by
     simp only[Bool.and_eq_true] at h
     exact Nat.eq_of_beq_eq_true h.1
    refine Ai7 (Ac1 ok0 hl ho mid hz (Mb _ (Ya h hob)) fun π' R' a' w' aft=>?_)
    cases hla:(Nat.beq i k&&r.isEmpty) with
    |false=>exact Aad ok0 (Apt (aft.mid hla) (Ya h hob)) h hob hK
    |true=>
     simp only[Bool.and_eq_true,List.isEmpty_iff] at hla
     obtain ⟨_,rfl⟩:=hla
     cases h
     obtain ⟨sr2,hh⟩:=Apu aft.sr hob
     exact hK π' R' a' w' sr2 (hh▸aft.goes)
   ·cases h
  ·cases h
end
theorem Aei {id:Nat} {ops:Array Oper} {x y:X} {π:Nat→Pl} {R:Nat→Prop} {a:Act} {w:World} (sr:SR n x.tm x.hp π R a w) (h:Anj P n ops x=some y) (hob:All y.ob):
  All x.ob∧∀(Q:Exit→Act→World→Prop),(∀a' w' π' R',SR n y.tm y.hp π' R' a' w'→Goes x.hp π R w y.hp π' R' w'→Q .normal a' w')→(Code.region id ops true).wp P Q a w:=by
 obtain ⟨ds,tm,H,ob⟩:=x
 unfold Anj at h
 dsimp only at h
 split at h
 ·rename_i l vol ds'
  split at h
  ·rename_i hB
   split at h
   ·rename_i q hq
    cases h
    simp only[Bool.and_eq_true] at hB
    obtain ⟨hB,hfol⟩:=hB
    have ho:=Ya hq hob
    refine⟨ho,fun Q hK=>?_⟩
    have gr:Grows w w.drew:=(Grows.refl w).drew
    have ok0:HOK H π R w.drew:=sr.ok.grows gr
    have g0:Goes H π R w H π R w.drew:=Goes.grows gr
    obtain ⟨okq,gq⟩:=Nc (vol:=vol) ok0
    have hf0:Frm tm H π w.drew R a:=g0.frm sr.ok sr.frm
    have he:ops=ops.toList.toArray:=by simp
    rw[he]
    refine Zx (Still (Dj H vol) π R w.drew) (Ani ops l) l hfol (by rw[←he];simpa [Bool.and_eq_true] using hB) Still.refl ?_
    rw[←he]
    exact Aad ok0 (q:=⟨⟨ds',tm,H,ob⟩,tm⟩) ⟨⟨ok0,hf0,sr.size,sr.defers⟩,Goes.refl _ _ _ _,gq.frm ok0 hf0,Still.refl,fun _ _ _=>rfl⟩ hq hob fun π' R' a' w' sr' g'=>hK a' w' π' R' sr' (g0.trans g')
   ·cases h
  ·cases h
 ·cases h
end
def Anm (tm:List (Nat×S)):List Nat→Option (List (Nat×S))
 |[]=>some []
 |t::r=>match Qz tm t,Anm tm r with
  |some s,some l=>some ((t,s)::l)
  |_,_=>none
def trS (H:List Blk) (idx:List Nat):S→Option S
 | .v x=>(trV false H idx x).map .v
 | .tup l=>(Ars false H idx l).map .tup
 | .junk=>some .junk
def trT (H:List Blk) (idx:List Nat):List (Nat×S)→Option (List (Nat×S))
 |[]=>some []
 |(t,s)::r=>match trS H idx s,trT H idx r with
  |some s',some l=>some ((t,s')::l)
  |_,_=>none
def Ro:Nat→Nat→List Nat→Bool
 |_,0,_=>true
 |k,n+1,j::r=>Nat.beq j k&&Ro (k+1) n r
 |_,_+1,[]=>false
def pre (N:Nat):List Dir→List (Nat×S)→List Blk→Option (List Dir×List (Nat×S)×List Blk)
 | .keep l::ds,tm,H=>match Anm tm l with
  |some tm'=>pre N ds tm' H
  |none=>none
 | .pub j i::ds,tm,H=>match Aed H (.pub j i) j i with
  |some H'=>pre N ds tm H'
  |none=>none
 | .mk j i t::ds,tm,H=>match Aed H (.mk j i t) j i with
  |some H'=>pre N ds tm H'
  |none=>none
 | .mkT j i::ds,tm,H=>match Aed H (.mkT j i) j i with
  |some H'=>pre N ds tm H'
  |none=>none
 | .cut j i::ds,tm,H=>match Aed H (.cut j i) j i with
  |some H'=>pre N ds tm H'
  |none=>none
 | .pubS t::ds,tm,H=>match Abf tm H (.pubS t) t with
  |some (tm',H')=>pre N ds tm' H'
  |none=>none
 | .mkS t ty::ds,tm,H=>match Abf tm H (.mkS t ty) t with
  |some (tm',H')=>pre N ds tm' H'
  |none=>none
 | .mkTS t::ds,tm,H=>match Abf tm H (.mkTS t) t with
  |some (tm',H')=>pre N ds tm' H'
  |none=>none
 | .kill j::ds,tm,H=>match H[j]? with
  |some _=>pre N ds tm (H.set j .dK)
  |none=>none
 | .inA t i d::ds,tm,H=>match Abf tm H (.inA t i d) t with
  |some (tm',H')=>pre N ds tm' H'
  |none=>none
 | .cutS t::ds,tm,H=>match Abf tm H (.cutS t) t with
  |some (tm',H')=>pre N ds tm' H'
  |none=>none
 | .sel σ::ds,tm,H=>match Kp σ&&Ro 0 N σ,trT H σ tm,App H σ σ with
  |true,some tm',some H'=>pre N ds tm' H'
  |_,_,_=>none
 |ds,tm,H=>some (ds,tm,H)
section
variable {H H1:List Blk} {π:Nat→Pl} {R:Nat→Prop} {w:World} {P:Program} {tm:List (Nat×S)} {a:Act} {n:Nat}
theorem Ac2: ∀ {l:List Nat} {tm':List (Nat×S)},Anm tm l=some tm'→Frm tm H π w R a→Frm tm' H π w R a
 |[],tm',h,hf=>by cases h;intro t s hl;cases hl
 |u::r,tm',h,hf=>by
  unfold Anm at h
  split at h
  ·rename_i s l hs hl
   cases h
   intro t s' ht
   unfold Qz at ht
   split at ht
   ·rename_i hb
    cases ht
    have:u=t:=Nat.eq_of_beq_eq_true hb
    subst this
    exact hf _ _ hs
   ·exact Ac2 hl hf t s' ht
  ·cases h
structure GoesN (N:Nat) (H:List Blk) (π:Nat→Pl) (R:Nat→Prop) (w:World) (H':List Blk) (π':Nat→Pl) (R':Nat→Prop) (w':World):Prop where
 os:w'.os=w.os
 tape:w'.tape=w.tape
 output:w'.output=w.output
 size:w.heap.size≤w'.heap.size
 keep: ∀b,b<w.heap.size→¬Ey H π b→w'.heap[b]? =w.heap[b]?
 owned: ∀b,Ey H' π' b→Ey H π b∨w.heap.size≤b
 place: ∀j,j<N→j<H.length→Pl.At (π' j) (π j)
 like: ∀(j:Nat) x,j<N→H[j]? =some x→∃y,H'[j]? =some y∧Like x y
 mono: ∀b,R b→R' b
 back: ∀b,R' b→R b∨Ey H π b∨w.heap.size≤b
theorem Goes.toN (N:Nat) {H':List Blk} {π':Nat→Pl} {R':Nat→Prop} {w':World} (g:Goes H π R w H' π' R' w'):GoesN N H π R w H' π' R' w':=
 ⟨g.os,g.tape,g.output,g.size,g.keep,g.owned,fun j _ hj=>g.place j hj,fun j x _ hx=>g.like j x hx,g.mono,g.back⟩
theorem GoesN.refl (N:Nat) (H:List Blk) (π:Nat→Pl) (R:Nat→Prop) (w:World):GoesN N H π R w H π R w:=(Goes.refl H π R w).toN N
theorem GoesN.trans {N:Nat} {H' H'':List Blk} {π' π'':Nat→Pl} {R' R'':Nat→Prop} {w' w'':World} (h:GoesN N H π R w H' π' R' w') (g:GoesN N H' π' R' w' H'' π'' R'' w''):GoesN N H π R w H'' π'' R'' w'':=by
 refine⟨g.os.trans h.os,g.tape.trans h.tape,g.output.trans h.output,Nat.le_trans h.size g.size,?_,?_,?_,?_,fun b hb=>g.mono b (h.mono b hb),?_⟩
 ·intro b hb ho
  rw[g.keep b (Nat.lt_of_lt_of_le hb h.size) (fun ho'=>by rcases h.owned b ho' with h1|h1;exact ho h1;omega)]
  exact h.keep b hb ho
 ·intro b hb
  rcases g.owned b hb with h1|h1
  ·exact h.owned b h1
  ·right;have:=h.size;omega
 ·intro j hj hjl
  obtain ⟨y,hy,_⟩:=h.like j _ hj (List.getElem?_eq_getElem hjl)
  exact(g.place j hj (Aw hy)).trans (h.place j hj hjl)
 ·intro j x hj hx
  obtain ⟨y,hy,h1⟩:=h.like j x hj hx
  obtain ⟨z,hz,h2⟩:=g.like j y hj hy
  exact⟨z,hz,h1.trans h2⟩
 ·intro b hb
  rcases g.back b hb with h1|h1|h1
  ·exact h.back b h1
  ·rcases h.owned b h1 with h2|h2
   ·exact .inr (.inl h2)
   ·exact .inr (.inr h2)
  ·right;right;have:=h.size;omega
theorem Te: ∀ {N k:Nat} {σ:List Nat},Ro k N σ=true→∀p,p<N→σ[p]? =some (k+p)
 |0,_,_,_,p,hp=>by omega
 |N+1,k,[],h,p,hp=>by cases h
 |N+1,k,j::r,h,p,hp=>by
  simp only[Ro,Bool.and_eq_true] at h
  cases p with
  |zero=>simp[Nat.eq_of_beq_eq_true h.1]
  |succ p=>
   rw[List.getElem?_cons_succ,Te h.2 p (by omega)]
   congr 1
   omega
theorem Ajc {N:Nat} {L:List Blk} (ok:HOK H π R w) {σ:List Nat} (hnd:Kp σ=true) (hir:Ro 0 N σ=true) (hL:App H σ σ=some L):
  ∃πL,HOK L πL R w∧GoesN N H π R w L πL R w∧Down σ H π L πL:=by
 obtain ⟨hlen,hget⟩:=Xb hL
 let πL:Nat→Pl:=fun p=>π (σ.getD p 0)
 have hπ: ∀ {p j:Nat},σ[p]? =some j→πL p=π j:=fun {p j} hp=>by show π (σ.getD p 0)=_;simp[List.getD,hp]
 have down:Down σ H π L πL:=fun p j hp=>by
  obtain ⟨u,y,hu,hy,ht⟩:=hget p j hp
  exact⟨u,y,hu,hy,Gq ht,hπ hp⟩
 have hLp: ∀ {p:Nat} {y:Blk},L[p]? =some y→∃(j:Nat) (u:Blk),σ[p]? =some j∧H[j]? =some u∧trB H σ u=some y:=by
  intro p y hp
  have hlt:p<σ.length:=by rw[←hlen];exact Aw hp
  obtain ⟨u,y',hu,hy',hs⟩:=hget p _ (List.getElem?_eq_getElem hlt)
  rw[hp] at hy';cases hy'
  exact⟨_,u,List.getElem?_eq_getElem hlt,hu,hs⟩
 have ownL: ∀ {b},Ey L πL b→Ey H π b:=by
  rintro b ⟨p,y,hp,hr⟩
  obtain ⟨j,u,hj,hu,hs⟩:=hLp hp
  rw[hπ hj] at hr
  exact⟨j,u,hu,(Gq hs).has.1 hr⟩
 have noB: ∀ {RL:Nat→Prop},false=true→∀j x b,H[j]? =some x→Has (π j) x b→F0 σ j=none→RL b:=fun h=>by cases h
 refine⟨πL,⟨fun p y hp=>?_,fun p q y z b hp hq hy hz=>?_,fun p y b hp hr=>?_,fun b hb=>⟨(ok.R b hb).1,fun ho=>(ok.R b hb).2 (ownL ho)⟩⟩,
  ⟨rfl,rfl,rfl,Nat.le_refl _,fun _ _ _=>rfl,fun b ho=> .inl (ownL ho),fun p hp _=>?_,fun p y hpN hp=>?_,fun _ h=>h,fun _ h=> .inl h⟩,down⟩
 ·obtain ⟨j,u,hj,hu,ht⟩:=hLp hp
  rw[hπ hj]
  have hbx:=ok.blocks j u hu
  cases u with
  |dK=>cases ht;trivial
  |cells cs=>
   simp only[trB,Option.map_eq_some_iff] at ht
   obtain ⟨cs',hcs,rfl⟩:=ht
   obtain ⟨ty,us',hbl,hl⟩:=hbx
   exact⟨ty,us',hbl,down.repL ok (fun _ h=>h) noB hcs hl⟩
  |lst t l=>cases ht;exact hbx
  |tree l=>cases ht;exact hbx
  |ghost n=>cases ht;trivial
  |hole l i N=>cases ht
 ·obtain ⟨i,u,hi,hu,ht⟩:=hLp hp
  obtain ⟨j,v,hj,hv,ht'⟩:=hLp hq
  rw[hπ hi] at hy;rw[hπ hj] at hz
  have hij:=ok.inj i j u v b hu hv ((Gq ht).has.1 hy) ((Gq ht').has.1 hz)
  subst hij
  exact Ua hnd hi hj
 ·obtain ⟨j,u,hj,hu,ht⟩:=hLp hp
  rw[hπ hj] at hr
  exact ok.lt j u b hu ((Gq ht).has.1 hr)
 ·have:=Te hir p hp
  rw[hπ this,Nat.zero_add];exact Pl.At.refl _
 ·have hσ:=Te hir p hpN
  rw[Nat.zero_add] at hσ
  obtain ⟨u,y',hu,hy',hs⟩:=hget p p hσ
  rw[hp] at hu;cases hu
  exact⟨y',hy',by have:=(Gq hs).symm;cases y<;>cases y'<;>simp_all[Same,Like]⟩
theorem Aqj {L:List Blk} {πL:Nat→Pl} (ok:HOK H π R w) {σ:List Nat} (down:Down σ H π L πL): ∀ {tm tm':List (Nat×S)},trT H σ tm=some tm'→Frm tm H π w R a→Frm tm' L πL w R a
 |[],tm',h,hf=>by cases h;intro t s hl;cases hl
 |(u,s)::r,tm',h,hf=>by
  have noB: ∀ {RL:Nat→Prop},false=true→∀j x b,H[j]? =some x→Has (π j) x b→F0 σ j=none→RL b:=fun h=>by cases h
  unfold trT at h
  split at h
  ·rename_i s' l hs hl
   cases h
   have hu:N8 H π w R s (a.tmps.getD u undef):=hf u s (by simp[Qz])
   have hu':N8 L πL w R s' (a.tmps.getD u undef):=by
    cases s with
    |v x=>
     simp only[trS,Option.map_eq_some_iff] at hs
     obtain ⟨x',hx,rfl⟩:=hs
     exact down.repV ok (fun _ h=>h) noB hx hu
    |tup xs=>
     simp only[trS,Option.map_eq_some_iff] at hs
     obtain ⟨xs',hx,rfl⟩:=hs
     obtain ⟨vs,hv,hr⟩:=hu
     exact⟨vs,hv,down.repVs ok (fun _ h=>h) noB hx hr⟩
    |junk=>cases hs;trivial
   have hsub: ∀ {t:Nat} {s0:S},t≠u→Qz r t=some s0→N8 H π w R s0 (a.tmps.getD t undef):=fun {t s0} hne h0=>hf t s0 (by
    unfold Qz
    split
    ·rename_i hb;exact(hne (Nat.eq_of_beq_eq_true hb).symm).elim
    ·exact h0)
   -- the later entries, one by one
   have rest: ∀ {r l:List (Nat×S)},trT H σ r=some l→∀t s1,Qz l t=some s1→∃s0,Qz r t=some s0∧trS H σ s0=some s1:=by
    intro r
    induction r with
    |nil=>intro l h t s1 h1;cases h;cases h1
    |cons p r ih=>
     obtain ⟨v,x⟩:=p
     intro l h t s1 h1
     unfold trT at h
     split at h
     ·rename_i x' l' hx hl'
      cases h
      unfold Qz at h1 ⊢
      split at h1
      ·rename_i hb
       cases h1
       exact⟨x,rfl,hx⟩
      ·exact ih hl' t s1 h1
     ·cases h
   intro t s1 ht
   unfold Qz at ht
   split at ht
   ·rename_i hb
    cases ht
    have:u=t:=Nat.eq_of_beq_eq_true hb
    subst this
    exact hu'
   ·rename_i hb
    have hne:t≠u:=fun e=>by subst e;simp at hb
    obtain ⟨s0,h0,hs0⟩:=rest hl t s1 ht
    have h3:=hsub hne h0
    cases s0 with
    |v x=>
     simp only[trS,Option.map_eq_some_iff] at hs0
     obtain ⟨x',hx,rfl⟩:=hs0
     exact down.repV ok (fun _ h=>h) noB hx h3
    |tup xs=>
     simp only[trS,Option.map_eq_some_iff] at hs0
     obtain ⟨xs',hx,rfl⟩:=hs0
     obtain ⟨vs,hv,hr⟩:=h3
     exact⟨vs,hv,down.repVs ok (fun _ h=>h) noB hx hr⟩
    |junk=>cases hs0;trivial
  ·cases h
theorem Ar2 {N:Nat} : ∀ {ds:List Dir} {tm:List (Nat×S)} {H:List Blk} {π:Nat→Pl} {R:Nat→Prop} {ds':List Dir} {tm':List (Nat×S)} {H':List Blk},SR n tm H π R a w→pre N ds tm H=some (ds',tm',H')→∃π' R',SR n tm' H' π' R' a w∧GoesN N H π R w H' π' R' w:=by
 intro ds
 induction ds with
 |nil=>intro tm H π R ds' tm' H' sr h;cases h;exact⟨π,R,sr,GoesN.refl _ _ _ _ _⟩
 |cons d ds ih=>
  intro tm H π R ds' tm' H' sr h
  have cell: ∀ {j i},(match Aed H d j i with|some H'=>pre N ds tm H'|none=>none)=some (ds',tm',H')→∃π' R',SR n tm' H' π' R' a w∧GoesN N H π R w H' π' R' w:=by
   intro j i h
   split at h
   ·rename_i H2 h2
    obtain ⟨π1,R1,ok1,g1⟩:=Anf sr.ok h2
    obtain ⟨π2,R2,sr2,g2⟩:=ih ⟨ok1,g1.frm sr.ok sr.frm,sr.size,sr.defers⟩ h
    exact⟨π2,R2,sr2,(g1.toN N).trans g2⟩
   ·cases h
  have slot: ∀ {t},(match Abf tm H d t with|some (tm',H')=>pre N ds tm' H'|none=>none)=some (ds',tm',H')→∃π' R',SR n tm' H' π' R' a w∧GoesN N H π R w H' π' R' w:=by
   intro t h
   split at h
   ·rename_i tm2 H2 h2
    obtain ⟨π1,R1,sr1,g1⟩:=Afr sr h2
    obtain ⟨π2,R2,sr2,g2⟩:=ih sr1 h
    exact⟨π2,R2,sr2,(g1.toN N).trans g2⟩
   ·cases h
  cases d<;>simp only[pre] at h
  case keep l=>
   split at h
   ·rename_i tm2 h2
    exact ih ⟨sr.ok,Ac2 h2 sr.frm,sr.size,sr.defers⟩ h
   ·cases h
  case pub j i=>exact cell h
  case mk j i t=>exact cell h
  case mkT j i=>exact cell h
  case cut j i=>exact cell h
  case pubS t=>exact slot h
  case mkS t ty=>exact slot h
  case mkTS t=>exact slot h
  case cutS t=>exact slot h
  case inA t i d=>exact slot h
  case kill j=>
   split at h
   ·rename_i y hy
    obtain ⟨π2,R2,sr2,g2⟩:=ih ⟨sr.ok.kill hy,(Goes.kill hy).frm sr.ok sr.frm,sr.size,sr.defers⟩ h
    exact⟨π2,R2,sr2,((Goes.kill hy).toN N).trans g2⟩
   ·cases h
  case sel σ=>
   split at h
   ·rename_i tm2 H2 hB ht hH
    simp only[Bool.and_eq_true] at hB
    obtain ⟨πL,ok1,g1,down⟩:=Ajc (N:=N) sr.ok hB.1 hB.2 hH
    obtain ⟨π2,R2,sr2,g2⟩:=ih ⟨ok1,Aqj sr.ok down ht sr.frm,sr.size,sr.defers⟩ h
    exact⟨π2,R2,sr2,g1.trans g2⟩
   ·cases h
  all_goals (cases h;exact⟨π,R,sr,GoesN.refl _ _ _ _ _⟩)
end
end Go.Proofs.YtphecbmdhbphgaaGreat.Ax
namespace Go.Proofs.YtphecbmdhbphgaaGreat.Ax
open Go Go.RowKit
section
variable {P:Program} {md:Region.Mode} {ops:Array Oper} {Q:Exit→Act→World→Prop} {S:World→Prop} {k:Nat}
def Sz (P:Program) (ops:Array Oper) (Q:Exit→Act→World→Prop) (S:World→Prop) (k:Nat) (post:Bool) (i:Nat) (K:Act→World→Prop) (a:Act) (w:World):Prop:=
 ∃o,ops[i]? =some o∧if Region.wanted o (yielded ops a.tmps) then o.wp P a w (fun a' w'=>(post=true∨i=k∨S w')∧K a' w') Q else K (a.put o.dst undef) w
def wpT (P:Program) (ops:Array Oper) (Q:Exit→Act→World→Prop) (S:World→Prop) (k:Nat) (md:Region.Mode):Bool→Tr→Act→World→Prop
 |_,.done,a,w=>Q .normal a w
 |post,.first i t,a,w=> ∃o,ops[i]? =some o∧if Region.wanted o (yielded ops a.tmps) then o.quiet P a (fun w'=>J7 md ops k i=true→S w') (fun a'=>wpT P ops Q S k md post t a' w) else wpT P ops Q S k md post t (a.put o.dst undef) w
 |post,.one i t,a,w=>Sz P ops Q S k post i (wpT P ops Q S k md (post||Nat.beq i k) t) a w
 |post,.two i t j u,a,w=>Sz P ops Q S k post i (wpT P ops Q S k md (post||Nat.beq i k) t) a w∧Sz P ops Q S k post j (wpT P ops Q S k md (post||Nat.beq j k) u) a w
 |post,.three i t j u h v,a,w=>Sz P ops Q S k post i (wpT P ops Q S k md (post||Nat.beq i k) t) a w∧Sz P ops Q S k post j (wpT P ops Q S k md (post||Nat.beq j k) u) a w∧Sz P ops Q S k post h (wpT P ops Q S k md (post||Nat.beq h k) v) a w
theorem Zy {i:Nat} {K:Act→World→Prop} {a:Act} {w:World} (h:Abh P ops Q S k md false i K a w):Sz P ops Q S k false i K a w:=by
 obtain ⟨o,ho,h⟩:=h
 refine⟨o,ho,?_⟩
 split
 ·rename_i hw;rw[if_pos hw] at h
  exact Oper.wp_mono (fun a' w' h=>⟨.inr h.1,h.2⟩) h
 ·rename_i hw;rw[if_neg hw] at h;exact h
def okT (md:Region.Mode) (ops:Array Oper) (k:Nat):Tr→Nat→Array Bool→Bool
 | .done,n,listed=>n==0&&(Region.ready md ops listed).isEmpty
 | .first i t,n+1,listed=> !(i==k)&&(!(J7 md ops k i)|| !(listed.getD k false))&&Region.free md ops listed i&&(Region.ready md ops listed).contains i&&(match ops[i]? with|some o=>Tb o.op|none=>false)&&okT md ops k t n (listed.setIfInBounds i true)
 | .one i t,n+1,listed=>(Region.ready md ops listed==[i])&&okT md ops k t n (listed.setIfInBounds i true)
 | .two i t j u,n+1,listed=>(Region.ready md ops listed==[i,j])&&okT md ops k t n (listed.setIfInBounds i true)&&okT md ops k u n (listed.setIfInBounds j true)
 | .three i t j u h v,n+1,listed=>(Region.ready md ops listed==[i,j,h])&&okT md ops k t n (listed.setIfInBounds i true)&&okT md ops k u n (listed.setIfInBounds j true)&&okT md ops k v n (listed.setIfInBounds h true)
 |_,_,_=>false
theorem Sb {post:Bool} {i:Nat} {listed:Array Bool} {a:Act} {w:World} {K K':Act→World→Prop} (hi:i∈Region.ready md ops listed) (hG:listed.getD k false=true∨S w) (hpost:post=true→listed.getD k false=true)
  (hK: ∀a' w',((listed.setIfInBounds i true).getD k false=true∨S w')→K a' w'→K' a' w') (h:Sz P ops Q S k post i K a w):
  wpOp P ops Q i (fun a' w'=>((listed.setIfInBounds i true).getD k false=true∨S w')∧K' a' w') a w:=by
 obtain ⟨o,ho,h⟩:=h
 have hlt:i<listed.size:=by
  have h0:=(mem_ready.1 hi).1
  rcases Nat.lt_or_ge i listed.size with h'|h'
  ·exact h'
  ·simp[Array.getElem?_eq_none h'] at h0
 have up: ∀ {w'},(post=true∨i=k∨S w')→(listed.setIfInBounds i true).getD k false=true∨S w':=by
  rintro w' (h|rfl|h)
  ·exact .inl (Li (hpost h))
  ·left;simp[Array.getD_eq_getD_getElem?,hlt]
  ·exact .inr h
 unfold wpOp
 rw[ho]
 dsimp only
 by_cases hw:Region.wanted o (yielded ops a.tmps)=true
 ·rw[if_pos hw] at h
  rw[if_pos hw]
  exact .inl (Oper.wp_mono (fun a' w' ⟨h1,h2⟩=>⟨up h1,hK _ _ (up h1) h2⟩) h)
 ·rw[if_neg hw] at h
  rw[if_neg hw]
  have hG2:(listed.setIfInBounds i true).getD k false=true∨S w:=by
   rcases hG with hG|hG
   ·left
    by_cases hjk:i=k
    ·subst hjk;simp[Array.getD_eq_getD_getElem?,hlt]
    ·rw[Ee hjk];exact hG
   ·exact .inr hG
  exact⟨hG2,hK _ _ hG2 h⟩
theorem Sd {post:Bool} {i:Nat} {listed:Array Bool} (hpost:post=true→listed.getD k false=true) (hi:i∈Region.ready md ops listed):(post||Nat.beq i k)=true→(listed.setIfInBounds i true).getD k false=true:=by
 intro h
 rw[Bool.or_eq_true] at h
 rcases h with h|h
 ·exact Li (hpost h)
 ·have:=Nat.eq_of_beq_eq_true h
  subst this
  have h0:=(mem_ready.1 hi).1
  rcases Nat.lt_or_ge i listed.size with h'|h'
  ·simp[Array.getD_eq_getD_getElem?,h']
  ·simp[Array.getElem?_eq_none h'] at h0
theorem Ef (hs:Region.noSelect ops=true) (hQ: ∀c a w,¬Q (.panic c) a w): ∀(post:Bool) (t:Tr) (n:Nat) (listed:Array Bool) (a:Act) (w:World),
  (post=true→listed.getD k false=true)→Closed md ops listed→okT md ops k t n listed=true→(listed.getD k false=true∨S w)→wpT P ops Q S k md post t a w→Wa P md ops Q S k n listed a w
 |post,.done,n,listed,a,w,hpost,hcl,hok,_,h=>by
  cases n with
  |zero=>exact⟨by simpa [okT] using hok,h⟩
  |succ n=>simp[okT] at hok
 |post,.first i t,0,listed,a,w,hpost,hcl,hok,hG,h=>by simp[okT] at hok
 |post,.one i t,0,listed,a,w,hpost,hcl,hok,hG,h=>by simp[okT] at hok
 |post,.two i t j u,0,listed,a,w,hpost,hcl,hok,hG,h=>by simp[okT] at hok
 |post,.three i t j u g v,0,listed,a,w,hpost,hcl,hok,hG,h=>by simp[okT] at hok
 |post,.first i t,n+1,listed,a,w,hpost,hcl,hok,hG,h=>by
  simp only[okT,Bool.and_eq_true,Bool.or_eq_true,Bool.not_eq_true',beq_eq_false_iff_ne,ne_eq] at hok
  obtain ⟨⟨⟨⟨⟨hik,hkl⟩,hf⟩,hr⟩,hp⟩,hok'⟩:=hok
  obtain ⟨o,ho,h⟩:=h
  rw[ho] at hp
  dsimp only at hp
  have hG':(listed.setIfInBounds i true).getD k false=true∨S w:=by rw[Ee hik];exact hG
  have first: ∀ {v:Value},YieldsIf P ops (fun w'=>J7 md ops k i=true→S w') o v a→wpT P ops Q S k md post t (a.put o.dst v) w→Wa P md ops Q S k (n+1) listed a w:=fun {v} hy h2=>by
   refine Wb (T:=fun w'=>J7 md ops k i=true→S w') ho (Region.noSelect_spec hs) (fun c a w hq=>(hQ _ _ _ hq).elim) hik ?_ _ _ _ _ hcl (Region.free_spec ho hf) (by simpa using hr) hy hG ?_ (Ef hs hQ post t _ _ _ _ (fun h=>Li (hpost h)) (hcl.set (by simpa using hr)) hok' hG' h2)
   ·cases hw:J7 md ops k i with
    |false=>exact .inl fun _ h=>by cases h
    |true=>exact .inr ⟨fun _ h _=>h,rfl⟩
   ·rcases hkl with hkl|hkl
    ·exact .inl fun _ h=>by rw[hkl] at h;cases h
    ·exact .inr hkl
  by_cases hw:Region.wanted o (yielded ops a.tmps)=true
  ·rw[if_pos hw] at h
   obtain ⟨v,h1,h2⟩:=h
   exact first (.inl ⟨hw,Rn hp h1⟩) h2
  ·rw[if_neg hw] at h
   exact first (.inr ⟨by simpa using hw,rfl⟩) h
 |post,.one i t,n+1,listed,a,w,hpost,hcl,hok,hG,h=>by
  simp only[okT,Bool.and_eq_true,beq_iff_eq] at hok
  obtain ⟨hr,hok'⟩:=hok
  refine⟨fun h0=>(by rw[hr] at h0;cases h0),fun q hq=>?_⟩
  have hq':=hq
  rw[hr] at hq'
  obtain rfl:q=i:=by simpa using hq'
  exact Sb hq hG hpost (fun a' w' h1 h2=>Ef hs hQ _ t _ _ _ _ (Sd hpost hq) (hcl.set hq) hok' h1 h2) h
 |post,.two i t j u,n+1,listed,a,w,hpost,hcl,hok,hG,h=>by
  simp only[okT,Bool.and_eq_true,beq_iff_eq] at hok
  obtain ⟨⟨hr,hok1⟩,hok2⟩:=hok
  refine⟨fun h0=>(by rw[hr] at h0;cases h0),fun q hq=>?_⟩
  have hq':=hq
  rw[hr] at hq'
  have:q=i∨q=j:=by simpa using hq'
  rcases this with rfl|rfl
  ·exact Sb hq hG hpost (fun a' w' h1 h2=>Ef hs hQ _ t _ _ _ _ (Sd hpost hq) (hcl.set hq) hok1 h1 h2) h.1
  ·exact Sb hq hG hpost (fun a' w' h1 h2=>Ef hs hQ _ u _ _ _ _ (Sd hpost hq) (hcl.set hq) hok2 h1 h2) h.2
 |post,.three i t j u g v,n+1,listed,a,w,hpost,hcl,hok,hG,h=>by
  simp only[okT,Bool.and_eq_true,beq_iff_eq] at hok
  obtain ⟨⟨⟨hr,hok1⟩,hok2⟩,hok3⟩:=hok
  refine⟨fun h0=>(by rw[hr] at h0;cases h0),fun q hq=>?_⟩
  have hq':=hq
  rw[hr] at hq'
  have:q=i∨q=j∨q=g:=by simpa using hq'
  rcases this with rfl|rfl|rfl
  ·exact Sb hq hG hpost (fun a' w' h1 h2=>Ef hs hQ _ t _ _ _ _ (Sd hpost hq) (hcl.set hq) hok1 h1 h2) h.1
  ·exact Sb hq hG hpost (fun a' w' h1 h2=>Ef hs hQ _ u _ _ _ _ (Sd hpost hq) (hcl.set hq) hok2 h1 h2) h.2.1
  ·exact Sb hq hG hpost (fun a' w' h1 h2=>Ef hs hQ _ v _ _ _ _ (Sd hpost hq) (hcl.set hq) hok3 h1 h2) h.2.2
theorem Zz {id:Nat} {Q:Exit→Act→World→Prop} {a:Act} {w:World} {lo:List Oper} (S:World→Prop) (k:Nat) (t:Tr) (hm:P.follows .mixedOrders=true)
  (hB:(Region.noSelect lo.toArray&&okT .any lo.toArray k t lo.toArray.size (Array.replicate lo.toArray.size false))=true) (hS:S w.drew)
  (h:wpT P lo.toArray (NoPanic Q) S k .any false t a w.drew):(Code.region id lo.toArray true).wp P Q a w:=by
 simp only[Bool.and_eq_true] at hB
 obtain ⟨hs,hok⟩:=hB
 refine wp_region_noPanic (wp_region_any hm ?_)
 exact U7 _ _ _ _ (Ef (P:=P) (md:= .any) (Q:=NoPanic Q) (S:=S) (k:=k) hs (fun c a w hq=>hq) false t _ _ a w.drew (fun h=>by cases h) Closed.none hok (.inr hS) h)
end
end Go.Proofs.YtphecbmdhbphgaaGreat.Ax
