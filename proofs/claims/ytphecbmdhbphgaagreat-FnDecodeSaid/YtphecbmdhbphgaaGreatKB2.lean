/- Operations that turn memory do what is said: variables, stores. Operations that turn memory do what is said: new slices, append. Contracts of functions Aqd the abstract memory, and what a call does. What a call does, Aqd the abstract memory. The Ajf as a function: operations. -/
import Derived.Test.YtphecbmdhbphgaaGreatKB1
set_option linter.unusedSimpArgs false
set_option linter.unusedVariables false
namespace Go.Proofs.YtphecbmdhbphgaaGreat.Ax
open Go.RowKit
section
variable {H:List Blk} {π:Nat→Pl} {R:Nat→Prop} {w:World} {P:Program} {tm:List (Nat×S)} {a:Act}
def Only (M:List Nat) (H:List Blk) (π:Nat→Pl) (w w':World):Prop:= ∀b,b<w.heap.size→(∀j∈M,∀x,H[j]? =some x→¬Has (π j) x b)→w'.heap[b]? =w.heap[b]?
def Does (P:Program) (H:List Blk) (π:Nat→Pl) (R:Nat→Prop) (w:World) (a:Act) (o:Oper) (M:List Nat) (so:Option S) (H':List Blk):Prop:=
 ∃w' π',HOK H' π' R w'∧Goes H π R w H' π' R w'∧Only M H π w w'∧match so with
  |none=>(execOp a.eval o).run P w= .ok .skip w'
  |some s=> ∃v,(execOp a.eval o).run P w= .ok (.value v) w'∧N8 H' π' w' R s v
theorem Afm {o:Oper} {cs:List C} {u:Value} {e:TypeId} (ok:HOK H π R w) (hr:All2 (RepC H π w R) cs u.cells.toList)
  (hrun:(execOp a.eval o).run P w= .ok (.value (.pointer (some ⟨w.heap.size,0,none⟩))) (w.alloc (.cells u.cells e))):Does P H π R w a o [] (some (V1 (.ptr H.length 0))) (H++[.cells cs]):=by
 have gr:=Grows.alloc w (.cells u.cells e)
 have g:Goes H π R w (H++[.cells cs]) (upd π H.length ⟨w.heap.size,0,Hx⟩) R (w.alloc (.cells u.cells e)):=Goes.push gr _ _ fun b h=>Nat.le_of_eq h
 refine⟨_,upd π H.length ⟨w.heap.size,0,Hx⟩,ok.push gr ⟨w.heap.size,0,Hx⟩ _ (fun b h=>by have h:w.heap.size=b:=h;subst h;exact⟨Nat.le_refl _,by simp⟩) ⟨e,u.cells,heap_alloc_new w _,hr.imp fun _ _ _ h=>g.repC ok h⟩,g,fun b hb _=>gr.keep b hb,_,hrun,?_⟩
 show RepPtr _ _ _ _ _
 unfold RepPtr
 rw[Cy]
 simp only[Ci]
theorem Ez (b:Nat): ∀(vs:List Value) (o:Nat) (w:World) (cur:Array Value) (e:TypeId) (fr:Nat×Nat),w.heap[b]? =some (.cells cur e fr)→(w.setCells b o vs).heap[b]? =some (.cells (setL cur.toList o vs).toArray e fr)
 |[],o,w,cur,e,fr,h=>by simpa [World.setCells,setL] using h
 |v::vs,o,w,cur,e,fr,h=>by
  have h1:(w.setCell ⟨b,o,none⟩ v).heap[b]? =some (.cells (cur.setIfInBounds o v) e fr):=by
   simp[World.setCell,Array.getElem?_modify,h]
  rw[World.setCells,Ez b vs (o+1) _ _ e fr h1]
  simp[setL]
theorem E6 (b:Nat): ∀(vs:List Value) (o:Nat) (w:World),Turns b w (w.setCells b o vs)
 |[],_,_=>⟨rfl,rfl,rfl,rfl,fun _ _=>rfl⟩
 |v::vs,o,w=>by
  rw[World.setCells]
  have h:=E6 b vs (o+1) (w.setCell ⟨b,o,none⟩ v)
  exact⟨h.os,h.tape,h.output,by rw[h.size];simp[World.setCell],fun k hk=>(h.keep k hk).trans (Below.heap_setCell _ _ _ _ (fun e=>hk (by rw[e])))⟩
theorem Ri {b off:Nat} {cur:Array Value} {e:TypeId} {fr:Nat×Nat} (hb:w.heap[b]? =some (.cells cur e fr)) (hth:Apn cur.size fr) {ty:TypeId} {v:Value} {vs:List Value} (hv:v.cells.toList=vs)
  (hsz:(P.info? ty).map (·.size)=some vs.length) (hle:off+vs.length≤cur.size) (h1: ∀u∈vs,u.oneCell'=true):(Instr.storeAt ty (.pointer (some ⟨b,off,none⟩)) v).run P w= .ok () (w.setCells b off vs):=by
 have h:=run_storeCells_cells (P:=P) b off vs 0 w (fun j hj=>by rw[cell_of_row w b _ cur e fr hb,Array.getElem?_eq_getElem (by omega)];rfl)
  (fun j hj=>by
   have:=hth (off+0+j) (by omega)
   unfold World.frozen?
   rw[hb]
   simp only[Bool.and_eq_false_iff,decide_eq_false_iff_not]
   omega) h1
 simp only[Nat.add_zero] at h
 have hs:v.cells.size=vs.length:=by rw[←hv];simp
 simp[Instr.storeAt,Instr.sureAddr,storeVar,Sem.run_bind,Jo hsz,hs,hv,h]
theorem getElem?_setL {α:Type} : ∀(r l:List α) (o p:Nat),o+r.length≤l.length→(setL l o r)[p]? =if o≤p∧p<o+r.length then r[p-o]? else l[p]?
 |[],l,o,p,h=>by
  rw[if_neg (by simp)];rfl
 |c::r,l,o,p,h=>by
  unfold setL
  rw[getElem?_setL r _ (o+1) p (by simpa using by simp at h;omega)]
  by_cases h1:o+1≤p∧p<o+1+r.length
  ·rw[if_pos h1,if_pos (by simp;omega),show p-o=(p-(o+1))+1 by omega]
   simp
  ·rw[if_neg h1]
   by_cases h2:p=o
   ·subst h2
    rw[if_pos (by simp),List.getElem?_set_self (by simp at h;omega)]
    simp
   ·rw[if_neg (by simp;omega),List.getElem?_set_ne (fun e=>h2 e.symm)]
theorem X2 (t:T) {c:C} {v:Value} (h:RepC H π w R c v):RepC H π w R (Ad6 t c) v:=by
 cases c<;>try exact h
 simp only[Ad6]
 split
 ·obtain ⟨a,rfl⟩:=h
  exact⟨a,0,rfl,Nat.le_refl _,Nat.zero_le _,fun h=>(h rfl).elim⟩
 ·exact h
theorem Turns.only {j:Nat} {w':World} (tu:Turns (π j).b w w') {x:Blk} (hj:H[j]? =some x) (hx:Real (π j) x):Only [j] H π w w':=fun b _ hn=>tu.keep b fun e=>hn j (by simp) x hj (e▸hx.has)
theorem Only.sub {M M':List Nat} {w':World} (h:Only M H π w w') (hs: ∀j∈M,j∈M'):Only M' H π w w':=fun b hb hn=>h b hb fun j hj=>hn j (hs j hj)
theorem Ad7 {x:Fld} {c:C} (hc:c∈enc .fld x) {v:Value} (h:Rep1 w R c v):Rep0 c v:=by
 simp only[enc,List.mem_cons,List.not_mem_nil,or_false] at hc
 rcases hc with rfl|rfl|rfl|rfl|rfl<;>exact h
theorem R9 {p:Pl} {fs:List Fld} (h:BlkRep H π w R p (.lst .fld fs)):RowAt w p .fld fs:=by
 obtain ⟨h1,h2,h3⟩:=h
 refine⟨h1,h2,fun hc=>?_⟩
 obtain ⟨e,vs,fr,hb,ht,hs,hx⟩:=h3 hc
 exact⟨e,vs,fr,hb,ht,hs,fun i x hi=>(hx i x hi).mono rfl fun c v hc h=>Ad7 hc h⟩
theorem Z6 {p:Pl} {fs:List Fld} (h:RowAt w p .fld fs):BlkRep H π w R p (.lst .fld fs):=by
 obtain ⟨h1,h2,h3⟩:=h
 refine⟨h1,h2,fun hc=>?_⟩
 obtain ⟨e,vs,fr,hb,ht,hs,hx⟩:=h3 hc
 exact⟨e,vs,fr,hb,ht,hs,fun i x hi=>(hx i x hi).mono rfl fun c v _ h=>by cases c<;>first|exact h|exact h.elim⟩
theorem Agx (ok:HOK H π R w) {j i:Nat} {l:List Shp} {x:Shp} {n:Int} (hj:H[j]? =some (.tree l)) (hi:l[i]? =some x) {w':World} (tu:Turns (π j).b w w')
  (hw: ∀vs e fr,w.heap[(π j).b]? =some (.cells vs e fr)→w'.heap[(π j).b]? =some (.cells (setL vs.toList (i*2) [.int .i64 n]).toArray e fr)):
  HOK (H.set j (.tree (l.set i ⟨n,x.fJ⟩))) π R w'∧Goes H π R w (H.set j (.tree (l.set i ⟨n,x.fJ⟩))) π R w':=by
 obtain ⟨h1,h2,h3⟩:=Hz ok hj
 have hil:=Aw hi
 have hc:0<(π j).cap:=by omega
 obtain ⟨e,vs,fr,q,hb,ht,hs,hn,hx,hq⟩:=h3 hc
 have lk:Like (.tree l) (.tree (l.set i ⟨n,x.fJ⟩)):=by simp[Like]
 have hsz:i*2+1<vs.size:=by omega
 refine⟨ok.set tu hj hc lk ⟨by simpa using h1,h2,fun _=>⟨e,_,fr,q,hw vs e fr hb,by simpa [Di] using ht,by simpa [Di] using hs,hn,fun i' x' hi'=>?_,by simpa using hq⟩⟩,Goes.set tu hj hc lk⟩
 have keep: ∀ {k:Nat} {y:Shp},l[k]? =some y→RowAt w' (q k) .fld y.fJ:=fun {k y} hk=>(hx k y hk).2.2.1.mono fun hp=>tu.keep _ fun e=>hn (e▸(hx k y hk).2.2.2 hp)
 simp only[List.getElem?_toArray]
 rw[getElem?_setL _ _ _ _ (by simp;omega),getElem?_setL _ _ _ _ (by simp;omega)]
 by_cases hii:i'=i
 ·subst hii
  rw[List.getElem?_set_self hil] at hi'
  cases hi'
  obtain ⟨a1,⟨v,hv,ho⟩,hr,hp⟩:=hx _ x hi
  refine⟨by rw[if_pos (by simp)];simp,⟨v,by rw[if_neg (by simp)];simpa using hv,ho⟩,show RowAt _ _ .fld x.fJ from keep hi,hp⟩
 ·rw[List.getElem?_set_ne (fun e=>hii e.symm)] at hi'
  obtain ⟨a1,⟨v,hv,ho⟩,hr,hp⟩:=hx _ _ hi'
  exact⟨by rw[if_neg (by simp;omega)];simpa using a1,⟨v,by rw[if_neg (by simp;omega)];simpa using hv,ho⟩,keep hi',hp⟩
theorem Ad8 (ok:HOK H π R w) {j i k:Nat} {l:List Shp} {fs:List Fld} {n:Int} {v1:Value} (hj:H[j]? =some (.tree l)) (hil:i<l.length) (hk:H[k]? =some (.lst .fld fs)) (hv1:OwnVal (π k) fs.length v1) {w':World} (tu:Turns (π j).b w w')
  (hw: ∀vs e fr,w.heap[(π j).b]? =some (.cells vs e fr)→w'.heap[(π j).b]? =some (.cells (setL vs.toList (i*2) [.int .i64 n,v1]).toArray e fr)):
  ∃π',HOK ((H.set j (.tree (l.set i ⟨n,fs⟩))).set k .dK) π' R w'∧Goes H π R w ((H.set j (.tree (l.set i ⟨n,fs⟩))).set k .dK) π' R w':=by
 have hjk:j≠k:=fun e=>by subst e;rw[hj] at hk;cases hk
 obtain ⟨h1,h2,h3⟩:=Hz ok hj
 have hc:0<(π j).cap:=by omega
 obtain ⟨e,vs,fr,q,hb,ht,hs,hn,hx,hq⟩:=h3 hc
 have hsz:i*2+1<vs.size:=by omega
 let p':Pl:=⟨(π j).b,(π j).cap,fun c=>(π j).ins c∨(0<(π k).cap∧(π k).b=c)⟩
 have pj:upd π j p' j=p':=Ci _ _ _
 have po: ∀ {m},m≠j→upd π j p' m=π m:=fun h=>Xz _ _ h
 have hasj: ∀ {l':List Shp} {c:Nat},Has p' (.tree l') c→Has (π j) (.tree l) c∨Has (π k) (.lst .fld fs) c:=fun {l' c} h=>by
  rcases h with ⟨_,h|h|h⟩
  ·exact .inl ⟨hc,.inl h⟩
  ·exact .inl ⟨hc,.inr h⟩
  ·exact .inr h
 have get: ∀ {m:Nat} {z:Blk},((H.set j (.tree (l.set i ⟨n,fs⟩))).set k .dK)[m]? =some z→(m=k∧z= .dK)∨(m=j∧z= .tree (l.set i ⟨n,fs⟩))∨(m≠j∧m≠k∧H[m]? =some z):=by
  intro m z hm
  rcases Ds hm with ⟨rfl,rfl,_⟩|⟨hmk,hm⟩
  ·exact .inl ⟨rfl,rfl⟩
  ·rcases Ds hm with ⟨rfl,rfl,_⟩|⟨hmj,hm⟩
   ·exact .inr (.inl ⟨rfl,rfl⟩)
   ·exact .inr (.inr ⟨hmj,hmk,hm⟩)
 have own: ∀c,Ey ((H.set j (.tree (l.set i ⟨n,fs⟩))).set k .dK) (upd π j p') c→Ey H π c:=by
  rintro c ⟨m,z,hm,hz⟩
  rcases get hm with ⟨rfl,rfl⟩|⟨rfl,rfl⟩|⟨hmj,hmk,hm⟩
  ·exact hz.elim
  ·rw[pj] at hz
   rcases hasj hz with h|h
   ·exact⟨_,_,hj,h⟩
   ·exact⟨_,_,hk,h⟩
  ·rw[po hmj] at hz
   exact⟨m,z,hm,hz⟩
 have hbk:0<(π k).cap→(π k).b≠(π j).b:=fun h e=>hjk (ok.inj j k _ _ (π j).b hj hk ⟨hc,.inl rfl⟩ ⟨h,e⟩)
 have g:Goes H π R w ((H.set j (.tree (l.set i ⟨n,fs⟩))).set k .dK) (upd π j p') R w':=by
  refine⟨tu.os,tu.tape,tu.output,Nat.le_of_eq tu.size.symm,fun c _ ho=>tu.keep c fun e=>ho ⟨j,_,hj,hc,.inl e.symm⟩,fun c h=> .inl (own c h),fun m _=>?_,fun m z hm=>?_,fun _ h=>h,fun _ h=> .inl h⟩
  ·by_cases hmj:m=j
   ·subst hmj;rw[pj];exact⟨rfl,rfl,fun _ h=> .inl h⟩
   ·rw[po hmj];exact Pl.At.refl _
  ·by_cases hmk:m=k
   ·subst hmk
    exact⟨.dK,List.getElem?_set_self (by simpa using Aw hm),by cases z<;>trivial⟩
   ·by_cases hmj:m=j
    ·subst hmj
     rw[hj] at hm;cases hm
     exact⟨_,by rw[List.getElem?_set_ne (fun e=>hmk e.symm)];exact List.getElem?_set_self (Aw hj),by simp[Like]⟩
    ·exact⟨z,by rw[List.getElem?_set_ne (fun e=>hmk e.symm),List.getElem?_set_ne (fun e=>hmj e.symm)];exact hm,Like.refl z⟩
 refine⟨upd π j p',⟨fun m z hm=>?_,fun m1 m2 z1 z2 c hm1 hm2 hz1 hz2=>?_,fun m z c hm hz=>?_,fun c hR=>⟨by rw[tu.size];exact(ok.R c hR).1,fun ho=>(ok.R c hR).2 (own c ho)⟩⟩,g⟩
 ·rcases get hm with ⟨rfl,rfl⟩|⟨rfl,rfl⟩|⟨hmj,hmk,hm⟩
  ·trivial
  ·rw[pj]
   refine⟨by simpa using h1,h2,fun _=>⟨e,_,fr,fun i'=>if i'=i then π k else q i',hw vs e fr hb,by simpa [Di] using ht,by simpa [Di] using hs,?_,fun i' x' hi'=>?_,fun a b ha hb'=>?_⟩⟩
   ·rintro (h|⟨h,h'⟩)
    ·exact hn h
    ·exact hbk h h'
   ·simp only[List.getElem?_toArray]
    rw[getElem?_setL _ _ _ _ (by simp;omega),getElem?_setL _ _ _ _ (by simp;omega)]
    by_cases hii:i'=i
    ·subst hii
     rw[List.getElem?_set_self hil] at hi'
     cases hi'
     rw[if_pos rfl]
     refine⟨by rw[if_pos (by simp)];simp,⟨v1,by rw[if_pos (by simp)];simp,hv1⟩,(R9 (ok.blocks k _ hk)).mono fun h=>tu.keep _ (hbk h),fun h=> .inr ⟨h,rfl⟩⟩
    ·rw[List.getElem?_set_ne (fun e=>hii e.symm)] at hi'
     rw[if_neg hii]
     obtain ⟨a1,⟨v,hv,ho⟩,hr,hp⟩:=hx _ _ hi'
     exact⟨by rw[if_neg (by simp;omega)];simpa using a1,⟨v,by rw[if_neg (by simp;omega)];simpa using hv,ho⟩,hr.mono fun h=>tu.keep _ fun e=>hn (e▸hp h),fun h=> .inl (hp h)⟩
   ·rw[List.length_set] at ha hb'
    dsimp only
    have far: ∀ {a:Nat},a<l.length→0<(π k).cap→0<(q a).cap→(π k).b≠(q a).b:=fun {a} ha h1 h2 e=>
     hjk (ok.inj _ _ _ _ _ hj hk ⟨hc,.inr ((hx a _ (List.getElem?_eq_getElem ha)).2.2.2 h2)⟩ ⟨h1,e⟩)
    by_cases hai:a=i<;>by_cases hbi:b=i
    ·intros;omega
    ·rw[if_pos hai,if_neg hbi];intro x1 x2 x3;exact(far hb' x1 x2 x3).elim
    ·rw[if_neg hai,if_pos hbi];intro x1 x2 x3;exact(far ha x2 x1 x3.symm).elim
    ·rw[if_neg hai,if_neg hbi];exact hq a b ha hb'
  ·rw[po hmj]
   exact g.blk ok (fun c hc'=>tu.keep c fun e=>hmj (ok.inj _ _ _ _ c hm hj hc' ⟨hc,.inl e.symm⟩)) (ok.blocks m z hm)
 ·have cl: ∀ {m:Nat} {z:Blk},((H.set j (.tree (l.set i ⟨n,fs⟩))).set k .dK)[m]? =some z→Has (upd π j p' m) z c→(m=j∧∃m' y,(m'=j∨m'=k)∧H[m']? =some y∧Has (π m') y c)∨(m≠j∧m≠k∧H[m]? =some z∧Has (π m) z c):=by
   intro m z hm hz
   rcases get hm with ⟨rfl,rfl⟩|⟨rfl,rfl⟩|⟨hmj,hmk,hm⟩
   ·exact hz.elim
   ·rw[pj] at hz
    rcases hasj hz with h|h
    ·exact .inl ⟨rfl,_,_,.inl rfl,hj,h⟩
    ·exact .inl ⟨rfl,_,_,.inr rfl,hk,h⟩
   ·rw[po hmj] at hz
    exact .inr ⟨hmj,hmk,hm,hz⟩
  rcases cl hm1 hz1 with ⟨e1,m1',y1,ho1,hg1,hh1⟩|⟨n1,n1',hg1,hh1⟩<;>rcases cl hm2 hz2 with ⟨e2,m2',y2,ho2,hg2,hh2⟩|⟨n2,n2',hg2,hh2⟩
  ·omega
  ·have:=ok.inj _ _ _ _ c hg1 hg2 hh1 hh2;omega
  ·have:=ok.inj _ _ _ _ c hg1 hg2 hh1 hh2;omega
  ·exact ok.inj _ _ _ _ c hg1 hg2 hh1 hh2
 ·rw[tu.size]
  obtain ⟨m',y,hm',hy⟩:=own c ⟨m,z,hm,hz⟩
  exact ok.lt m' y c hm' hy
theorem V7 (ok:HOK H π R w) {j i k N:Nat} {l:List Shp} {x:Shp} {fs:List Fld} {v1:Value} (hj:H[j]? =some (.hole l i N)) (hi:l[i]? =some x) (hk:H[k]? =some (.lst .fld fs)) (hv1:OwnVal (π k) fs.length v1) {w':World} (tu:Turns (π j).b w w')
  (hw: ∀vs e fr,w.heap[(π j).b]? =some (.cells vs e fr)→i*2+2≤vs.size→∃vs',w'.heap[(π j).b]? =some (.cells vs' e fr)∧vs'.size=vs.size∧vs'[i*2+1]? =some v1∧∀q,q≠i*2+1→vs'[q]? =vs[q]?):
  ∃π',HOK ((H.set j (.tree (l.set i ⟨x.id,fs⟩))).set k .dK) π' R w'∧Goes H π R w ((H.set j (.tree (l.set i ⟨x.id,fs⟩))).set k .dK) π' R w':=by
 have hjk:j≠k:=fun e=>by subst e;rw[hj] at hk;cases hk
 obtain ⟨hNl,hil,h1,h2,e,vs,fr,q,hb,ht,hs,hn,hx,hq⟩:=ok.blocks j _ hj
 have hc:0<(π j).cap:=by omega
 have hsz:i*2+1<vs.size:=by omega
 obtain ⟨vs',hb',hsz',hv',hold⟩:=hw vs e fr hb (by omega)
 let p':Pl:=⟨(π j).b,(π j).cap,fun c=>(π j).ins c∨(0<(π k).cap∧(π k).b=c)⟩
 have pj:upd π j p' j=p':=Ci _ _ _
 have po: ∀ {m},m≠j→upd π j p' m=π m:=fun h=>Xz _ _ h
 have hasj: ∀ {l':List Shp} {c:Nat},Has p' (.tree l') c→Has (π j) (.hole l i N) c∨Has (π k) (.lst .fld fs) c:=fun {l' c} h=>by
  rcases h with ⟨_,h|h|h⟩
  ·exact .inl ⟨hc,.inl h⟩
  ·exact .inl ⟨hc,.inr h⟩
  ·exact .inr h
 have get: ∀ {m:Nat} {z:Blk},((H.set j (.tree (l.set i ⟨x.id,fs⟩))).set k .dK)[m]? =some z→(m=k∧z= .dK)∨(m=j∧z= .tree (l.set i ⟨x.id,fs⟩))∨(m≠j∧m≠k∧H[m]? =some z):=by
  intro m z hm
  rcases Ds hm with ⟨rfl,rfl,_⟩|⟨hmk,hm⟩
  ·exact .inl ⟨rfl,rfl⟩
  ·rcases Ds hm with ⟨rfl,rfl,_⟩|⟨hmj,hm⟩
   ·exact .inr (.inl ⟨rfl,rfl⟩)
   ·exact .inr (.inr ⟨hmj,hmk,hm⟩)
 have own: ∀c,Ey ((H.set j (.tree (l.set i ⟨x.id,fs⟩))).set k .dK) (upd π j p') c→Ey H π c:=by
  rintro c ⟨m,z,hm,hz⟩
  rcases get hm with ⟨rfl,rfl⟩|⟨rfl,rfl⟩|⟨hmj,hmk,hm⟩
  ·exact hz.elim
  ·rw[pj] at hz
   rcases hasj hz with h|h
   ·exact⟨_,_,hj,h⟩
   ·exact⟨_,_,hk,h⟩
  ·rw[po hmj] at hz
   exact⟨m,z,hm,hz⟩
 have hbk:0<(π k).cap→(π k).b≠(π j).b:=fun h e=>hjk (ok.inj j k _ _ (π j).b hj hk ⟨hc,.inl rfl⟩ ⟨h,e⟩)
 have g:Goes H π R w ((H.set j (.tree (l.set i ⟨x.id,fs⟩))).set k .dK) (upd π j p') R w':=by
  refine⟨tu.os,tu.tape,tu.output,Nat.le_of_eq tu.size.symm,fun c _ ho=>tu.keep c fun e=>ho ⟨j,_,hj,hc,.inl e.symm⟩,fun c h=> .inl (own c h),fun m _=>?_,fun m z hm=>?_,fun _ h=>h,fun _ h=> .inl h⟩
  ·by_cases hmj:m=j
   ·subst hmj;rw[pj];exact⟨rfl,rfl,fun _ h=> .inl h⟩
   ·rw[po hmj];exact Pl.At.refl _
  ·by_cases hmk:m=k
   ·subst hmk
    exact⟨.dK,List.getElem?_set_self (by simpa using Aw hm),by cases z<;>trivial⟩
   ·by_cases hmj:m=j
    ·subst hmj
     rw[hj] at hm;cases hm
     exact⟨_,by rw[List.getElem?_set_ne (fun e=>hmk e.symm)];exact List.getElem?_set_self (Aw hj),by simp[Like]⟩
    ·exact⟨z,by rw[List.getElem?_set_ne (fun e=>hmk e.symm),List.getElem?_set_ne (fun e=>hmj e.symm)];exact hm,Like.refl z⟩
 refine⟨upd π j p',⟨fun m z hm=>?_,fun m1 m2 z1 z2 c hm1 hm2 hz1 hz2=>?_,fun m z c hm hz=>?_,fun c hR=>⟨by rw[tu.size];exact(ok.R c hR).1,fun ho=>(ok.R c hR).2 (own c ho)⟩⟩,g⟩
 ·rcases get hm with ⟨rfl,rfl⟩|⟨rfl,rfl⟩|⟨hmj,hmk,hm⟩
  ·trivial
  ·rw[pj]
   refine⟨by simpa using h1,h2,fun _=>⟨e,vs',fr,fun i'=>if i'=i then π k else q i',hb',by rw[hsz'];exact ht,by rw[hsz'];exact hs,?_,fun i' x' hi'=>?_,fun a b ha hb'=>?_⟩⟩
   ·rintro (h|⟨h,h'⟩)
    ·exact hn h
    ·exact hbk h h'
   ·by_cases hii:i'=i
    ·subst hii
     rw[List.getElem?_set_self hil] at hi'
     cases hi'
     dsimp only
     rw[if_pos rfl]
     exact⟨by rw[hold _ (by omega)];exact(hx _ x hi).1,⟨v1,hv',hv1⟩,(R9 (ok.blocks k _ hk)).mono fun h=>tu.keep _ (hbk h),fun h=> .inr ⟨h,rfl⟩⟩
    ·rw[List.getElem?_set_ne (fun e=>hii e.symm)] at hi'
     dsimp only
     rw[if_neg hii]
     obtain ⟨a1,⟨v,hv,_,ho⟩,hr⟩:=hx _ _ hi'
     exact⟨by rw[hold _ (by omega)];exact a1,⟨v,by rw[hold _ (by omega)];exact hv,ho hii⟩,(hr hii).1.mono fun h=>tu.keep _ fun e=>hn (e▸(hr hii).2 h),fun h=> .inl ((hr hii).2 h)⟩
   ·rw[List.length_set] at ha hb'
    dsimp only
    have far: ∀ {a:Nat},a<l.length→a≠i→0<(π k).cap→0<(q a).cap→(π k).b≠(q a).b:=fun {a} ha hai h1 h2 e=>
     hjk (ok.inj _ _ _ _ _ hj hk ⟨hc,.inr (((hx a _ (List.getElem?_eq_getElem ha)).2.2 hai).2 h2)⟩ ⟨h1,e⟩)
    by_cases hai:a=i<;>by_cases hbi:b=i
    ·intros;omega
    ·rw[if_pos hai,if_neg hbi];intro x1 x2 x3;exact(far hb' hbi x1 x2 x3).elim
    ·rw[if_neg hai,if_pos hbi];intro x1 x2 x3;exact(far ha hai x2 x1 x3.symm).elim
    ·rw[if_neg hai,if_neg hbi];exact hq a b ha hb' hai hbi
  ·rw[po hmj]
   exact g.blk ok (fun c hc'=>tu.keep c fun e=>hmj (ok.inj _ _ _ _ c hm hj hc' ⟨hc,.inl e.symm⟩)) (ok.blocks m z hm)
 ·have cl: ∀ {m:Nat} {z:Blk},((H.set j (.tree (l.set i ⟨x.id,fs⟩))).set k .dK)[m]? =some z→Has (upd π j p' m) z c→(m=j∧∃m' y,(m'=j∨m'=k)∧H[m']? =some y∧Has (π m') y c)∨(m≠j∧m≠k∧H[m]? =some z∧Has (π m) z c):=by
   intro m z hm hz
   rcases get hm with ⟨rfl,rfl⟩|⟨rfl,rfl⟩|⟨hmj,hmk,hm⟩
   ·exact hz.elim
   ·rw[pj] at hz
    rcases hasj hz with h|h
    ·exact .inl ⟨rfl,_,_,.inl rfl,hj,h⟩
    ·exact .inl ⟨rfl,_,_,.inr rfl,hk,h⟩
   ·rw[po hmj] at hz
    exact .inr ⟨hmj,hmk,hm,hz⟩
  rcases cl hm1 hz1 with ⟨e1,m1',y1,ho1,hg1,hh1⟩|⟨n1,n1',hg1,hh1⟩<;>rcases cl hm2 hz2 with ⟨e2,m2',y2,ho2,hg2,hh2⟩|⟨n2,n2',hg2,hh2⟩
  ·omega
  ·have:=ok.inj _ _ _ _ c hg1 hg2 hh1 hh2;omega
  ·have:=ok.inj _ _ _ _ c hg1 hg2 hh1 hh2;omega
  ·exact ok.inj _ _ _ _ c hg1 hg2 hh1 hh2
 ·rw[tu.size]
  obtain ⟨m',y,hm',hy⟩:=own c ⟨m,z,hm,hz⟩
  exact ok.lt m' y c hm' hy
def Jp (tm:List (Nat×S)):Op→List Nat
 | .store _ x y=>match ev tm x with
  |some (.v (.c (.ptr j _)))=>[j]
  |some (.v (.c (.eptr j _ _)))=>match ev tm y with
   |some (.v (.agg [_,.own k]))=>[j,k]
   |some (.v (.c (.own k)))=>[j,k]
   |_=>[j]
  |_=>[]
 | .call { callee:= .builtin .append,args,.. } =>match args.toList with
  |s::x::_=>match ev tm s with
   |some (.v (.c (.own j)))=>match ev tm x with
    |some (.v (.c (.own k)))=>[j,k]
    |_=>[j]
   |_=>[]
  |_=>[]
 | .buildSlice _ _ parts=>match Re tm parts.toList with
  |some [(_,.agg [_,.own k])]=>[k]
  |_=>[]
 |_=>[]
theorem X3 {tm:List (Nat×S)} {args:Array Operand} {tys:Array TypeId} {s x:Operand} {r:List Operand} {j:Nat} (h:args.toList=s::x::r) (hs:ev tm s=some (.v (.c (.own j)))):j∈Jp tm (.call { callee:= .builtin .append,args,argTypes:=tys }):=by
 simp only[Jp,h,hs]
 split<;>simp
theorem Rj {tm:List (Nat×S)} {j i c:Nat} {ty:TypeId} {x y:Operand} (hx:ev tm x=some (.v (.c (.eptr j i c)))): ∀k∈[j],k∈Jp tm (.store ty x y):=by
 simp only[Jp,hx]
 split<;>simp
theorem Aiy {tm:List (Nat×S)} {j i c k:Nat} {c0:C} {ty:TypeId} {x y:Operand} (hx:ev tm x=some (.v (.c (.eptr j i c)))) (hy:ev tm y=some (.v (.agg [c0,.own k]))):k∈Jp tm (.store ty x y):=by
 simp only[Jp,hx,hy]
 simp
theorem Aiz {tm:List (Nat×S)} {j i c k:Nat} {ty:TypeId} {x y:Operand} (hx:ev tm x=some (.v (.c (.eptr j i c)))) (hy:ev tm y=some (.v (.c (.own k)))):k∈Jp tm (.store ty x y):=by
 simp only[Jp,hx,hy]
 simp
theorem Agy (ok:HOK H π R w) (hf:Frm tm H π w R a) {o:Oper} {ty:TypeId} {x y:Operand} (ho:o.op= .store ty x y) {d:Option Dir} {so:Option S} {H':List Blk} {ob:List Prop} {k:Bool}
  (h:Qu P H tm (.store ty x y) d=some (so,H',ob,k)) (hob:All ob):Does P H π R w a o (Jp tm (.store ty x y)) so H':=by
 unfold Qu at h
 dsimp only at h
 have sX: ∀ {w':World},(Instr.storeAt ty (a.eval x) (a.eval y)).run P w= .ok () w'→(execOp a.eval o).run P w= .ok .skip w':=fun {w'} h=>by
  simp[execOp,ho,h]
 split at h
 ·rename_i j off v hx hy
  split at h
  ·rename_i cs hj
   split at h
   ·rename_i hk
    cases h
    obtain ⟨e,vs,hb,hl⟩:=ok.blocks j _ hj
    have hv:=F5 (A7 (s:= .v v) hf hy)
    have h1:=Acn (w:=w) (R:=R) hj (A7 hf hx)
    have hlen:(F8 v).length=(a.eval y).cells.toList.length:=hv.length
    have hst:=Ri (P:=P) (off:=off) hb (fun _ _ h=>by omega) rfl (by rw[hk.1,hlen]) (by have:=hk.2;rw[hl.length,hlen] at this;simpa using this) (fun u hu=>by
     obtain ⟨i,hi⟩:=List.getElem?_of_mem hu
     obtain ⟨c,_,hc⟩:=hv.get' hi
     exact RepC.one hc)
    rw[←h1] at hst
    have tu:=E6 (π j).b (a.eval y).cells.toList off w
    have lk:Like (Blk.cells cs) (.cells (setL cs off (F8 v))):=by simp[Like,Di]
    have g:Goes H π R w (H.set j (.cells (setL cs off (F8 v)))) π R (w.setCells (π j).b off (a.eval y).cells.toList):=Goes.set tu hj trivial lk
    exact⟨_,π,ok.set tu hj trivial lk ⟨e,_,Ez _ _ _ _ _ _ _ hb,by simpa using (hv.imp fun _ _ _ h=>g.repC ok h).setL off (hl.imp fun _ _ _ h=>g.repC ok h)⟩,g,by simp only[Jp,hx];exact tu.only hj trivial,sX hst⟩
   ·cases h
  ·cases h
 ·rename_i j i c v hx hy
  split at h
  ·rename_i t l t' el hj
   split at h
   ·rename_i ht
    subst ht
    split at h
    ·rename_i y' hdec
     split at h
     ·rename_i hk
      cases h
      obtain ⟨hi,_⟩:=hob
      have hi:l[i]? =some el:=hi
      have hil:=Aw hi
      have hcap:0<(π j).cap:=by have:=Ld ok hj;omega
      obtain ⟨hlc,hcm,hblk⟩:=ok.blocks j _ hj
      obtain ⟨e,vs,fr,hb,hth,hsz,hel⟩:=hblk hcap
      have hv:=F5 (A7 (s:= .v v) hf hy)
      have h1:=Abe (w:=w) (R:=R) hj (A7 hf hx)
      have hlen:(F8 v).length=(a.eval y).cells.toList.length:=hv.length
      have hroom:i*t'.k+t'.k≤vs.size:=by
       have:(i+1)*t'.k≤(π j).cap*t'.k:=Nat.mul_le_mul_right _ (by omega)
       rw[Nat.add_mul] at this
       omega
      have hst:=Ri (P:=P) (off:=i*t'.k+c) hb hth rfl (by rw[hk.1,hlen]) (by have:=hk.2;rw[hlen] at this;omega) (fun u hu=>by
       obtain ⟨i,hi⟩:=List.getElem?_of_mem hu
       obtain ⟨c,_,hc⟩:=hv.get' hi
       exact RepC.one hc)
      rw[←h1] at hst
      have tu:=E6 (π j).b (a.eval y).cells.toList (i*t'.k+c) w
      have lk:Like (Blk.lst t' l) (.lst t' (l.set i y')):=by simp[Like]
      have g:Goes H π R w (H.set j (.lst t' (l.set i y'))) π R (w.setCells (π j).b (i*t'.k+c) (a.eval y).cells.toList):=Goes.set tu hj hcap lk
      have hb':=Ez _ (a.eval y).cells.toList (i*t'.k+c) _ _ _ _ hb
      refine⟨_,π,ok.set tu hj hcap lk ⟨by simpa using hlc,hcm,fun _=>⟨e,_,fr,hb',by simpa [Di] using hth,by simpa [Di] using hsz,?_⟩⟩,g,(tu.only hj hcap).sub (Rj hx),sX hst⟩
      intro i' z hz q cq hq
      have hqk:q<t'.k:=by have:=Aw hq;rwa [S7] at this
      rw[cell_of_row _ _ _ _ _ _ hb']
      simp only[List.getElem?_toArray]
      rw[getElem?_setL _ _ _ _ (by have:=hk.2;rw[hlen] at this;simp only[Array.length_toList] at this ⊢;omega)]
      have old: ∀ {z:t'.ty} {cq:C},l[i']? =some z→(enc t' z)[q]? =some cq→∃u,vs.toList[i'*t'.k+q]? =some u∧Rep1 (w.setCells (π j).b (i*t'.k+c) (a.eval y).cells.toList) R cq u:=by
       intro z cq hz hq
       obtain ⟨u,hu,hr⟩:=hel i' z hz q cq hq
       rw[cell_of_row _ _ _ _ _ _ hb] at hu
       exact⟨u,by simpa using hu,Rep1.mono (fun _ h=>h) (fun b hR=>g.keepR ok hR) _ _ hr⟩
      by_cases hii:i'=i
      ·subst hii
       rw[List.getElem?_set_self hil] at hz
       cases hz
       have henc:=Ad5 hdec
       have hq0:=hq
       rw[henc,List.getElem?_map,getElem?_setL _ _ _ _ (by rw[S7];exact hk.2)] at hq
       by_cases hin:c≤q∧q<c+(F8 v).length
       ·rw[if_pos hin] at hq
        rw[if_pos (by rw[hlen] at hin;omega),show i'*t'.k+q-(i'*t'.k+c)=q-c by omega]
        cases hc:(F8 v)[q-c]? with
        |none=>rw[hc] at hq;cases hq
        |some c'=>
         rw[hc] at hq
         cases hq
         obtain ⟨u,hu,hr⟩:=hv.get hc
         refine⟨u,hu,?_⟩
         have:=X1 (List.mem_of_getElem? hq0) (X2 _ hr)
         exact Rep1.mono (fun _ h=>h) (fun b hR=>g.keepR ok hR) _ _ this
       ·rw[if_neg hin] at hq
        rw[if_neg (by rw[hlen] at hin;omega)]
        cases hc:(enc t' el)[q]? with
        |none=>rw[hc] at hq;cases hq
        |some c'=>
         rw[hc] at hq
         obtain ⟨u,hu,hr⟩:=old hi hc
         have hn:Ad6 t' c'=cq:=by simpa using hq
         refine⟨u,hu,?_⟩
         subst hn
         cases c'<;>first|exact hr|exact hr.elim
      ·rw[List.getElem?_set_ne (fun e=>hii e.symm)] at hz
       obtain ⟨u,hu,hr⟩:=old hz hq
       refine⟨u,?_,hr⟩
       rw[if_neg ?_]
       ·exact hu
       ·rintro ⟨h3,h4⟩
        have h5:=hk.2
        rw[hlen] at h5
        rcases Nat.lt_or_gt_of_ne hii with hlt|hgt
        ·have:(i'+1)*t'.k≤i*t'.k:=Nat.mul_le_mul_right _ (by omega)
         rw[Nat.add_mul] at this
         omega
        ·have:(i+1)*t'.k≤i'*t'.k:=Nat.mul_le_mul_right _ (by omega)
         rw[Nat.add_mul] at this
         omega
     ·cases h
    ·cases h
   ·cases h
  ·rename_i l el hj
   have hvr:=A7 (s:= .v v) hf hy
   have hlv:=(F5 hvr).length
   have room: ∀ {x0:Shp},l[i]? =some x0→∃vs e fr,w.heap[(π j).b]? =some (.cells vs e fr)∧Apn vs.size fr∧i*2+2≤vs.size∧0<(π j).cap:=by
    intro x0 hi
    obtain ⟨h1,h2,h3⟩:=Hz ok hj
    have:=Aw hi
    obtain ⟨e,vs,fr,q,hb,ht,hs,_⟩:=h3 (by omega)
    exact⟨vs,e,fr,hb,ht,by omega,by omega⟩
   have h1:=T6 (w:=w) (R:=R) hj (A7 hf hx)
   have tu:=E6 (π j).b (a.eval y).cells.toList (i*2+c) w
   split at h
   ·rename_i n k
    split at h
    ·rename_i fs hk
     split at h
     ·rename_i hz
      cases h
      obtain ⟨hi,_⟩:=hob
      have hi:l[i]? =some el:=hi
      obtain ⟨vs,e,fr,hb,hth,hsz,hcap⟩:=room hi
      have hc0:c=0:=hz.2
      subst hc0
      obtain ⟨us,hus,hul⟩:=hvr
      cases hul with
      |cons hr0 hul=>cases hul with
       |cons hr1 hul=>cases hul with
        |nil=>
         rename_i u0 u1
         have e0:u0= .int .i64 n:=hr0
         subst e0
         have hcl:(a.eval y).cells.toList=[.int .i64 n,u1]:=by rw[hus];simp[Value.cells]
         have hst:=Ri (P:=P) (off:=i*2+0) hb hth hcl (by rw[hz.1];rfl) (by simpa using hsz) (fun u hu=>by
          simp only[List.mem_cons,List.not_mem_nil,or_false] at hu
          rcases hu with rfl|rfl
          ·rfl
          ·exact RepC.one hr1)
         rw[←h1] at hst
         rw[hcl] at tu
         obtain ⟨π',ok',g⟩:=Ad8 ok (n:=n) hj (Aw hi) hk (Lc hk hr1) tu fun vs e fr hb=>Ez _ _ _ _ _ _ _ hb
         exact⟨_,π',ok',g,(tu.only hj hcap).sub (Rj hx),sX hst⟩
     ·cases h
    ·cases h
   ·rename_i n
    split at h
    ·rename_i hz
     cases h
     obtain ⟨hi,_⟩:=hob
     have hi:l[i]? =some el:=hi
     obtain ⟨vs,e,fr,hb,hth,hsz,hcap⟩:=room hi
     have hc0:c=0:=hz.2
     subst hc0
     have e0:a.eval y= .int .i64 n:=hvr
     have hcl:(a.eval y).cells.toList=[.int .i64 n]:=by rw[e0];rfl
     have hst:=Ri (P:=P) (off:=i*2+0) hb hth hcl (by rw[hz.1];rfl) (by simp;omega) (fun u hu=>by
      simp only[List.mem_cons,List.not_mem_nil,or_false] at hu
      subst hu;rfl)
     rw[←h1] at hst
     rw[hcl] at tu
     obtain ⟨ok',g⟩:=Agx ok (n:=n) hj hi tu fun vs e fr hb=>Ez _ _ _ _ _ _ _ hb
     exact⟨_,π,ok',g,(tu.only hj hcap).sub (Rj hx),sX hst⟩
    ·cases h
   ·cases h
  ·rename_i l i' N el hj
   have hvr:=A7 (s:= .v v) hf hy
   split at h
   ·rename_i k
    split at h
    ·rename_i fs hk
     split at h
     ·rename_i hz
      cases h
      obtain ⟨hi,hz3,_⟩:=hob
      have hi:l[i]? =some el:=hi
      have hz3:i=i':=hz3
      obtain ⟨hz1,hz2⟩:=hz
      subst hz2
      subst hz3
      obtain ⟨hNl,hil,g1,g2,e,vs,fr,q,hb,hth,hs,_⟩:=ok.blocks j _ hj
      have hcap:0<(π j).cap:=by omega
      have h1:=Wz (w:=w) (R:=R) hj (A7 hf hx)
      have hr1:RepC H π w R (.own k) (a.eval y):=hvr
      have hone:=RepC.one hr1
      have hcl:(a.eval y).cells.toList=[a.eval y]:=by
       rcases Lc hk hr1 with ⟨_,_,ad,hv⟩|⟨_,hv⟩<;>rw[hv]<;>rfl
      have tu:=E6 (π j).b (a.eval y).cells.toList (i*2+1) w
      have hst:=Ri (P:=P) (off:=i*2+1) hb hth hcl (by rw[hz1];rfl) (by simp;omega) (fun u hu=>by
       simp only[List.mem_cons,List.not_mem_nil,or_false] at hu
       subst hu;exact hone)
      rw[←h1] at hst
      rw[hcl] at tu
      obtain ⟨π',ok',g⟩:=V7 ok hj hi hk (Lc hk hr1) tu fun vs e fr hb hsz=>⟨_,Ez _ _ _ _ _ _ _ hb,by simp[Di],by simp only[List.getElem?_toArray];rw[getElem?_setL _ _ _ _ (by simp;omega),if_pos (by simp)];simp,fun q hq=>by simp only[List.getElem?_toArray];rw[getElem?_setL _ _ _ _ (by simp;omega),if_neg (by simp;omega)];simp⟩
      exact⟨_,π',ok',g,(tu.only hj hcap).sub (Rj hx),sX hst⟩
     ·cases h
    ·cases h
   ·cases h
  ·cases h
 ·cases h
end
section
variable {H:List Blk} {π:Nat→Pl} {R:Nat→Prop} {w:World} {P:Program} {tm:List (Nat×S)} {a:Act}
theorem Z7 {t:T} : ∀ {n:Nat} {cs:List C} {l:List t.ty},Aix t n cs=some l→n*t.k≤cs.length→l.length=n∧l.flatMap (enc t)=(cs.take (n*t.k)).map (Ad6 t)
 |0,cs,l,h,_=>by cases h;simp
 |n+1,cs,l,h,hl=>by
  unfold Aix at h
  split at h
  ·rename_i x r h1 h2
   cases h
   rw[Nat.add_mul] at hl
   obtain ⟨h3,h4⟩:=Z7 h2 (by simp;omega)
   refine⟨by simp[h3],?_⟩
   rw[List.flatMap_cons,h4,Ad5 h1,←List.map_append]
   congr 1
   rw[show (n+1)*t.k=t.k+n*t.k by rw[Nat.add_mul];omega,List.take_add]
  ·cases h
theorem All2.map_left {α β γ:Type} {r:α→β→Prop} {r':γ→β→Prop} {f:α→γ} {l:List α} {m:List β} (h:All2 r l m) (hi: ∀a b,r a b→r' (f a) b):All2 r' (l.map f) m:=by
 induction h with
 |nil=>exact .nil
 |cons h _ ih=>exact .cons (hi _ _ h) ih
theorem T8 {o:Oper} {t:T} {l:List t.ty} {vs:List Value} {cap:Nat} {e:TypeId} {arr:Array Value} {fr:Nat×Nat} (ok:HOK H π R w) (hr:All2 (Rep1 w R) (l.flatMap (enc t)) vs) (harr: ∃rest,arr.toList=vs++rest)
  (hth:Apn arr.size fr) (hcap:cap*t.k≤arr.size) (hlc:l.length≤cap) (hcm:cap≤maxLen) {w1:World} (gr:Grows w w1) (hsz:w1.heap.size=w.heap.size) {w':World} (hw':w'=w1.alloc (.cells arr e fr))
  (hrun:(execOp a.eval o).run P w= .ok (.value (.slice (some ⟨w.heap.size,0,none⟩) l.length cap)) w'):Does P H π R w a o [] (some (V1 (.own H.length))) (H++[.lst t l]):=by
 subst hw'
 have gr':Grows w (w1.alloc (.cells arr e fr)):=gr.trans (Grows.alloc w1 _)
 have g:Goes H π R w (H++[.lst t l]) (upd π H.length ⟨w.heap.size,cap,Hx⟩) R (w1.alloc (.cells arr e fr)):=Goes.push gr' _ _ fun b h=>Nat.le_of_eq h.2
 have hb:(w1.alloc (.cells arr e fr)).heap[w.heap.size]? =some (.cells arr e fr):=by rw[←hsz];exact heap_alloc_new w1 _
 refine⟨_,upd π H.length ⟨w.heap.size,cap,Hx⟩,ok.push gr' ⟨w.heap.size,cap,Hx⟩ _ (fun b h=>by have h:w.heap.size=b:=h.2;subst h;exact⟨Nat.le_refl _,by simp[hsz]⟩) ⟨hlc,hcm,fun _=>⟨e,arr,fr,hb,hth,hcap,?_⟩⟩,g,fun b hb _=>gr'.keep b hb,_,hrun,?_⟩
 ·have:=T7 (w:=w1.alloc (.cells arr e fr)) (R:=R) (b:=w.heap.size) (o:=0) (hr.imp fun c v _ h=>Rep1.mono (fun _ h=>h) (fun b hR=>g.keepR ok hR) c v h) (fun j v hj=>by
   rw[cell_of_row _ _ _ _ _ _ hb]
   obtain ⟨rest,hrest⟩:=harr
   have:arr[0+j]? =arr.toList[0+j]? :=by simp
   rw[this,hrest,Nat.zero_add,List.getElem?_append_left (Aw hj)]
   exact hj)
  simpa using this
 ·show RepC (H++[.lst t l]) (upd π H.length ⟨w.heap.size,cap,Hx⟩) (w1.alloc (.cells arr e fr)) R (.own H.length) _
  simp only[RepC,Cy,Ci]
  by_cases hc:cap=0
  ·subst hc
   exact .inl ⟨rfl,by omega,⟨_,by rw[show l.length=0 by omega]⟩⟩
  ·exact .inr ⟨by show 0<cap;omega,rfl⟩
theorem T9 {z:Array Value} {c q:Nat} (h:q<c):(madeCells z c)[q]? =some (z[q % z.size]!):=by
 unfold madeCells
 simp[h]
theorem Acr {o:Oper} {n cap:Nat} {n0:Int} {e:TypeId} {arr:Array Value} (ok:HOK H π R w) (hcap:cap*2≤arr.size) (hlc:n≤cap) (hcm:cap≤maxLen)
  (hget: ∀q,q<cap→arr[q*2]? =some (.int .i64 n0)∧∃ad,arr[q*2+1]? =some (.slice ad 0 0))
  (hrun:(execOp a.eval o).run P w= .ok (.value (.slice (some ⟨w.heap.size,0,none⟩) n cap)) (w.alloc (.cells arr e))):Does P H π R w a o [] (some (V1 (.own H.length))) (H++[.tree (List.replicate n ⟨n0,[]⟩)]):=by
 have gr:Grows w (w.alloc (.cells arr e)):=Grows.alloc w _
 have has: ∀b,Has ⟨w.heap.size,cap,Hx⟩ (.tree (List.replicate n ⟨n0,[]⟩)) b→w.heap.size=b:=fun b h=>by
  rcases h with ⟨_,h|h⟩
  ·exact h
  ·exact h.elim
 have g:Goes H π R w (H++[.tree (List.replicate n ⟨n0,[]⟩)]) (upd π H.length ⟨w.heap.size,cap,Hx⟩) R (w.alloc (.cells arr e)):=Goes.push gr _ _ fun b h=>Nat.le_of_eq (has b h)
 have hb:(w.alloc (.cells arr e)).heap[w.heap.size]? =some (.cells arr e (0,0)):=heap_alloc_new w _
 refine⟨_,upd π H.length ⟨w.heap.size,cap,Hx⟩,ok.push gr ⟨w.heap.size,cap,Hx⟩ _ (fun b h=>by have:=has b h;subst this;exact⟨Nat.le_refl _,by simp⟩)
  ⟨by simpa using hlc,hcm,fun _=>⟨e,arr,(0,0),fun _=>⟨0,0,Hx⟩,hb,fun _ _ h=>by omega,hcap,fun h=>h,fun i x hi=>?_,fun _ _ _ _ h=>absurd h (by simp)⟩⟩,g,fun b hb _=>gr.keep b hb,_,hrun,?_⟩
 ·have hl:=Aw hi
  rw[List.length_replicate] at hl
  rw[List.getElem?_replicate,if_pos hl] at hi
  cases hi
  obtain ⟨a1,ad,a2⟩:=hget i (by omega)
  exact⟨a1,⟨_,a2,.inl ⟨rfl,rfl,ad,rfl⟩⟩,⟨Nat.le_refl _,by simp,fun h=>absurd h (by simp)⟩,fun h=>absurd h (by simp)⟩
 ·show RepC (H++[.tree (List.replicate n ⟨n0,[]⟩)]) (upd π H.length ⟨w.heap.size,cap,Hx⟩) (w.alloc (.cells arr e)) R (.own H.length) _
  simp only[RepC,Cy,Ci,List.length_replicate]
  by_cases hc:cap=0
  ·subst hc
   exact .inl ⟨rfl,by omega,⟨_,by rw[show n=0 by omega]⟩⟩
  ·exact .inr ⟨by show 0<cap;omega,rfl⟩
theorem Agz {o:Oper} {M:List Nat} {k:Nat} {fs:List Fld} {n:Int} {v1:Value} {e:TypeId} (ok:HOK H π R w) (hk:H[k]? =some (.lst .fld fs)) (hv1:OwnVal (π k) fs.length v1)
  (hrun:(execOp a.eval o).run P w= .ok (.value (.slice (some ⟨w.heap.size,0,none⟩) 1 1)) (w.alloc (.cells #[.int .i64 n,v1] e))):Does P H π R w a o M (some (V1 (.own H.length))) (H.set k .dK++[.tree [⟨n,fs⟩]]):=by
 have gr:Grows w (w.alloc (.cells #[.int .i64 n,v1] e)):=Grows.alloc w _
 have hset:(H.set k .dK).set k .dK=H.set k .dK:=by simp
 have hl:(H.set k .dK).length=H.length:=by simp
 have hlt:0<(π k).cap→(π k).b<w.heap.size:=fun h=>ok.lt k _ _ hk ⟨h,rfl⟩
 have hb:(w.alloc (.cells #[.int .i64 n,v1] e)).heap[w.heap.size]? =some (.cells #[.int .i64 n,v1] e (0,0)):=heap_alloc_new w _
 have hp: ∀b,Has ⟨w.heap.size,1,fun b=>0<(π k).cap∧(π k).b=b⟩ (.tree [⟨n,fs⟩]) b→Has (π k) (.lst .fld fs) b∨Has (π k) (.lst .fld fs) b∨(w.heap.size≤b∧b<(w.alloc (.cells #[.int .i64 n,v1] e)).heap.size):=fun b h=>by
  rcases h with ⟨_,h|h⟩
  ·have h:w.heap.size=b:=h
   subst h;exact .inr (.inr ⟨Nat.le_refl _,by simp⟩)
  ·exact .inl h
 have hy:TreeAt (w.alloc (.cells #[.int .i64 n,v1] e)) ⟨w.heap.size,1,fun b=>0<(π k).cap∧(π k).b=b⟩ [⟨n,fs⟩]:=by
  refine⟨Nat.le_refl _,by show 1≤maxLen;unfold maxLen;omega,fun _=>⟨e,_,(0,0),fun _=>π k,hb,fun _ _ h=>by omega,by simp,?_,fun i x hi=>?_,fun i q hi hq _ _ _=>?_⟩⟩
  ·rintro ⟨h1,h2⟩
   have:=hlt h1
   have h2:(π k).b=w.heap.size:=h2
   omega
  ·have hi0:i=0:=by have:=Aw hi;simpa using this
   subst hi0
   cases hi
   exact⟨rfl,⟨v1,rfl,hv1⟩,(R9 (H:=H) (π:=π) (w:=w) (R:=R) (ok.blocks k _ hk)).mono fun h=>gr.keep _ (hlt h),fun h=>⟨h,rfl⟩⟩
  ·simp only[List.length_cons,List.length_nil] at hi hq;omega
 have g:=Goes.fuse (p:=⟨w.heap.size,1,fun b=>0<(π k).cap∧(π k).b=b⟩) (R:=R) hk hk gr.os gr.tape gr.output gr.size (fun b hb _=>gr.keep b hb) fun b h=>(hp b h).imp id (Or.imp id And.left)
 have ok':=HOK.fuse ok hk hk gr.os gr.tape gr.output gr.size (fun b hb _=>gr.keep b hb) hp hy
 rw[hset] at g ok'
 refine⟨_,upd π H.length _,ok',g,fun b hb _=>gr.keep b hb,_,hrun,?_⟩
 show RepC (H.set k .dK++[.tree [⟨n,fs⟩]]) _ (w.alloc (.cells #[.int .i64 n,v1] e)) R (.own H.length) _
 simp only[RepC]
 rw[←hl,Cy,hl,Ci]
 exact .inr ⟨Nat.one_pos,rfl⟩
theorem X4 {z:List Value} {zc:List C} (hz:All2 (RepC H π w R) zc z): ∀n,All2 (RepC H π w R) (List.replicate n zc).flatten (List.replicate n z).flatten
 |0=> .nil
 |n+1=>by
  rw[List.replicate_succ,List.replicate_succ,List.flatten_cons,List.flatten_cons]
  exact hz.append (X4 hz n)
theorem Afn (z:Array Value) (hz:0<z.size): ∀n,((Array.range (n*z.size)).map (z[· % z.size]!)).toList=(List.replicate n z.toList).flatten:=by
 intro n
 apply List.ext_getElem?
 intro i
 have key: ∀(n i:Nat),(List.replicate n z.toList).flatten[i]? =if i<n*z.size then z[i % z.size]? else none:=by
  intro n
  induction n with
  |zero=>intro i;simp
  |succ n ih=>
   intro i
   rw[List.replicate_succ,List.flatten_cons]
   by_cases hi:i<z.size
   ·rw[List.getElem?_append_left (by simpa using hi),if_pos (by rw[Nat.add_mul];omega),Nat.mod_eq_of_lt hi]
    simp
   ·rw[List.getElem?_append_right (by simp;omega),Array.length_toList,ih,Nat.add_mul]
    by_cases h2:i-z.size<n*z.size
    ·rw[if_pos h2,if_pos (by omega),←Nat.mod_eq_sub_mod (by omega)]
    ·rw[if_neg h2,if_neg (by omega)]
 rw[key]
 by_cases hi:i<n*z.size
 ·have hm:=Nat.mod_lt i hz
  simp[hi,hm]
 ·simp[hi]
theorem Does.any {M:List Nat} {o:Oper} {so:Option S} {H':List Blk} (h:Does P H π R w a o [] so H'):Does P H π R w a o M so H':=by
 obtain ⟨w',π',ok',g,hm,h⟩:=h
 exact⟨w',π',ok',g,fun b hb _=>hm b hb (by simp),h⟩
structure TC (w:World) (l:List Shp) (vs:List Value) (q:Nat→Pl) (I:Nat→Prop):Prop where
 len:vs.length=l.length*2
 el: ∀(i:Nat) (x:Shp),l[i]? =some x→vs[i*2]? =some (.int .i64 x.id)∧(∃v,vs[i*2+1]? =some v∧OwnVal (q i) x.fJ.length v)∧RowAt w (q i) .fld x.fJ∧(0<(q i).cap→I (q i).b)
 inj: ∀i k,i<l.length→k<l.length→0<(q i).cap→0<(q k).cap→(q i).b=(q k).b→i=k
theorem TC.mono {w':World} {l:List Shp} {vs:List Value} {q:Nat→Pl} {I J:Nat→Prop} (h:TC w l vs q I) (hI: ∀b,0<l.length→I b→J b) (hb: ∀b,0<l.length→I b→w'.heap[b]? =w.heap[b]?):TC w' l vs q J:=
 ⟨h.len,fun i x hi=>by
  have hl:0<l.length:=by have:=Aw hi;omega
  obtain ⟨a,b,c,d⟩:=h.el i x hi
  exact⟨a,b,c.mono fun hc=>hb _ hl (d hc),fun hc=>hI _ hl (d hc)⟩,h.inj⟩
theorem TC.append {l m:List Shp} {vs us:List Value} {q r:Nat→Pl} {I:Nat→Prop} (h:TC w l vs q I) (g:TC w m us r I) (hd: ∀i k,i<l.length→k<m.length→0<(q i).cap→0<(r k).cap→(q i).b≠(r k).b):
  TC w (l++m) (vs++us) (fun i=>if i<l.length then q i else r (i-l.length)) I:=by
 have hlen:=h.len
 refine⟨by rw[List.length_append,h.len,g.len,List.length_append,Nat.add_mul],fun i x hi=>?_,fun i k hi hk=>?_⟩
 ·by_cases hil:i<l.length
  ·rw[List.getElem?_append_left hil] at hi
   obtain ⟨a,⟨v,b1,b2⟩,c,d⟩:=h.el i x hi
   rw[if_pos hil,List.getElem?_append_left (by omega),List.getElem?_append_left (by omega)]
   exact⟨a,⟨v,b1,b2⟩,c,d⟩
  ·rw[List.getElem?_append_right (by omega)] at hi
   obtain ⟨a,⟨v,b1,b2⟩,c,d⟩:=g.el _ x hi
   rw[if_neg hil,List.getElem?_append_right (by omega),List.getElem?_append_right (by omega),show i*2-vs.length=(i-l.length)*2 by omega,show i*2+1-vs.length=(i-l.length)*2+1 by omega]
   exact⟨a,⟨v,b1,b2⟩,c,d⟩
 ·rw[List.length_append] at hi hk
  by_cases hil:i<l.length<;>by_cases hkl:k<l.length
  ·rw[if_pos hil,if_pos hkl];exact h.inj i k hil hkl
  ·rw[if_pos hil,if_neg hkl];intro h1 h2 h3;exact(hd i _ hil (by omega) h1 h2 h3).elim
  ·rw[if_neg hil,if_pos hkl];intro h1 h2 h3;exact(hd k _ hkl (by omega) h2 h1 h3.symm).elim
  ·rw[if_neg hil,if_neg hkl];intro h1 h2 h3;have:=g.inj _ _ (by omega) (by omega) h1 h2 h3;omega
theorem TC.tree {l:List Shp} {vs:List Value} {q:Nat→Pl} {I:Nat→Prop} {p:Pl} (h:TC w l vs q I) (hI: ∀b,0<l.length→I b→p.ins b) (hlc:l.length≤p.cap) (hcm:p.cap≤maxLen)
  (hrow:0<p.cap→∃e arr fr,w.heap[p.b]? =some (.cells arr e fr)∧Apn arr.size fr∧p.cap*2≤arr.size∧∀i,i<l.length*2→arr[i]? =vs[i]?) (hn:0<p.cap→¬p.ins p.b):TreeAt w p l:=
 ⟨hlc,hcm,fun hc=>by
  obtain ⟨e,arr,fr,h1,h2,h3,h4⟩:=hrow hc
  refine⟨e,arr,fr,q,h1,h2,h3,hn hc,fun i x hi=>?_,h.inj⟩
  have:=Aw hi
  obtain ⟨a,b,c,d⟩:=h.el i x hi
  rw[h4 _ (by omega),h4 _ (by omega)]
  exact⟨a,b,c,fun hc=>hI _ (by omega) (d hc)⟩⟩
theorem OwnVal.one {p:Pl} {n:Nat} {v:Value} (h:OwnVal p n v):v.oneCell'=true:=by
 rcases h with ⟨_,_,a,rfl⟩|⟨_,rfl⟩<;>rfl
theorem Z8 {p:Pl} {l:List Shp} {v:Value} {tx e:TypeId} (h:TreeAt w p l) (hv:OwnVal p l.length v) (hu:P.underlying tx=some (.slice e)):
  ∃vs q,TC w l vs q p.ins∧Src P 2 tx v l.length vs w∧(∀j u,vs[j]? =some u→w.cell? ⟨p.b,j,none⟩=some u):=by
 obtain ⟨h1,h2,h3⟩:=h
 rcases hv with ⟨hc,hn,ad,rfl⟩|⟨hc,rfl⟩
 ·have hl:l=[]:=List.eq_nil_of_length_eq_zero hn
  subst hl
  refine⟨[],fun _=>p,⟨rfl,fun i x hi=>by simp at hi,fun i k hi=>by simp at hi⟩,?_,fun j u hj=>by simp at hj⟩
  cases ad with
  |none=>exact Src.ofNil w hu 0
  |some ad=>exact Src.ofSlice w hu ad 0 0 [] (by simp) (fun j u hj=>by simp at hj) (fun u hu=>by simp at hu)
 ·obtain ⟨e1,arr,fr,q,hb,hth,hsz,hn,hx,hq⟩:=h3 hc
  have hle:l.length*2≤arr.size:=by omega
  have get: ∀j,j<l.length*2→(arr.toList.take (l.length*2))[j]? =arr[j]? :=fun j hj=>by rw[List.getElem?_take,if_pos hj];simp
  have hlen:(arr.toList.take (l.length*2)).length=l.length*2:=by rw[List.length_take];simp;omega
  have cell: ∀j u,(arr.toList.take (l.length*2))[j]? =some u→w.cell? ⟨p.b,j,none⟩=some u:=fun j u hj=>by
   have:=Aw hj
   rw[cell_of_row w _ _ arr e1 fr hb,←get j (by omega)];exact hj
  have T:TC w l (arr.toList.take (l.length*2)) q p.ins:=⟨hlen,fun i x hi=>by
   have:=Aw hi
   rw[get _ (by omega),get _ (by omega)]
   exact hx i x hi,hq⟩
  refine⟨_,q,T,Src.ofSlice w hu _ _ _ _ hlen (fun j u hj=>by rw[Addr.add_mid,Nat.zero_add];exact cell j u hj) (fun u hu=>?_),cell⟩
  obtain ⟨j,hj⟩:=List.getElem?_of_mem hu
  have hjl:=Aw hj
  have hj2:j / 2<l.length:=by omega
  obtain ⟨a1,⟨v,a2,a3⟩,_,_⟩:=T.el (j / 2) _ (List.getElem?_eq_getElem hj2)
  rcases (show j=j / 2*2∨j=j / 2*2+1 by omega) with h|h
  ·rw[←h,hj] at a1;cases a1;rfl
  ·rw[←h,hj] at a2;cases a2;exact a3.one
theorem Ai0 (ok:HOK H π R w) (hf:Frm tm H π w R a) {o:Oper} {d:Option Dir} {so:Option S} {H':List Blk} {ob:List Prop} {k:Bool}
  (h:Qu P H tm o.op d=some (so,H',ob,k)) (hob:All ob) (hk:match o.op with| .buildSlice .. | .makeSlice .. | .convert .. =>True|_=>False):Does P H π R w a o (Jp tm o.op) so H':=by
 cases ho:o.op<;>rw[ho] at h hk<;>first|exact hk.elim|skip
 case buildSlice ty len parts=>
  have run1: ∀ {e:TypeId} {i:TypeInfo} {z:Value} {n:Int} {c:C},P.underlying ty=some (.slice e)→P.info? e=some i→Re tm parts.toList=some [(0,.agg [.int .i64 n,c])]→i.zero=some z→i.size=2→z.cells.size=2→
    ∃v1,RepC H π w R c v1∧(∀ {o:Oper},o.op= .buildSlice ty 1 parts→(execOp a.eval o).run P w= .ok (.value (.slice (some ⟨w.heap.size,0,none⟩) 1 1)) (w.alloc (.cells #[.int .i64 n,v1] e))):=by
   intro e i z n c hu hi hps hz hs hzs
   have hp:=Pa hf hps
   generalize hm:parts.toList.map (fun (i,x)=>(i,a.eval x))=ms at hp
   obtain ⟨u,hms,vs,hv,v0,v1,hvs,h0,h1⟩: ∃u,ms=[(0,u)]∧∃vs:List Value,u= .agg vs.toArray∧∃v0 v1,vs=[v0,v1]∧RepC H π w R (.int .i64 n) v0∧RepC H π w R c v1:=by
    cases hp with
    | @cons _ b _ m h t=>
     cases t
     obtain ⟨i0,u⟩:=b
     obtain ⟨h0,vs,hv,hl⟩:=h
     dsimp only at h0
     subst h0
     refine⟨u,rfl,vs,hv,?_⟩
     cases hl with
     | @cons _ v0 _ _ h0 t=>
      cases t with
      | @cons _ v1 _ _ h1 t=>
       cases t
       exact⟨v0,v1,rfl,h0,h1⟩
   subst hms;subst hv;subst hvs
   have h0:v0= .int .i64 n:=h0
   subst h0
   have hA: ∀A:Array Value,A.size=2→Instr.fill (fun i=>some (i*2,2)) A [(0,.agg #[.int .i64 n,v1])]=some #[.int .i64 n,v1]:=by
    intro A hA
    obtain ⟨x,y,rfl⟩: ∃x y,A= #[x,y]:=by
     match A,hA with
     |⟨[x,y]⟩,_=>exact⟨x,y,rfl⟩
    simp[Instr.fill,Value.cells]
   refine⟨v1,h1,fun {o} ho=>?_⟩
   have hzero: ∀w':World,(zeroValue e).run P w'= .ok z w':=fun w'=>by simp[zeroValue,typeInfo,hi,hz]
   have hfl:=hA ((Array.range (1*2)).map fun x=>z.cells[x % z.cells.size]!) (by simp)
   have hm':(parts.map fun (i,x)=>(i,a.eval x)).toList=[(0,.agg #[.int .i64 n,v1])]:=by rw[Array.toList_map];exact hm
   simp only[Array.toList_map] at hm'
   simp[execOp,ho,Instr.buildSlice,run_underlying hu,sizeOf,Hn hi,hs,hzero,hm',hfl,newRow]
  unfold Qu at h
  dsimp only at h
  split at h
  ·rename_i e t hu
   split at h
   ·rename_i i ps hi hps
    split at h
    ·rename_i z hz
     split at h
     ·rename_i v hv
      split at h
      ·rename_i hk2
       obtain ⟨hs,hvl,hle⟩:=hk2
       have hle:=Nat.le_of_ble_eq_true hle
       split at h
       ·rename_i cs hfill
        split at h
        ·rename_i l hl
         cases h
         have hzv:N7 H π w R v z:=U4 hv
         have hzc:=F5 hzv
         have hzs:z.cells.size=t.k:=by rw[←hvl,hzc.length];simp
         obtain ⟨vs,hfl,hr⟩:=T5 hfill (X4 hzc len) (Pa hf hps)
         have hcl:cs.length=len*t.k:=by
          have h1: ∀ {ps:List (Nat×V)} {cs cs':List C},Ack (fun i=>some (i*t.k,t.k)) cs ps=some cs'→cs'.length=cs.length:=by
           intro ps
           induction ps with
           |nil=>intro cs cs' h;cases h;rfl
           |cons p ps ih=>
            intro cs cs' h
            unfold Ack at h
            dsimp only at h
            split at h
            ·rw[ih h,Di]
            ·cases h
          rw[h1 hfill]
          simp[hvl]
         obtain ⟨hll,hlf⟩:=Z7 hl (by omega)
         rw[List.take_of_length_le (by omega)] at hlf
         have hflat:All2 (RepC H π w R) (l.flatMap (enc t)) vs:=by rw[hlf];exact hr.map_left fun _ _ h=>X2 _ h
         have hvs:vs.length=len*t.k:=by rw[←hr.length,hcl]
         have hzero: ∀w':World,(zeroValue e).run P w'= .ok z w':=fun w'=>by simp[zeroValue,typeInfo,hi,hz]
         refine Does.any ?_
         refine T8 (e:=e) (arr:=vs.toArray) (fr:=(0,0)) (cap:=len) ok (Aco hflat) ⟨[],by simp⟩ (fun _ _ h=>by omega) (by simp[hvs]) (by omega) (by unfold maxLen;have:=t.k_pos;have:len≤len*t.k:=Nat.le_mul_of_pos_right _ this;omega) (Grows.refl w) rfl rfl ?_
         have hn: ¬(2 ^ 24<len*t.k):=by omega
         have hfl':Instr.fill (fun i=>some (i*t.k,t.k)) ((Array.range (len*t.k)).map fun x=>z.cells[x % z.cells.size]!) (parts.map fun (i,x)=>(i,a.eval x)).toList=some vs.toArray:=by
          rw[←hfl]
          congr 1
          ·rw[←hzs]
           apply Array.ext'
           rw[Afn z.cells (by rw[hzs];exact t.k_pos)]
          ·simp
         by_cases hz0:len*t.k=0
         ·have hl0:len=0:=by rcases Nat.mul_eq_zero.1 hz0 with h|h;exact h;have:=t.k_pos;omega
          subst hl0
          have hvs0:vs=[]:=List.eq_nil_of_length_eq_zero (by simpa using hvs)
          subst hvs0
          have hl0:l=[]:=List.eq_nil_of_length_eq_zero hll
          subst hl0
          simp only[Nat.zero_mul] at hfl'
          have hfl2:Instr.fill (fun i=>some (i*t.k,t.k)) #[] (parts.map fun (i,x)=>(i,a.eval x)).toList=some #[]:=by simpa [Array.range_zero'] using hfl'
          simp only[Array.toList_map] at hfl2
          simp[execOp,ho,Instr.buildSlice,run_underlying hu,sizeOf,typeInfo,hi,hs,hfl2,newRow,Array.range_zero']
         ·simp only[Array.toList_map] at hfl'
          simp[execOp,ho,Instr.buildSlice,run_underlying hu,sizeOf,Hn hi,hs,hn,hz0,hzero,hfl',newRow,hll]
        ·cases h
       ·cases h
      ·cases h
     ·cases h
    ·cases h
   ·cases h
  ·rename_i e hu
   split at h
   ·rename_i i n k hi hps
    split at h
    ·rename_i z fs hz hkk
     split at h
     ·rename_i hc
      obtain ⟨hs,hzs,hlen⟩:=hc
      cases h
      subst hlen
      obtain ⟨v1,hv1,hrun⟩:=run1 hu hi hps hz hs hzs
      exact Agz ok hkk (Lc (w:=w) (R:=R) hkk hv1) (hrun ho)
     ·cases h
    ·cases h
   ·rename_i i n hi hps
    split at h
    ·rename_i z hz
     split at h
     ·rename_i hc
      obtain ⟨hs,hzs,hlen⟩:=hc
      cases h
      subst hlen
      obtain ⟨v1,⟨ad,rfl⟩,hrun⟩:=run1 hu hi hps hz hs hzs
      refine Does.any ?_
      exact Acr (n:=1) (cap:=1) (n0:=n) (e:=e) (arr:= #[.int .i64 n,.slice ad 0 0]) ok (Nat.le_refl _) (Nat.le_refl _) (by unfold maxLen;omega) (fun q hq=>by
       have:q=0:=by omega
       subst this
       exact⟨rfl,ad,rfl⟩) (hrun ho)
     ·cases h
    ·cases h
   ·cases h
  ·cases h
 case makeSlice ty len cap=>
  unfold Qu at h
  dsimp only at h
  split at h
  ·rename_i e t k1 n k2 m hu hn hm
   split at h
   ·rename_i i hi
    split at h
    ·rename_i z hz
     split at h
     ·rename_i v hv
      split at h
      ·rename_i x hx
       split at h
       ·rename_i hs
        cases h
        obtain ⟨h0,h1,h2,h3,_⟩:=hob
        have e1:a.eval len= .int k1 n:=A7 hf hn
        have e2:a.eval cap= .int k2 m:=A7 hf hm
        have hzv:N7 H π w R v z:=U4 hv
        have hzc:=F5 hzv
        have henc:=Ad5 hx
        have hzr:All2 (RepC H π w R) (enc t x) z.cells.toList:=by rw[henc];exact hzc.map_left fun _ _ h=>X2 _ h
        have hzs:z.cells.size=t.k:=by rw[←S7 t x,hzr.length];simp
        have hrun:=run_make (P:=P) w ty e i z hu hi hz k1 k2 n m h0 h1 h2 h3
        have hmc:(madeCells z.cells (m.toNat*i.size)).toList=(List.replicate m.toNat z.cells.toList).flatten:=by
         unfold madeCells
         rw[hs,←hzs]
         exact Afn z.cells (by rw[hzs];exact t.k_pos) _
        have hfl: ∀q,(List.replicate q x).flatMap (enc t)=(List.replicate q (enc t x)).flatten:=fun q=>by
         induction q with
         |zero=>rfl
         |succ q ih=>rw[List.replicate_succ,List.flatMap_cons,ih];rfl
        refine Does.any ?_
        refine T8 (e:=e) (arr:=madeCells z.cells (m.toNat*i.size)) (fr:=(0,0)) (cap:=m.toNat) (vs:=(List.replicate n.toNat z.cells.toList).flatten) ok (Aco (by rw[hfl];exact X4 hzr _)) ⟨(List.replicate (m.toNat-n.toNat) z.cells.toList).flatten,?_⟩ (fun _ _ h=>by omega) (by rw[size_madeCells,hs];exact Nat.le_refl _) (by simp;omega) (by unfold maxLen;omega) (Grows.refl w) rfl rfl ?_
        ·rw[hmc,←List.flatten_append,List.replicate_append_replicate]
         congr 2
         omega
        ·simp[execOp,ho,e1,e2,hrun]
       ·cases h
      ·cases h
     ·cases h
    ·cases h
   ·cases h
  ·rename_i e k1 n k2 m hu hn hm
   split at h
   ·rename_i i hi
    split at h
    ·rename_i z hz
     split at h
     ·rename_i v hv
      split at h
      ·rename_i n0 hcv
       split at h
       ·rename_i hs
        cases h
        obtain ⟨h0,h1,h2,h3,_⟩:=hob
        have e1:a.eval len= .int k1 n:=A7 hf hn
        have e2:a.eval cap= .int k2 m:=A7 hf hm
        have hzv:N7 H π w R v z:=U4 hv
        have hzc:=F5 hzv
        rw[hcv] at hzc
        have hrun:=run_make (P:=P) w ty e i z hu hi hz k1 k2 n m h0 h1 h2 h3
        refine Does.any ?_
        refine Acr (e:=e) (arr:=madeCells z.cells (m.toNat*i.size)) (n:=n.toNat) (cap:=m.toNat) (n0:=n0) ok (by rw[size_madeCells,hs];exact Nat.le_refl _) (by omega) (by unfold maxLen;omega) (fun q hq=>?_) (by simp[execOp,ho,e1,e2,hrun])
        have hzl:z.cells.size=2:=by have:=hzc.length;simpa using this.symm
        obtain ⟨u0,hu0,r0⟩:=hzc.get (i:=0) rfl
        obtain ⟨u1,hu1,r1⟩:=hzc.get (i:=1) rfl
        obtain ⟨ad,rfl⟩:=r1
        have r0:u0= .int .i64 n0:=r0
        subst r0
        have g0:z.cells[0]! = .int .i64 n0:=by
         have:z.cells[0]? =some (.int .i64 n0):=by simpa using hu0
         simp[getElem!_def,this]
        have g1:z.cells[1]! = .slice ad 0 0:=by
         have:z.cells[1]? =some (.slice ad 0 0):=by simpa using hu1
         simp[getElem!_def,this]
        have hq2:q*2+1<m.toNat*i.size:=by rw[hs];omega
        refine⟨?_,ad,?_⟩
        ·rw[T9 (by omega),hzl,show q*2 % 2=0 by omega,g0]
        ·rw[T9 hq2,hzl,show (q*2+1) % 2=1 by omega,g1]
       ·cases h
      ·cases h
     ·cases h
    ·cases h
   ·cases h
  ·cases h
 case convert src dst x=>
  unfold Qu at h
  dsimp only at h
  split at h
  ·rename_i e str hs hd hx
   split at h
   ·rename_i he h1
    cases h
    obtain ⟨hb,_⟩:=hob
    have e1:a.eval x= .string ⟨str.toArray⟩:=A7 hf hx
    have hsz:(⟨str.toArray⟩:ByteArray).size=str.length:=by simp[ByteArray.size]
    have hrun:=run_bytes_of_string (P:=P) w src dst e ⟨str.toArray⟩ hs hd he
    have hge:=grownCap_ge w str.length 0 e
    rw[hsz] at hrun
    have hbl:(bytesRow ⟨str.toArray⟩ (grownCap w str.length 0 e)).size=grownCap w str.length 0 e:=by
     simp[bytesRow,hsz]
     omega
    refine Does.any ?_
    refine T8 (t:= .u8) (l:=str.map fun b=>(b.toNat:Int)) (e:=e) (arr:=bytesRow ⟨str.toArray⟩ (grownCap w str.length 0 e)) (fr:=((bytesRow ⟨str.toArray⟩ (grownCap w str.length 0 e)).size,(bytesRow ⟨str.toArray⟩ (grownCap w str.length 0 e)).size+1)) (cap:=grownCap w str.length 0 e)
     (vs:=str.map fun b=> .int .u8 b.toNat) ok ?_ ⟨List.replicate (grownCap w str.length 0 e-str.length) (.int .u8 0),by simp[bytesRow,hsz]⟩ (fun q hq h=>by omega) (by rw[hbl];simp[T.k]) (by simpa using hge)
     (grownCap_le_maxLen w str.length 0 e (by unfold maxLen;simp only[Bh] at hb;omega)) (Grows.refl w).drew rfl rfl ?_
    ·have: ∀l:List UInt8,All2 (Rep1 w R) ((l.map fun b=>(b.toNat:Int)).flatMap (enc .u8)) (l.map fun b=>Value.int .u8 b.toNat):=fun l=>by
      induction l with
      |nil=>exact .nil
      |cons b l ih=>exact .cons rfl ih
     exact this str
    ·simp only[execOp,ho,e1,Sem.run_bind,hrun,Result.andThen_ok,Sem.run_pure,List.length_map]
   ·cases h
  ·cases h
theorem Aqg (ok:HOK H π R w) {t:T} {tx:TypeId} {x:S} {l:List t.ty} {v:Value} (h:Aqf P H t tx x=some l) (hr:N8 H π w R x v): ∃news,All2 (Rep1 w R) (l.flatMap (enc t)) news∧Src P t.k tx v l.length news w:=by
 have one: ∀ {cs:List C} {vs:List Value},All2 (Rep1 w R) cs vs→∀u∈vs,u.oneCell'=true:=fun h u hu=>by
  obtain ⟨i,hi⟩:=List.getElem?_of_mem hu
  obtain ⟨c,_,hc⟩:=h.get' hi
  exact Rep1.one hc
 have empty: ∀ {e:TypeId} {ad:Option Addr} {cap:Nat},P.underlying tx=some (.slice e)→Src P t.k tx (.slice ad 0 cap) 0 [] w:=by
  intro e ad cap hu
  cases ad with
  |none=>exact Src.ofNil w hu cap
  |some ad=>exact Src.ofSlice w hu ad 0 cap [] (by simp) (fun j u hj=>by simp at hj) (fun u hu=>by simp at hu)
 have some_: ∀ {e:TypeId} {b off cap:Nat} {l:List t.ty},P.underlying tx=some (.slice e)→(∀i x,l[i]? =some x→CellsAt (Rep1 w R) w b (off+i*t.k) (enc t x))→∃news,All2 (Rep1 w R) (l.flatMap (enc t)) news∧Src P t.k tx (.slice (some ⟨b,off,none⟩) l.length cap) l.length news w:=by
  intro e b off cap l hu hc
  obtain ⟨news,hn,hrg⟩:=Pc hc
  exact⟨news,hn,Src.ofSlice w hu _ _ _ news (by rw[←hn.length,Xa]) (fun j u hj=>by rw[Addr.add_mid];exact hrg j u hj) (one hn)⟩
 unfold Aqf at h
 split at h
 ·rename_i t' l'
  split at h
  ·rename_i e hu
   split at h
   ·rename_i ht
    subst ht
    cases h
    obtain ⟨ad,cap,rfl,hlc,hcm,hel⟩:SeqAt (Rep1 w R) w R t' l' v:=hr
    by_cases hne:l'=[]
    ·subst hne;exact⟨[],.nil,empty hu⟩
    ·obtain ⟨b,off,rfl,hR,hx⟩:=hel hne
     exact some_ hu hx
   ·cases h
  ·cases h
 ·split at h
  ·rename_i e hu
   cases h
   obtain ⟨ad,rfl⟩:=hr
   exact⟨[],.nil,empty hu⟩
  ·cases h
 ·rename_i j
  split at h
  ·rename_i e t' l' hu hj
   split at h
   ·rename_i ht
    subst ht
    cases h
    rcases Lc (w:=w) (R:=R) hj hr with ⟨hc,hn,ad,rfl⟩|⟨hc,rfl⟩
    ·have:l'=[]:=List.eq_nil_of_length_eq_zero hn
     subst this
     exact⟨[],.nil,empty hu⟩
    ·exact some_ (off:=0) hu (by simpa using Lg ok hj hc)
   ·cases h
  ·cases h
 ·rename_i j off len
  split at h
  ·rename_i e t' l' hu hj
   split at h
   ·rename_i ht
    subst ht
    cases h
    obtain ⟨hle,ad,rfl,had⟩:=V6 (w:=w) (R:=R) hj hr
    have hlen:((l'.drop off).take len).length=len:=by simp;omega
    by_cases hn:len=0
    ·subst hn
     exact⟨[],by simpa using All2.nil,by simpa using empty hu⟩
    ·have hcap:=Ld ok hj
     have h2:=some_ (b:=(π j).b) (off:=off*t'.k) (cap:=(π j).cap-off) (l:=(l'.drop off).take len) hu (fun i x hi=>by
      rw[List.getElem?_take] at hi
      split at hi
      ·rw[List.getElem?_drop] at hi
       have:=Lg ok hj (by omega) _ x hi
       rwa [Nat.add_mul] at this
      ·cases hi)
     have had:=had (by omega)
     subst had
     rw[hlen] at h2
     show ∃news,All2 (Rep1 w R) (((l'.drop off).take len).flatMap (enc t')) news∧Src P t'.k tx (.slice (some ⟨(π j).b,off*t'.k,none⟩) len ((π j).cap-off)) ((l'.drop off).take len).length news w
     rw[hlen]
     exact h2
   ·cases h
  ·cases h
 ·rename_i s
  split at h
  ·rename_i hu
   split at h
   ·rename_i ht
    subst ht
    cases h
    have hv:v= .string ⟨s.toArray⟩:=hr
    subst hv
    have hb:byteCells ⟨s.toArray⟩=s.map fun b=>Value.int .u8 b.toNat:=by simp[byteCells]
    have hsz:(⟨s.toArray⟩:ByteArray).size=s.length:=by simp[ByteArray.size]
    refine⟨byteCells ⟨s.toArray⟩,?_,?_⟩
    ·rw[hb]
     have: ∀l:List UInt8,All2 (Rep1 w R) ((l.map fun b=>(b.toNat:Int)).flatMap (enc .u8)) (l.map fun b=>Value.int .u8 b.toNat):=fun l=>by
      induction l with
      |nil=>exact .nil
      |cons b l ih=>exact .cons rfl ih
     exact this s
    ·have:=Src.ofString (P:=P) w hu ⟨s.toArray⟩
     rw[hsz] at this
     simpa [T.k] using this
   ·cases h
  ·cases h
 ·cases h
theorem V8 {o:Oper} {t:T} (ok:HOK H π R w) {ad:Option Addr} (hrun:(execOp a.eval o).run P w= .ok (.value (.slice ad 0 0)) w):Does P H π R w a o [] (some (V1 (.own H.length))) (H++[.lst t []]):=by
 have g:Goes H π R w (H++[.lst t []]) (upd π H.length ⟨0,0,Hx⟩) R w:=Goes.push (Grows.refl w) _ _ fun b h=>absurd h.1 (by simp)
 refine⟨w,upd π H.length ⟨0,0,Hx⟩,ok.push (Grows.refl w) ⟨0,0,Hx⟩ _ (fun b h=>absurd h.1 (by simp)) ⟨Nat.le_refl _,by simp,fun h=>absurd h (by simp)⟩,g,fun _ _ _=>rfl,_,hrun,?_⟩
 show RepC (H++[.lst t []]) (upd π H.length ⟨0,0,Hx⟩) w R (.own H.length) _
 simp only[RepC,Cy,Ci]
 exact .inl ⟨rfl,rfl,ad,rfl⟩
theorem Ta {ts tx e ty:TypeId} {i:TypeInfo} {sv xv:Value} {k:Nat} {ad:Option Addr} {news:List Value} (hu:P.underlying ts=some (.slice e)) (hi:P.info? e=some i) (hsz:i.size=k) (hv:sv= .slice ad 0 0) (hS:Src P k tx xv 0 news w):
  (Builtin.append_ #[ts,tx] ty #[sv,xv]).run P w= .ok (.slice ad 0 0) w:=by
 have hn0:news=[]:=List.eq_nil_of_length_eq_zero (by simpa using hS.newsLen)
 subst hn0
 subst hv
 subst hsz
 have hlen:=hS.len w
 have hcl:=hS.cells
 rcases hS.kind with ⟨e',hk⟩|hk<;>cases ad<;>simp[Builtin.append_,run_underlying hu,run_underlying hk,sizeOf,typeInfo,hi,hlen,hcl,storeCells]
theorem Does.of_kill {M:List Nat} {o:Oper} {so:Option S} {H':List Blk} {j:Nat} {x:Blk} (hj:H[j]? =some x) (h:Does P (H.set j .dK) π R w a o [] so H'):Does P H π R w a o M so H':=by
 obtain ⟨w',π',ok',g,hm,h⟩:=h
 exact⟨w',π',ok',(Goes.kill hj).trans g,fun b hb _=>hm b hb (by simp),h⟩
theorem Ad9 {o:Oper} {M:List Nat} (ok:HOK H π R w) {ts tx e e2 ty:TypeId} {i:TypeInfo} {z sv xv:Value} {j k:Nat} {l1 l2:List Shp} (hu:P.underlying ts=some (.slice e)) (hu2:P.underlying tx=some (.slice e2)) (hi:P.info? e=some i) (hz:i.zero=some z)
  (hsz:i.size=2) (hzz:z.cells.size=2) (hby:i.bytes≤512) (hjk:j≠k) (hj:H[j]? =some (.tree l1)) (hk:H[k]? =some (.tree l2)) (hbig:l1.length+l2.length≤Bh) (hsv:OwnVal (π j) l1.length sv) (hxv:OwnVal (π k) l2.length xv)
  (sX: ∀ {v:Value} {w':World},(Builtin.append_ #[ts,tx] ty #[sv,xv]).run P w= .ok v w'→(execOp a.eval o).run P w= .ok (.value v) w') (hMj:j∈M) (hMk:k∈M):
  Does P H π R w a o M (some (V1 (.own H.length))) ((H.set j .dK).set k .dK++[.tree (l1++l2)]):=by
 have hl:((H.set j .dK).set k .dK).length=H.length:=by simp
 obtain ⟨olds,q1,T1,S1,c1⟩:=Z8 (P:=P) (Hz ok hj) hsv hu
 obtain ⟨news,q2,T2,S2,c2⟩:=Z8 (P:=P) (Hz ok hk) hxv hu2
 have b1:=(Hz ok hj).1
 have b2:=(Hz ok hk).1
 have hol:=T1.len
 have hnl:=T2.len
 have hd: ∀i m,i<l1.length→m<l2.length→0<(q1 i).cap→0<(q2 m).cap→(q1 i).b≠(q2 m).b:=fun i m hi hm h1 h2 e'=>
  hjk (ok.inj j k _ _ (q1 i).b hj hk ⟨by omega,.inr ((T1.el i _ (List.getElem?_eq_getElem hi)).2.2.2 h1)⟩ ⟨by omega,.inr (e'▸(T2.el m _ (List.getElem?_eq_getElem hm)).2.2.2 h2)⟩)
 have lt1: ∀b,0<l1.length→(π j).ins b→b<w.heap.size:=fun b h hb=>ok.lt j _ b hj ⟨by omega,.inr hb⟩
 have lt2: ∀b,0<l2.length→(π k).ins b→b<w.heap.size:=fun b h hb=>ok.lt k _ b hk ⟨by omega,.inr hb⟩
 by_cases hroom:l1.length+l2.length≤(π j).cap
 ·rcases hsv with ⟨hc0,hn0,ad,rfl⟩|⟨hc0,rfl⟩
  ·have h1:l1=[]:=List.eq_nil_of_length_eq_zero hn0
   have h2:l2=[]:=List.eq_nil_of_length_eq_zero (by omega)
   subst h1;subst h2
   have hnone:=Ta (ty:=ty) (k:=2) hu hi hsz rfl (show Src P 2 tx xv 0 news w from S2) (ad:=ad)
   have hp: ∀b,¬Has ⟨0,0,Hx⟩ (.tree ([]++[])) b:=fun b h=>absurd h.1 (by simp)
   refine⟨w,upd π H.length ⟨0,0,Hx⟩,HOK.fuse ok hj hk rfl rfl rfl (Nat.le_refl _) (fun _ _ _=>rfl) (fun b h=>(hp b h).elim) ⟨Nat.le_refl _,by simp,fun h=>absurd h (by simp)⟩,Goes.fuse hj hk rfl rfl rfl (Nat.le_refl _) (fun _ _ _=>rfl) (fun b h=>(hp b h).elim),fun _ _ _=>rfl,_,sX hnone,?_⟩
   show RepC ((H.set j .dK).set k .dK++[.tree ([]++[])]) _ w R (.own H.length) _
   simp only[RepC]
   rw[←hl,Cy,hl,Ci]
   exact .inl ⟨rfl,rfl,ad,rfl⟩
  ·obtain ⟨_,hcm,h3⟩:=Hz ok hj
   obtain ⟨e1,cur,fr,q0,hb,hth,hs1,hn,_,_⟩:=h3 hc0
   have hfit:l1.length*2+news.length≤cur.size:=by omega
   have hr:=run_append_room_src (P:=P) w ts tx ty e i hu hi (π j).b 0 l1.length (π j).cap xv l2.length news (by rw[hsz];exact S2) hroom
    (fun q hq=>by rw[hsz,cell_of_row w _ _ cur e1 fr hb,Array.getElem?_eq_getElem (by omega)];rfl)
    (fun q hq=>by
     rw[hsz]
     have:=hth (0+l1.length*2+q) (by omega)
     unfold World.frozen?
     rw[hb]
     simp only[Bool.and_eq_false_iff,decide_eq_false_iff_not]
     omega)
   rw[hsz,Nat.zero_add] at hr
   have tu:=E6 (π j).b news (l1.length*2) w
   have hb':=Ez _ news (l1.length*2) _ _ _ _ hb
   have hjb:Has (π j) (.tree l1) (π j).b:=⟨hc0,.inl rfl⟩
   have hkj:0<(π k).cap→¬(π k).ins (π j).b:=fun hc h=>hjk (ok.inj j k _ _ _ hj hk hjb ⟨hc,.inr h⟩)
   have keep: ∀b,b<w.heap.size→¬Has (π j) (.tree l1) b→(w.setCells (π j).b (l1.length*2) news).heap[b]? =w.heap[b]? :=fun b _ h=>tu.keep b fun e=>h (e▸hjb)
   have hp: ∀b,Has ⟨(π j).b,(π j).cap,fun b=>(π j).ins b∨(0<(π k).cap∧(π k).ins b)⟩ (.tree (l1++l2)) b→Has (π j) (.tree l1) b∨Has (π k) (.tree l2) b∨(w.heap.size≤b∧b<(w.setCells (π j).b (l1.length*2) news).heap.size):=fun b h=>by
    rcases h with ⟨_,h|h|h⟩
    ·exact .inl ⟨hc0,.inl h⟩
    ·exact .inl ⟨hc0,.inr h⟩
    ·exact .inr (.inl ⟨h.1,.inr h.2⟩)
   have T:=(T1.mono (w':=w.setCells (π j).b (l1.length*2) news) (J:=fun b=>(π j).ins b∨(0<(π k).cap∧(π k).ins b)) (fun b _ h=> .inl h) fun b _ h=>tu.keep b fun e=>hn (e▸h)).append
    (T2.mono (w':=w.setCells (π j).b (l1.length*2) news) (fun b h0 h=> .inr ⟨by omega,h⟩) fun b h0 h=>tu.keep b fun e=>hkj (by omega) (e▸h)) hd
   have hy:TreeAt (w.setCells (π j).b (l1.length*2) news) ⟨(π j).b,(π j).cap,fun b=>(π j).ins b∨(0<(π k).cap∧(π k).ins b)⟩ (l1++l2):=by
    refine T.tree (fun b _ h=>h) (by simpa using hroom) hcm (fun _=>⟨e1,_,fr,hb',by simpa [Di] using hth,by simpa [Di] using hs1,fun q hq=>?_⟩) fun _ h=>?_
    ·rw[List.length_append] at hq
     simp only[List.getElem?_toArray]
     rw[getElem?_setL _ _ _ _ (by simpa using hfit)]
     by_cases hq1:q<olds.length
     ·rw[if_neg (by omega),List.getElem?_append_left hq1]
      have:=c1 q _ (List.getElem?_eq_getElem hq1)
      rw[cell_of_row w _ _ cur e1 fr hb] at this
      rw[List.getElem?_eq_getElem hq1,←this];simp
     ·rw[if_pos (by omega),List.getElem?_append_right (by omega),hol]
    ·rcases h with h|h
     ·exact hn h
     ·exact hkj h.1 h.2
   refine⟨_,upd π H.length _,HOK.fuse ok hj hk tu.os tu.tape tu.output (Nat.le_of_eq tu.size.symm) keep hp hy,Goes.fuse hj hk tu.os tu.tape tu.output (Nat.le_of_eq tu.size.symm) keep (fun b h=>(hp b h).imp id (Or.imp id And.left)),(tu.only hj hc0).sub (fun m hm=>by simp at hm;exact hm▸hMj),_,sX hr,?_⟩
   show RepC ((H.set j .dK).set k .dK++[.tree (l1++l2)]) _ (w.setCells (π j).b (l1.length*2) news) R (.own H.length) _
   simp only[RepC]
   rw[←hl,Cy,hl,Ci]
   show OwnVal _ (l1++l2).length _
   rw[List.length_append]
   exact .inr ⟨hc0,rfl⟩
 ·have hlt:(π j).cap<l1.length+l2.length:=by omega
  obtain ⟨base,hbase⟩: ∃base,sv= .slice base l1.length (π j).cap:=by
   rcases hsv with ⟨hc0,hn0,ad,rfl⟩|⟨hc0,rfl⟩
   ·exact⟨ad,by rw[hn0,hc0]⟩
   ·exact⟨_,rfl⟩
  subst hbase
  have hfit:=growslice_fits (need:=l1.length+l2.length) (old:=(π j).cap) (bytes:=i.bytes) hlt (by
   have:(l1.length+l2.length)*i.bytes≤Bh*512:=Nat.mul_le_mul hbig hby
   simp only[Bh] at this;omega)
  have hr:=run_append_grow_src (P:=P) w ts tx ty e i z hu hi hz base l1.length (π j).cap olds (by rw[hsz];exact S1.cellsD) xv l2.length news (by rw[hsz];exact S2) hlt (by simp only[Bh] at hbig;omega) hfit
  have hge:=grownCap_ge w (l1.length+l2.length) (π j).cap e
  have hgm:grownCap w (l1.length+l2.length) (π j).cap e≤maxLen:=grownCap_le_maxLen _ _ _ _ (by unfold maxLen;simp only[Bh] at hbig;omega)
  generalize grownCap w (l1.length+l2.length) (π j).cap e=cap at hr hge hgm
  generalize harr:(olds++news).toArray++Builtin.zeroCells z.cells (cap-(l1.length+l2.length))=arr at hr
  have has:arr.size=cap*2:=by rw[←harr];simp only[Array.size_append,List.size_toArray,List.length_append,size_zeroCells,hzz,hol,hnl];omega
  have hag: ∀q,q<(l1++l2).length*2→arr[q]? =(olds++news)[q]? :=fun q hq=>by
   rw[List.length_append] at hq
   rw[←harr,Array.getElem?_append_left (by simp;omega)];simp
  have gr:Grows w (w.drew.alloc (.cells arr e)):=(Grows.refl w).drew.trans (Grows.alloc _ _)
  have hnew:(w.drew.alloc (.cells arr e)).heap[w.heap.size]? =some (.cells arr e (0,0)):=heap_alloc_new w.drew _
  have hp: ∀b,Has ⟨w.heap.size,cap,fun b=>(0<(π j).cap∧(π j).ins b)∨(0<(π k).cap∧(π k).ins b)⟩ (.tree (l1++l2)) b→Has (π j) (.tree l1) b∨Has (π k) (.tree l2) b∨(w.heap.size≤b∧b<(w.drew.alloc (.cells arr e)).heap.size):=fun b h=>by
   rcases h with ⟨_,h|h|h⟩
   ·have h:w.heap.size=b:=h
    subst h;exact .inr (.inr ⟨Nat.le_refl _,(Array.getElem?_eq_some_iff.1 hnew).1⟩)
   ·exact .inl ⟨h.1,.inr h.2⟩
   ·exact .inr (.inl ⟨h.1,.inr h.2⟩)
  have T:=(T1.mono (w':=w.drew.alloc (.cells arr e)) (J:=fun b=>(0<(π j).cap∧(π j).ins b)∨(0<(π k).cap∧(π k).ins b)) (fun b h0 h=> .inl ⟨by omega,h⟩) fun b h0 h=>gr.keep b (lt1 b h0 h)).append
   (T2.mono (w':=w.drew.alloc (.cells arr e)) (fun b h0 h=> .inr ⟨by omega,h⟩) fun b h0 h=>gr.keep b (lt2 b h0 h)) hd
  have hy:TreeAt (w.drew.alloc (.cells arr e)) ⟨w.heap.size,cap,fun b=>(0<(π j).cap∧(π j).ins b)∨(0<(π k).cap∧(π k).ins b)⟩ (l1++l2):=by
   refine T.tree (fun b _ h=>h) (by simpa using hge) hgm (fun _=>⟨e,arr,(0,0),hnew,fun _ _ h=>by omega,by show cap*2≤arr.size;omega,hag⟩) fun _ h=>?_
   rcases h with h|h
   ·have:=ok.lt j _ _ hj ⟨h.1,.inr h.2⟩;exact Nat.lt_irrefl _ this
   ·have:=ok.lt k _ _ hk ⟨h.1,.inr h.2⟩;exact Nat.lt_irrefl _ this
  refine⟨_,upd π H.length _,HOK.fuse ok hj hk gr.os gr.tape gr.output gr.size (fun b hb _=>gr.keep b hb) hp hy,Goes.fuse hj hk gr.os gr.tape gr.output gr.size (fun b hb _=>gr.keep b hb) (fun b h=>(hp b h).imp id (Or.imp id And.left)),fun b hb _=>gr.keep b hb,_,sX hr,?_⟩
  show RepC ((H.set j .dK).set k .dK++[.tree (l1++l2)]) _ (w.drew.alloc (.cells arr e)) R (.own H.length) _
  simp only[RepC]
  rw[←hl,Cy,hl,Ci]
  show OwnVal _ (l1++l2).length _
  rw[List.length_append]
  exact .inr ⟨by show 0<cap;omega,rfl⟩
theorem Aea (ok:HOK H π R w) (hf:Frm tm H π w R a) {o:Oper} {d:Option Dir} {so:Option S} {H':List Blk} {ob:List Prop} {k:Bool} {c:Call} (ho:o.op= .call c)
  (h:Qu P H tm (.call c) d=some (so,H',ob,k)) (hob:All ob):Does P H π R w a o (Jp tm (.call c)) so H':=by
 obtain ⟨callee,args,argTypes⟩:=c
 unfold Qu at h
 split at h<;>first|(cases h;done)|(rename_i heq;cases heq;done)|(rename_i heq)
 cases heq
 split at h
 ·rename_i s x ts tx t hargs htys
  have hargs:args= #[s,x]:=by apply Array.ext';simpa using hargs
  have htys:argTypes= #[ts,tx]:=by apply Array.ext';simpa using htys
  subst hargs;subst htys
  split at h
  ·rename_i e sv xv hu hs hx
   split at h
   ·rename_i i l2 hi hsrc
    split at h
    ·rename_i z hz
     split at h
     ·rename_i hk2
      obtain ⟨hsz,hzz,hby⟩:=hk2
      have hby:=Nat.le_of_ble_eq_true hby
      obtain ⟨news,hnews,hS⟩:=Aqg ok hsrc (A7 hf hx)
      have hnl:news.length=l2.length*t.k:=hS.newsLen
      have sX: ∀ {v:Value} {w':World},(Builtin.append_ #[ts,tx] o.type #[a.eval s,a.eval x]).run P w= .ok v w'→(execOp a.eval o).run P w= .ok (.value v) w':=fun h=>by
       simp[execOp,ho,resolve,invoke,builtin,h]
      have grow: ∀ {H1:List Blk} (_ok1:HOK H1 π R w) {l1:List t.ty} {base:Option Addr} {cap:Nat} {olds:List Value},H1.length=H.length→a.eval s= .slice base l1.length cap→All2 (Rep1 w R) (l1.flatMap (enc t)) olds→
        (Builtin.firstCells t.k l1.length (.slice base l1.length cap)).run P w.drew= .ok olds.toArray w.drew→l1.length+l2.length≤Bh→cap<l1.length+l2.length→Does P H1 π R w a o [] (some (V1 (.own H1.length))) (H1++[.lst t (l1++l2)]):=by
       intro H1 ok1 l1 base cap olds _ hv hold hrun hbig hlt
       have hfit:=growslice_fits (need:=l1.length+l2.length) (old:=cap) (bytes:=i.bytes) hlt (by
        have:(l1.length+l2.length)*i.bytes≤Bh*512:=Nat.mul_le_mul hbig hby
        simp only[Bh] at this;omega)
       have hr:=run_append_grow_src (P:=P) w ts tx o.type e i z hu hi hz base l1.length cap olds (by rw[hsz];exact hrun) (a.eval x) l2.length news (by rw[hsz];exact hS) hlt (by simp only[Bh] at hbig;omega) hfit
       have hge:=grownCap_ge w (l1.length+l2.length) cap e
       have hol:olds.length=l1.length*t.k:=by rw[←hold.length,Xa]
       have hall:All2 (Rep1 w R) ((l1++l2).flatMap (enc t)) (olds++news):=by rw[List.flatMap_append];exact hold.append hnews
       rw[←hv] at hr
       refine T8 (e:=e) (arr:=(olds++news).toArray++Builtin.zeroCells z.cells (grownCap w (l1.length+l2.length) cap e-(l1.length+l2.length))) (fr:=(0,0)) (cap:=grownCap w (l1.length+l2.length) cap e) ok1 hall ⟨_,by simp;rfl⟩ (fun _ _ h=>by omega) ?_ (by simpa using hge) (grownCap_le_maxLen _ _ _ _ (by unfold maxLen;simp only[Bh] at hbig;omega)) (Grows.refl w).drew rfl rfl ?_
       ·simp only[Array.size_append,List.size_toArray,List.length_append,size_zeroCells,hzz,hol,hnl,←Nat.add_mul]
        exact Nat.mul_le_mul_right _ (by omega)
       ·rw[sX hr]
        simp
      split at h
      ·cases h
       obtain ⟨hbig,_⟩:=hob
       obtain ⟨ad,hv⟩:=A7 hf hs
       have hfc: ∀w':World,(Builtin.firstCells t.k 0 (.slice ad 0 0)).run P w'= .ok #[] w':=fun w'=>by cases ad<;>simp[Builtin.firstCells,loadCells,loadCellsFrom]
       by_cases hz2:l2=[]
       ·subst hz2
        have hn0:news=[]:=List.eq_nil_of_length_eq_zero (by simpa using hnl)
        subst hn0
        exact Does.any (V8 ok (ad:=ad) (by rw[sX (Ta hu hi hsz hv hS)]))
       ·have hpos:0<l2.length:=List.length_pos_iff.2 hz2
        have:=grow ok (l1:=[]) (base:=ad) (cap:=0) (olds:=[]) rfl (by rw[hv];rfl) .nil (hfc _) (by simpa using hbig) (by simpa using hpos)
        exact Does.any (by simpa using this)
      ·rename_i j
       split at h
       ·rename_i t' l hj
        split at h
        ·rename_i ht
         subst ht
         cases h
         obtain ⟨hbig,_⟩:=hob
         have hown:=Lc (w:=w) (R:=R) hj (A7 hf hs)
         have ok1:=ok.kill hj
         have hlen1:(H.set j .dK).length=H.length:=by simp
         rcases hown with ⟨hc0,hn0,ad,hv⟩|⟨hc0,hv⟩
         ·have hl0:l=[]:=List.eq_nil_of_length_eq_zero hn0
          subst hl0
          have hfc: ∀w':World,(Builtin.firstCells t'.k 0 (.slice ad 0 0)).run P w'= .ok #[] w':=fun w'=>by cases ad<;>simp[Builtin.firstCells,loadCells,loadCellsFrom]
          by_cases hz2:l2=[]
          ·subst hz2
           have:=V8 (t:=t') ok1 (ad:=ad) (a:=a) (P:=P) (o:=o) (by rw[sX (Ta hu hi hsz hv hS)])
           rw[hlen1] at this
           exact Does.of_kill hj (by simpa using this)
          ·have hpos:0<l2.length:=List.length_pos_iff.2 hz2
           have:=grow ok1 (l1:=[]) (base:=ad) (cap:=0) (olds:=[]) hlen1 (by rw[hv];rfl) .nil (hfc _) (by simpa using hbig) (by simpa using hpos)
           rw[hlen1] at this
           exact Does.of_kill hj (by simpa using this)
         ·obtain ⟨hlc,hcm,hblk⟩:=ok.blocks j _ hj
          obtain ⟨e1,cur,fr,hb,hth,hsz1,hel⟩:=hblk hc0
          obtain ⟨olds,hold,hrg⟩:=Pc (o:=0) (by simpa using hel)
          have hol:olds.length=l.length*t'.k:=by rw[←hold.length,Xa]
          by_cases hroom:l.length+l2.length≤(π j).cap
          ·have hfit:l.length*t'.k+news.length≤cur.size:=by
            rw[hnl,←Nat.add_mul]
            exact Nat.le_trans (Nat.mul_le_mul_right _ hroom) hsz1
           have hr:=run_append_room_src (P:=P) w ts tx o.type e i hu hi (π j).b 0 l.length (π j).cap (a.eval x) l2.length news (by rw[hsz];exact hS) hroom
            (fun q hq=>by rw[hsz,cell_of_row w _ _ cur e1 fr hb,Array.getElem?_eq_getElem (by omega)];rfl)
            (fun q hq=>by
             rw[hsz]
             have:=hth (0+l.length*t'.k+q) (by omega)
             unfold World.frozen?
             rw[hb]
             simp only[Bool.and_eq_false_iff,decide_eq_false_iff_not]
             omega)
           rw[hsz,Nat.zero_add,←hv] at hr
           have tu:=E6 (π j).b news (l.length*t'.k) w
           have g:Goes H π R w (H.set j .dK++[.lst t' (l++l2)]) (upd π H.length (π j)) R (w.setCells (π j).b (l.length*t'.k) news):=Goes.move tu (π j) hj hc0 fun b h=>h
           have hb':=Ez _ news (l.length*t'.k) _ _ _ _ hb
           refine⟨_,upd π H.length (π j),ok.move tu (π j) hj hc0 (fun b h=>h) ⟨by simpa using hroom,hcm,fun _=>⟨e1,_,fr,hb',by simpa [Di] using hth,by simpa [Di] using hsz1,?_⟩⟩,g,(tu.only hj hc0).sub (fun m hm=>by simp at hm;subst hm;exact X3 (args:= #[s,x]) rfl hs),_,sX hr,?_⟩
           ·have hall:All2 (Rep1 w R) ((l++l2).flatMap (enc t')) (olds++news):=by rw[List.flatMap_append];exact hold.append hnews
            have:=T7 (w:=w.setCells (π j).b (l.length*t'.k) news) (R:=R) (b:=(π j).b) (o:=0) (hall.imp fun c v _ h=>Rep1.mono (fun _ h=>h) (fun b hR=>g.keepR ok hR) c v h) (fun q v hq=>by
             rw[cell_of_row _ _ _ _ _ _ hb',Nat.zero_add]
             simp only[List.getElem?_toArray]
             rw[getElem?_setL _ _ _ _ (by simpa using hfit)]
             by_cases hq2:q<olds.length
             ·rw[if_neg (by omega)]
              rw[List.getElem?_append_left hq2] at hq
              have:=hrg q v hq
              rw[cell_of_row _ _ _ _ _ _ hb,Nat.zero_add] at this
              simpa using this
             ·rw[List.getElem?_append_right (by omega)] at hq
              have:=Aw hq
              rw[if_pos (by omega),←hol]
              exact hq)
            simpa using this
           ·show RepC (H.set j .dK++[.lst t' (l++l2)]) (upd π H.length (π j)) (w.setCells (π j).b (l.length*t'.k) news) R (.own H.length) _
            simp only[RepC]
            rw[←hlen1,Cy,hlen1,Ci]
            exact .inr ⟨hc0,by simp⟩
          ·have:=grow ok1 (l1:=l) (base:=some ⟨(π j).b,0,none⟩) (cap:=(π j).cap) (olds:=olds) hlen1 hv hold (run_firstCells_some w.drew t'.k l.length ⟨(π j).b,0,none⟩ l.length (π j).cap olds hol (fun q v hq=>by
            rw[Addr.add_mid]
            exact hrg q v hq)) hbig (by omega)
           rw[hlen1] at this
           exact Does.of_kill hj this
        ·cases h
       ·cases h
      ·cases h
     ·cases h
    ·cases h
   ·cases h
  ·cases h
 ·rename_i s x ts tx hargs htys
  have hargs:args= #[s,x]:=by apply Array.ext';simpa using hargs
  have htys:argTypes= #[ts,tx]:=by apply Array.ext';simpa using htys
  subst hargs;subst htys
  split at h
  ·rename_i e e2 j k hu hu2 hs hx
   split at h
   ·rename_i i l1 l2 hi hj hk
    split at h
    ·rename_i z hz
     split at h
     ·rename_i hc
      obtain ⟨hsz,hzz,hby,hjk⟩:=hc
      cases h
      obtain ⟨hbig,_⟩:=hob
      exact Ad9 (ty:=o.type) ok hu hu2 hi hz hsz hzz (Nat.le_of_ble_eq_true hby) (fun e=>by subst e;simp at hjk) hj hk hbig (S8 (w:=w) (R:=R) hj (A7 hf hs)) (S8 (w:=w) (R:=R) hk (A7 hf hx))
       (fun h=>by simp[execOp,ho,resolve,invoke,builtin,h]) (by simp[Jp,hs,hx]) (by simp[Jp,hs,hx])
     ·cases h
    ·cases h
   ·cases h
  ·cases h
 ·cases h
end
def Contract (P:Program) (f:FuncId) (args:List V) (L:List Blk) (res:S) (L':List Blk):Prop:=
 ∀(π:Nat→Pl) (R:Nat→Prop) (w:World) (vs:List Value),HOK L π R w→All2 (N7 L π w R) args vs→
  Calls P f vs.toArray w fun e w'=> ∃v π' R',e= .returned v∧HOK L' π' R' w'∧Goes L π R w L' π' R' w'∧N8 L' π' w' R' res v
def Arz (ρ:Nat→Nat):C→C
 | .own j=> .own (ρ j)
 | .sub j a b=> .sub (ρ j) a b
 | .ptr j o=> .ptr (ρ j) o
 | .eptr j i c=> .eptr (ρ j) i c
 | .fn f js=> .fn f (js.map ρ)
 | .lit b=> .bool b
 |c=>c
def Atm (ρ:Nat→Nat):V→V
 | .c x=> .c (Arz ρ x)
 | .agg l=> .agg (l.map (Arz ρ))
def At0 (ρ:Nat→Nat):S→S
 | .v x=> .v (Atm ρ x)
 | .tup l=> .tup (l.map (Atm ρ))
 | .junk=> .junk
def Apo (ρ:Nat→Nat):Blk→Blk
 | .cells cs=> .cells (cs.map (Arz ρ))
 | .hole l i N=> .hole l i (ρ N)
 |b=>b
def Z9:C→Bool
 | .seq _ _=>false
 | .rptr _ _ _=>false
 |_=>true
def Acs:V→Bool
 | .c x=>Z9 x
 | .agg l=>l.all Z9
def Ai1:S→Bool
 | .v x=>Acs x
 | .tup l=>l.all Acs
 | .junk=>true
def T.flat:T→Bool
 | .shp=>false
 | .rmsg=>false
 | .evs=>false
 |_=>true
def Afo:Blk→Bool
 | .dK=>true
 | .cells cs=>cs.all Z9
 | .lst t _=>t.flat
 | .tree _=>true
 | .ghost _=>true
 | .hole _ _ _=>true
def Same:Blk→Blk→Prop
 | .dK,.dK=>True
 | .cells cs,.cells cs'=>cs.length=cs'.length
 | .lst t l,.lst t' l'=>t=t'∧l.length=l'.length
 | .tree l,.tree l'=>l.length=l'.length
 | .ghost n,.ghost m=>n=m
 | .hole l _ _,.hole l' _ _=>l.length=l'.length
 |_,_=>False
theorem Same.has {x y:Blk} {p:Pl} {b:Nat} (h:Same x y):Has p x b↔Has p y b:=by
 cases x<;>cases y<;>simp_all[Same,Has]
section
variable {H L:List Blk} {π πL:Nat→Pl} {R RL:Nat→Prop} {w:World} {ρ:Nat→Nat}
def Emb (L:List Blk) (πL:Nat→Pl) (H:List Blk) (π:Nat→Pl) (ρ:Nat→Nat):Prop:= ∀p x,L[p]? =some x→∃y,H[ρ p]? =some y∧Same x y∧π (ρ p)=πL p
theorem Emb.ptr (e:Emb L πL H π ρ) {o p:Nat} {v:Value} (h:RepPtr L πL o p v):RepPtr H π o (ρ p) v:=by
 unfold RepPtr at h ⊢
 split at h
 ·rename_i cs hp
  obtain ⟨y,hy,hs,hq⟩:=e p _ hp
  cases y<;>simp only[Same] at hs
  rw[hy,hq];exact h
 ·rename_i hp
  obtain ⟨y,hy,hs,hq⟩:=e p _ hp
  cases y<;>simp only[Same] at hs
  rw[hy];exact h
 ·exact h.elim
theorem Emb.repC (e:Emb L πL H π ρ) {c:C} (hR:(∀b,RL b→R b)∨Z9 c=true) {v:Value} (h:RepC L πL w RL c v):RepC H π w R (Arz ρ c) v:=by
 cases c<;>simp only[Arz]<;>simp only[RepC] at h ⊢ <;>try exact h
 case seq=>
  rcases hR with hR|hR
  ·exact SeqAt.mono h hR (fun _ _=>rfl) (Rep1.mono hR fun _ _=>rfl)
  ·cases hR
 case own p=>
  split at h
  ·rename_i t l hp
   obtain ⟨y,hy,hs,hq⟩:=e p _ hp
   cases y<;>simp only[Same] at hs
   rw[hy,hq];dsimp only;rw[←hs.2];exact h
  ·rename_i l hp
   obtain ⟨y,hy,hs,hq⟩:=e p _ hp
   cases y<;>simp only[Same] at hs
   rw[hy,hq];dsimp only;rw[←hs];exact h
  ·rename_i l hp
   obtain ⟨y,hy,hs,hq⟩:=e p _ hp
   cases y<;>simp only[Same] at hs
   rw[hy,hq];dsimp only;rw[←hs];exact h
  ·rename_i hp
   obtain ⟨y,hy,hs,hq⟩:=e p _ hp
   cases y<;>simp only[Same] at hs
   rw[hy,hq];dsimp only;rw[←hs];exact h
  ·rename_i hp
   obtain ⟨y,hy,hs,hq⟩:=e p _ hp
   cases y<;>simp only[Same] at hs
   rw[hy];exact h
  ·exact h.elim
 case sub p off len=>
  split at h
  ·rename_i t l hp
   obtain ⟨y,hy,hs,hq⟩:=e p _ hp
   cases y<;>simp only[Same] at hs
   rw[hy,hq];dsimp only;rw[←hs.2,←hs.1];exact h
  ·rename_i hp
   obtain ⟨y,hy,hs,hq⟩:=e p _ hp
   cases y<;>simp only[Same] at hs
   rw[hy];exact h
  ·exact h.elim
 case ptr p o=>exact e.ptr h
 case eptr p i c=>
  split at h
  ·rename_i t l hp
   obtain ⟨y,hy,hs,hq⟩:=e p _ hp
   cases y<;>simp only[Same] at hs
   rw[hy,hq];dsimp only;rw[←hs.1];exact h
  ·rename_i l hp
   obtain ⟨y,hy,hs,hq⟩:=e p _ hp
   cases y<;>simp only[Same] at hs
   rw[hy,hq];exact h
  ·rename_i l hp
   obtain ⟨y,hy,hs,hq⟩:=e p _ hp
   cases y<;>simp only[Same] at hs
   rw[hy,hq];exact h
  ·rename_i hp
   obtain ⟨y,hy,hs,hq⟩:=e p _ hp
   cases y<;>simp only[Same] at hs
   rw[hy,hq];exact h
  ·rename_i hp
   obtain ⟨y,hy,hs,hq⟩:=e p _ hp
   cases y<;>simp only[Same] at hs
   rw[hy];exact h
  ·exact h.elim
 case rptr t x c=>
  rcases hR with hR|hR
  ·obtain ⟨b,o,hb,hv,hc⟩:=h
   exact⟨b,o,hR b hb,hv,hc.mono rfl fun c v _=>Rep1.mono hR (fun _ _=>rfl) c v⟩
  ·cases hR
 case fn f js=>
  obtain ⟨vs,hv,hj⟩:=h
  refine⟨vs,hv,?_⟩
  have: ∀ {js:List Nat} {vs:List Value},All2 (RepPtr L πL 0) js vs→All2 (RepPtr H π 0) (js.map ρ) vs:=fun h=>by
   induction h with
   |nil=>exact .nil
   |cons h _ ih=>exact .cons (e.ptr h) ih
  exact this hj
theorem Emb.repV (e:Emb L πL H π ρ) {c:V} (hR:(∀b,RL b→R b)∨Acs c=true) {v:Value} (h:N7 L πL w RL c v):N7 H π w R (Atm ρ c) v:=by
 cases c with
 |c x=>exact e.repC hR h
 |agg l=>
  obtain ⟨vs,rfl,hl⟩:=h
  refine⟨vs,rfl,?_⟩
  have hR':(∀b,RL b→R b)∨∀c∈l,Z9 c=true:=hR.imp id fun h=>by simpa [Acs] using h
  clear hR
  induction hl with
  |nil=>exact .nil
  |cons h _ ih=>exact .cons (e.repC (hR'.imp id fun h=>h _ (by simp)) h) (ih (hR'.imp id fun h c hc=>h c (by simp[hc])))
theorem Emb.repS (e:Emb L πL H π ρ) {c:S} (hR:(∀b,RL b→R b)∨Ai1 c=true) {v:Value} (h:N8 L πL w RL c v):N8 H π w R (At0 ρ c) v:=by
 cases c with
 |v x=>exact e.repV hR h
 |tup l=>
  obtain ⟨vs,rfl,hl⟩:=h
  refine⟨vs,rfl,?_⟩
  have hR':(∀b,RL b→R b)∨∀c∈l,Acs c=true:=hR.imp id fun h=>by simpa [Ai1] using h
  clear hR
  induction hl with
  |nil=>exact .nil
  |cons h _ ih=>exact .cons (e.repV (hR'.imp id fun h=>h _ (by simp)) h) (ih (hR'.imp id fun h c hc=>h c (by simp[hc])))
 |junk=>trivial
theorem Ag0 {t:T} (ht:t.flat=true) {x:t.ty} {c:C} (hc:c∈enc t x) {v:Value} (h:Rep1 w RL c v):Rep1 w R c v:=by
 cases t<;>simp only[T.flat,Bool.false_eq_true] at ht<;>simp only[enc,List.mem_cons,List.not_mem_nil,or_false] at hc
 case ev=>rcases hc with rfl|rfl|rfl|rfl|rfl|rfl|rfl<;>exact h
 case fld|rfld=>rcases hc with rfl|rfl|rfl|rfl|rfl<;>exact h
 case lev|rd=>rcases hc with rfl|rfl<;>exact h
 all_goals (subst hc;exact h)
theorem Emb.blk (e:Emb L πL H π ρ) {x:Blk} (hR:(∀b,RL b→R b)∨Afo x=true) {p:Pl} (h:BlkRep L πL w RL p x):BlkRep H π w R p (Apo ρ x):=by
 cases x with
 |dK=>trivial
 |cells cs=>
  obtain ⟨ty,vs,hb,hl⟩:=h
  refine⟨ty,vs,hb,?_⟩
  have hR':(∀b,RL b→R b)∨∀c∈cs,Z9 c=true:=hR.imp id fun h=>by simpa [Afo] using h
  clear hR hb
  generalize vs.toList=us at hl
  induction hl with
  |nil=>exact .nil
  |cons h _ ih=>exact .cons (e.repC (hR'.imp id fun h=>h _ (by simp)) h) (ih (hR'.imp id fun h c hc=>h c (by simp[hc])))
 |lst t l=>
  obtain ⟨h1,h2,h3⟩:=h
  refine⟨h1,h2,fun hc=>?_⟩
  obtain ⟨ty,vs,fr,hb,ht,hs,hx⟩:=h3 hc
  refine⟨ty,vs,fr,hb,ht,hs,fun i x hi=>(hx i x hi).mono rfl fun c v hc h=>?_⟩
  rcases hR with hR|hR
  ·exact Rep1.mono hR (fun _ _=>rfl) c v h
  ·exact Ag0 hR hc h
 |tree l=>exact h
 |ghost n=>trivial
 |hole l i N=>
  obtain ⟨hN,h⟩:=h
  obtain ⟨y,hy,_,hq⟩:=e N _ (List.getElem?_eq_getElem hN)
  exact⟨Aw hy,by rw[hq];exact h⟩
/-! ### The way in -/
def F0:List Nat→Nat→Option Nat
 |[],_=>none
 |i::r,j=>match Nat.beq i j with
  |true=>some 0
  |false=>(F0 r j).map (· +1)
theorem Ho: ∀ {idx:List Nat} {j p:Nat},F0 idx j=some p→idx[p]? =some j
 |i::r,j,p,h=>by
  unfold F0 at h
  split at h
  ·rename_i hb;cases h;simp[Nat.eq_of_beq_eq_true hb]
  ·simp only[Option.map_eq_some_iff] at h
   obtain ⟨q,hq,rfl⟩:=h
   simpa using Ho hq
def Ate (idx:List Nat):List Nat→Option (List Nat)
 |[]=>some []
 |j::r=>match F0 idx j,Ate idx r with
  |some p,some l=>some (p::l)
  |_,_=>none
def trC (bor:Bool) (H:List Blk) (idx:List Nat):C→Option C
 | .own j=>match F0 idx j with
  |some p=>some (.own p)
  |none=>match bor,H[j]? with
   |true,some (.lst t l)=>some (.seq t l)
   |true,some (.tree l)=>some (.seq .shp l)
   |_,_=>none
 | .sub j off len=>match F0 idx j with
  |some p=>some (.sub p off len)
  |none=>match bor,H[j]? with
   |true,some (.lst t l)=>some (.seq t ((l.drop off).take len))
   |_,_=>none
 | .ptr j o=>(F0 idx j).map fun p=> .ptr p o
 | .eptr j i c=>(F0 idx j).map fun p=> .eptr p i c
 | .fn f js=>(Ate idx js).map fun l=> .fn f l
 | .lit b=>some (.bool b)
 |c=>some c
def trL (bor:Bool) (H:List Blk) (idx:List Nat):List C→Option (List C)
 |[]=>some []
 |c::r=>match trC bor H idx c,trL bor H idx r with
  |some x,some l=>some (x::l)
  |_,_=>none
def trV (bor:Bool) (H:List Blk) (idx:List Nat):V→Option V
 | .c x=>(trC bor H idx x).map .c
 | .agg l=>(trL bor H idx l).map .agg
def Ars (bor:Bool) (H:List Blk) (idx:List Nat):List V→Option (List V)
 |[]=>some []
 |c::r=>match trV bor H idx c,Ars bor H idx r with
  |some x,some l=>some (x::l)
  |_,_=>none
def trB (H:List Blk) (idx:List Nat):Blk→Option Blk
 | .cells cs=>(trL false H idx cs).map .cells
 | .hole _ _ _=>none
 |b=>some b
def App (H:List Blk) (idx:List Nat):List Nat→Option (List Blk)
 |[]=>some []
 |j::r=>match H[j]? with
  |some x=>match trB H idx x,App H idx r with
   |some y,some l=>some (y::l)
   |_,_=>none
  |none=>none
def Down (idx:List Nat) (H:List Blk) (π:Nat→Pl) (L:List Blk) (πL:Nat→Pl):Prop:= ∀p j,idx[p]? =some j→∃x y,H[j]? =some x∧L[p]? =some y∧Same y x∧πL p=π j
theorem Down.ptr {idx:List Nat} (e:Down idx H π L πL) {o j p:Nat} (hp:F0 idx j=some p) {v:Value} (h:RepPtr H π o j v):RepPtr L πL o p v:=by
 obtain ⟨x,y,hx,hy,hs,hq⟩:=e p j (Ho hp)
 unfold RepPtr at h ⊢
 rw[hx] at h
 rw[hy,hq]
 cases x<;>cases y<;>simp only[Same] at hs<;>exact h
theorem Down.repC {idx:List Nat} (e:Down idx H π L πL) (ok:HOK H π R w) {bor:Bool} (hR: ∀b,R b→RL b) (hB:bor=true→∀j x b,H[j]? =some x→Has (π j) x b→F0 idx j=none→RL b) {c c':C} (hc:trC bor H idx c=some c') {v:Value} (h:RepC H π w R c v):
  RepC L πL w RL c' v:=by
 cases c<;>simp only[trC] at hc
 case bool|int|str|nil|nilp=>cases hc;exact h
 case lit=>cases hc;exact h
 case seq=>cases hc;exact SeqAt.mono h hR (fun _ _=>rfl) (Rep1.mono hR fun _ _=>rfl)
 case rptr=>
  cases hc
  obtain ⟨b,o,hb,hv,hcc⟩:=h
  exact⟨b,o,hR b hb,hv,hcc.mono rfl fun c v _=>Rep1.mono hR (fun _ _=>rfl) c v⟩
 case own j=>
  split at hc
  ·rename_i p hp
   cases hc
   obtain ⟨x,y,hx,hy,hs,hq⟩:=e p j (Ho hp)
   simp only[RepC,hx] at h
   simp only[RepC,hy,hq]
   cases x<;>cases y<;>simp only[Same] at hs<;>first|exact h|(dsimp only at h ⊢;rw[hs.2];exact h)|(dsimp only at h ⊢;rw[hs];exact h)
  ·rename_i hp
   split at hc
   ·rename_i t l hj
    cases hc
    rcases Lc hj h with ⟨hc0,hn,ad,rfl⟩|⟨hc0,rfl⟩
    ·have:l=[]:=List.eq_nil_of_length_eq_zero hn
     subst this
     exact⟨ad,0,rfl,Nat.le_refl _,by simp,fun h=>(h rfl).elim⟩
    ·refine⟨_,_,rfl,Ld ok hj,(ok.blocks j _ hj).2.1,fun _=>⟨_,0,rfl,hB rfl j _ _ hj (Real.has (x:= .lst t l) hc0) hp,fun i x hi=>?_⟩⟩
     rw[Nat.zero_add]
     exact(Lg ok hj hc0 i x hi).mono rfl fun c v _=>Rep1.mono hR (fun _ _=>rfl) c v
   ·rename_i l hj
    cases hc
    have h0:OwnVal (π j) l.length v:=by simpa only[RepC,hj] using h
    exact(show TreeAt w (π j) l from ok.blocks j _ hj).seq h0 fun b hb=>hB rfl j _ b hj hb hp
   ·cases hc
 case sub j off len=>
  split at hc
  ·rename_i p hp
   cases hc
   obtain ⟨x,y,hx,hy,hs,hq⟩:=e p j (Ho hp)
   simp only[RepC,hx] at h
   simp only[RepC,hy,hq]
   cases x<;>cases y<;>simp only[Same] at hs<;>first|exact h|(dsimp only at h ⊢;rw[hs.2,hs.1];exact h)
  ·rename_i hp
   split at hc
   ·rename_i t l hj
    cases hc
    obtain ⟨hle,ad,rfl,had⟩:=V6 hj h
    have hlen:((l.drop off).take len).length=len:=by simp;omega
    have hcap:=Ld ok hj
    refine⟨ad,(π j).cap-off,by rw[hlen],by rw[hlen];omega,by have:=(ok.blocks j _ hj).2.1;omega,fun hne=>?_⟩
    have hpos:0<len:=by rw[←hlen];exact List.length_pos_iff.2 hne
    refine⟨_,_,had (by omega),hB rfl j _ _ hj (Real.has (x:= .lst t l) (by show 0<(π j).cap;omega)) hp,fun i x hi=>?_⟩
    rw[List.getElem?_take] at hi
    split at hi
    ·rw[List.getElem?_drop] at hi
     have:=(Lg ok hj (by omega) _ x hi).mono (w':=w) rfl fun c v _=>Rep1.mono hR (fun _ _=>rfl) c v
     rwa [Nat.add_mul] at this
    ·cases hi
   ·cases hc
 case ptr j o=>
  simp only[Option.map_eq_some_iff] at hc
  obtain ⟨p,hp,rfl⟩:=hc
  exact e.ptr hp h
 case eptr j i c=>
  simp only[Option.map_eq_some_iff] at hc
  obtain ⟨p,hp,rfl⟩:=hc
  obtain ⟨x,y,hx,hy,hs,hq⟩:=e p j (Ho hp)
  simp only[RepC,hx] at h
  simp only[RepC,hy,hq]
  cases x<;>cases y<;>simp only[Same] at hs<;>first|exact h|(dsimp only at h ⊢;rw[hs.1];exact h)
 case fn f js=>
  simp only[Option.map_eq_some_iff] at hc
  obtain ⟨l,hl,rfl⟩:=hc
  obtain ⟨vs,hv,hj⟩:=h
  refine⟨vs,hv,?_⟩
  have: ∀ {js:List Nat} {l:List Nat} {vs:List Value},Ate idx js=some l→All2 (RepPtr H π 0) js vs→All2 (RepPtr L πL 0) l vs:=by
   intro js
   induction js with
   |nil=>intro l vs hl h;cases hl;cases h;exact .nil
   |cons j r ih=>
    intro l vs hl h
    unfold Ate at hl
    split at hl
    ·rename_i p l' hp hl'
     cases hl
     cases h with
     |cons h t=>exact .cons (e.ptr hp h) (ih hl' t)
    ·cases hl
  exact this hl hj
theorem Down.repL {idx:List Nat} (e:Down idx H π L πL) (ok:HOK H π R w) {bor:Bool} (hR: ∀b,R b→RL b) (hB:bor=true→∀j x b,H[j]? =some x→Has (π j) x b→F0 idx j=none→RL b): ∀ {cs cs':List C} {vs:List Value},
  trL bor H idx cs=some cs'→All2 (RepC H π w R) cs vs→All2 (RepC L πL w RL) cs' vs
 |[],cs',_,h,.nil=>by cases h;exact .nil
 |c::r,cs',_,h,.cons h1 h2=>by
  unfold trL at h
  split at h
  ·rename_i x l hx hl
   cases h
   exact .cons (e.repC ok hR hB hx h1) (Down.repL e ok hR hB hl h2)
  ·cases h
theorem Down.repV {idx:List Nat} (e:Down idx H π L πL) (ok:HOK H π R w) {bor:Bool} (hR: ∀b,R b→RL b) (hB:bor=true→∀j x b,H[j]? =some x→Has (π j) x b→F0 idx j=none→RL b) {c c':V} (hc:trV bor H idx c=some c') {v:Value} (h:N7 H π w R c v):
  N7 L πL w RL c' v:=by
 cases c with
 |c x=>
  simp only[trV,Option.map_eq_some_iff] at hc
  obtain ⟨x',hx,rfl⟩:=hc
  exact e.repC ok hR hB hx h
 |agg l=>
  simp only[trV,Option.map_eq_some_iff] at hc
  obtain ⟨l',hl,rfl⟩:=hc
  obtain ⟨vs,rfl,hv⟩:=h
  exact⟨vs,rfl,e.repL ok hR hB hl hv⟩
theorem Down.repVs {idx:List Nat} (e:Down idx H π L πL) (ok:HOK H π R w) {bor:Bool} (hR: ∀b,R b→RL b) (hB:bor=true→∀j x b,H[j]? =some x→Has (π j) x b→F0 idx j=none→RL b): ∀ {cs cs':List V} {vs:List Value},
  Ars bor H idx cs=some cs'→All2 (N7 H π w R) cs vs→All2 (N7 L πL w RL) cs' vs
 |[],cs',_,h,.nil=>by cases h;exact .nil
 |c::r,cs',_,h,.cons h1 h2=>by
  unfold Ars at h
  split at h
  ·rename_i x l hx hl
   cases h
   exact .cons (e.repV ok hR hB hx h1) (Down.repVs e ok hR hB hl h2)
  ·cases h
theorem Ai2 {bor:Bool} {idx:List Nat} : ∀ {cs cs':List C},trL bor H idx cs=some cs'→cs'.length=cs.length
 |[],cs',h=>by cases h;rfl
 |c::r,cs',h=>by
  unfold trL at h
  split at h
  ·rename_i x l hx hl
   cases h
   simp[Ai2 hl]
  ·cases h
theorem Gq {idx:List Nat} {x y:Blk} (h:trB H idx x=some y):Same y x:=by
 cases x<;>simp only[trB] at h
 ·cases h;trivial
 ·simp only[Option.map_eq_some_iff] at h
  obtain ⟨l,hl,rfl⟩:=h
  exact Ai2 hl
 ·cases h;exact⟨rfl,rfl⟩
 ·cases h;exact rfl
 ·cases h;exact rfl
 ·cases h
theorem Xb {idx:List Nat} : ∀ {js:List Nat} {L:List Blk},App H idx js=some L→L.length=js.length∧∀(p j:Nat),js[p]? =some j→∃x y,H[j]? =some x∧L[p]? =some y∧trB H idx x=some y
 |[],L,h=>by cases h;exact⟨rfl,fun p j hp=>by simp at hp⟩
 |j::r,L,h=>by
  unfold App at h
  split at h
  ·rename_i x hx
   split at h
   ·rename_i y l hy hl
    cases h
    obtain ⟨h1,h2⟩:=Xb hl
    refine⟨by simp[h1],fun p k hp=>?_⟩
    cases p with
    |zero=>simp at hp;subst hp;exact⟨x,y,hx,rfl,hy⟩
    |succ p=>exact h2 p k (by simpa using hp)
   ·cases h
  ·cases h
end
def Lh (idx:List Nat) (N:Nat) (p:Nat):Nat:=match idx[p]? with
 |some j=>j
 |none=>N+(p-idx.length)
def Nb (H:List Blk):List Nat→List Blk→List Blk
 |j::js,b::bs=>Nb (H.set j b) js bs
 |_,_=>H
def Rk (H:List Blk) (idx:List Nat) (L':List Blk):List Blk:=
 Nb H idx ((L'.take idx.length).map (Apo (Lh idx H.length)))++(L'.drop idx.length).map (Apo (Lh idx H.length))
def Kp:List Nat→Bool
 |[]=>true
 |j::r=>(F0 r j).isNone&&Kp r
section
variable {H L L':List Blk} {π πL πL':Nat→Pl} {R RL RL':Nat→Prop} {w w':World}
theorem Jq: ∀(js:List Nat) (bs:List Blk) (H:List Blk),(Nb H js bs).length=H.length
 |[],_,_=>by simp[Nb]
 |j::js,[],_=>by simp[Nb]
 |j::js,b::bs,H=>by rw[Nb,Jq js bs];simp
theorem K7: ∀ {r:List Nat} {j:Nat},F0 r j=none→∀p:Nat,r[p]? ≠some j
 |[],j,_,p=>by simp
 |i::r,j,h,p=>by
  unfold F0 at h
  split at h
  ·cases h
  ·rename_i hb
   simp only[Option.map_eq_none_iff] at h
   cases p with
   |zero=>intro e;simp at e;subst e;simp at hb
   |succ p=>simpa using K7 h p
theorem Ma: ∀(js:List Nat) (bs:List Blk) (H:List Blk) (i:Nat),(∀p:Nat,js[p]? ≠some i)→(Nb H js bs)[i]? =H[i]?
 |[],_,_,_,_=>by simp[Nb]
 |j::js,[],_,_,_=>by simp[Nb]
 |j::js,b::bs,H,i,h=>by
  rw[Nb,Ma js bs _ i (fun p=>by simpa using h (p+1))]
  exact List.getElem?_set_ne (fun e=>h 0 (by simp[e]))
theorem Acu: ∀(js:List Nat) (bs:List Blk) (H:List Blk) (p j:Nat) (b:Blk),Kp js=true→js[p]? =some j→bs[p]? =some b→j<H.length→(Nb H js bs)[j]? =some b
 |[],_,_,p,j,_,_,h,_,_=>by simp at h
 |i::js,[],_,p,j,_,_,_,h,_=>by simp at h
 |i::js,c::bs,H,0,j,b,hn,hj,hb,hl=>by
  simp at hj hb;subst hj;subst hb
  simp only[Kp,Bool.and_eq_true,Option.isNone_iff_eq_none] at hn
  rw[Nb,Ma js bs _ i (K7 hn.1)]
  exact List.getElem?_set_self hl
 |i::js,c::bs,H,p+1,j,b,hn,hj,hb,hl=>by
  simp only[Kp,Bool.and_eq_true] at hn
  rw[Nb]
  exact Acu js bs _ p j b hn.2 (by simpa using hj) (by simpa using hb) (by simpa using hl)
theorem Ua: ∀ {js:List Nat} {p q j:Nat},Kp js=true→js[p]? =some j→js[q]? =some j→p=q
 |[],p,_,_,_,h,_=>by simp at h
 |i::js,0,0,_,_,_,_=>rfl
 |i::js,0,q+1,j,hn,hp,hq=>by
  simp only[Kp,Bool.and_eq_true,Option.isNone_iff_eq_none] at hn
  simp at hp hq;subst hp
  exact(K7 hn.1 q hq).elim
 |i::js,p+1,0,j,hn,hp,hq=>by
  simp only[Kp,Bool.and_eq_true,Option.isNone_iff_eq_none] at hn
  simp at hp hq;subst hq
  exact(K7 hn.1 p hp).elim
 |i::js,p+1,q+1,j,hn,hp,hq=>by
  simp only[Kp,Bool.and_eq_true] at hn
  have h:p=q:=Ua (js:=js) (j:=j) hn.2 (by simpa using hp) (by simpa using hq)
  rw[h]
theorem J6 (ρ:Nat→Nat) (x:Blk):Same x (Apo ρ x):=by cases x<;>simp[Same,Apo]
theorem Same.symm {x y:Blk} (h:Same x y):Same y x:=by cases x<;>cases y<;>simp_all[Same]
theorem Same.trans {x y z:Blk} (h:Same x y) (g:Same y z):Same x z:=by cases x<;>cases y<;>cases z<;>simp_all[Same]
theorem Same.like {x y z:Blk} (h:Same x y) (g:Like y z):Like x z:=by cases x<;>cases y<;>cases z<;>simp_all[Same,Like]
theorem Like.same {x y z:Blk} (h:Like x y) (g:Same y z):Like x z:=by cases x<;>cases y<;>cases z<;>simp_all[Same,Like]
theorem Am9 {idx:List Nat} (hn:Kp idx=true) {p j:Nat} (h:idx[p]? =some j):F0 idx j=some p:=by
 cases hq:F0 idx j with
 |none=>exact(K7 hq p h).elim
 |some q=>rw[Ua hn (Ho hq) h]
theorem Ai3 {idx:List Nat} {bor:Bool} (ok:HOK H π R w) (hn:Kp idx=true) (hL:App H idx idx=some L) (hπ:πL=fun p=>π (idx.getD p 0))
  (ok':HOK L' πL' RL' w') (g:Goes L πL RL w L' πL' RL' w') (hRL:if bor then True else RL=R) (hnb:bor=true→L'.all Afo=true):
  ∃π' R',HOK (Rk H idx L') π' R' w'∧Goes H π R w (Rk H idx L') π' R' w'∧Emb L' πL' (Rk H idx L') π' (Lh idx H.length)∧(bor=false→∀b,RL' b→R' b)∧
   Only idx H π w w':=by
 obtain ⟨hlen,hget⟩:=Xb hL
 have hLp: ∀ {p:Nat} {y:Blk},L[p]? =some y→∃j x,idx[p]? =some j∧H[j]? =some x∧Same y x∧πL p=π j:=by
  intro p y hp
  have hlt:p<idx.length:=by rw[←hlen];exact Aw hp
  obtain ⟨x,y',hx,hy',hs⟩:=hget p _ (List.getElem?_eq_getElem hlt)
  rw[hp] at hy';cases hy'
  exact⟨_,x,List.getElem?_eq_getElem hlt,hx,Gq hs,by rw[hπ];simp[List.getD,List.getElem?_eq_getElem hlt]⟩
 have hidx: ∀ {p j:Nat},idx[p]? =some j→∃x y,H[j]? =some x∧L[p]? =some y∧Same y x∧πL p=π j:=by
  intro p j hp
  obtain ⟨x,y,hx,hy,hs⟩:=hget p j hp
  exact⟨x,y,hx,hy,Gq hs,by rw[hπ];simp[List.getD,hp]⟩
 have ownL: ∀ {b},Ey L πL b→∃(p j:Nat) (x:Blk),idx[p]? =some j∧H[j]? =some x∧Has (π j) x b:=by
  rintro b ⟨p,y,hp,hr⟩
  obtain ⟨j,x,hj,hx,hs,hq⟩:=hLp hp
  rw[hq] at hr
  exact⟨p,j,x,hj,hx,hs.has.1 hr⟩
 have ownLH: ∀ {b},Ey L πL b→Ey H π b:=fun h=>by
  obtain ⟨p,j,x,_,hx,hr⟩:=ownL h
  exact⟨j,x,hx,hr⟩
 have hle:idx.length≤L'.length:=by
  rw[←hlen]
  rcases Nat.eq_zero_or_pos L.length with h0|h0
  ·omega
  ·obtain ⟨y,hy,_⟩:=g.like (L.length-1) _ (List.getElem?_eq_getElem (by omega))
   have:=Aw hy
   omega
 have hN:(Rk H idx L').length=H.length+(L'.length-idx.length):=by
  unfold Rk
  rw[List.length_append,Jq]
  simp
 have gin: ∀ {p j:Nat} {y:Blk},idx[p]? =some j→L'[p]? =some y→(Rk H idx L')[j]? =some (Apo (Lh idx H.length) y):=by
  intro p j y hp hy
  obtain ⟨x,_,hx,_⟩:=hidx hp
  have hj:=Aw hx
  unfold Rk
  rw[List.getElem?_append_left (by rw[Jq];exact hj)]
  exact Acu _ _ _ p j _ hn hp (by rw[List.getElem?_map,List.getElem?_take,if_pos (Aw hp),hy];rfl) hj
 have gout: ∀ {j:Nat},(∀p:Nat,idx[p]? ≠some j)→j<H.length→(Rk H idx L')[j]? =H[j]? :=by
  intro j h hj
  unfold Rk
  rw[List.getElem?_append_left (by rw[Jq];exact hj)]
  exact Ma _ _ _ _ h
 have gnew: ∀ {p:Nat} {y:Blk},idx.length≤p→L'[p]? =some y→(Rk H idx L')[H.length+(p-idx.length)]? =some (Apo (Lh idx H.length) y):=by
  intro p y hp hy
  unfold Rk
  rw[List.getElem?_append_right (by rw[Jq];omega),Jq,show H.length+(p-idx.length)-H.length=p-idx.length by omega,List.getElem?_map,List.getElem?_drop,
   show idx.length+(p-idx.length)=p by omega,hy]
  rfl
 -- every block of the new memory is an old one that stands, or one of the callee's
 have cases_: ∀ {j:Nat} {z:Blk},(Rk H idx L')[j]? =some z→(j<H.length∧(∀p:Nat,idx[p]? ≠some j)∧H[j]? =some z)∨
   (∃p y,L'[p]? =some y∧z=Apo (Lh idx H.length) y∧j=Lh idx H.length p):=by
  intro j z hz
  have hj:=Aw hz
  by_cases h1:j<H.length
  ·by_cases h2: ∃p:Nat,idx[p]? =some j
   ·obtain ⟨p,hp⟩:=h2
    have hpl:p<L'.length:=by have:=Aw hp;omega
    rw[gin hp (List.getElem?_eq_getElem hpl)] at hz
    cases hz
    exact .inr ⟨p,_,List.getElem?_eq_getElem hpl,rfl,by simp[Lh,hp]⟩
   ·have h2': ∀p:Nat,idx[p]? ≠some j:=fun p hp=>h2 ⟨p,hp⟩
    rw[gout h2' h1] at hz
    exact .inl ⟨h1,h2',hz⟩
  ·rw[hN] at hj
   have hpl:idx.length+(j-H.length)<L'.length:=by omega
   have:=gnew (by omega) (List.getElem?_eq_getElem hpl)
   rw[show H.length+(idx.length+(j-H.length)-idx.length)=j by omega,hz] at this
   cases this
   refine .inr ⟨_,_,List.getElem?_eq_getElem hpl,rfl,?_⟩
   simp only[Lh]
   rw[List.getElem?_eq_none (by omega)]
   dsimp only
   omega
 let π':Nat→Pl:=fun j=>match F0 idx j with
  |some p=>πL' p
  |none=>if j<H.length then π j else πL' (idx.length+(j-H.length))
 have hπ'in: ∀ {p j:Nat},idx[p]? =some j→π' j=πL' p:=by
  intro p j hp
  have hpo:=Am9 hn hp
  show (match F0 idx j with|some q=>πL' q|none=>_)=_
  rw[hpo]
 have hπ'new: ∀ {p:Nat},p<L'.length→π' (Lh idx H.length p)=πL' p:=by
  intro p hp
  unfold Lh
  split
  ·rename_i j hj;exact hπ'in hj
  ·rename_i hj
   have:idx.length≤p:=by rcases Nat.lt_or_ge p idx.length with h|h;rw[List.getElem?_eq_getElem h] at hj;cases hj;exact h
   have hno:F0 idx (H.length+(p-idx.length))=none:=by
    cases hq:F0 idx (H.length+(p-idx.length)) with
    |none=>rfl
    |some q=>obtain ⟨x,_,hx,_⟩:=hidx (Ho hq);have:=Aw hx;omega
   show (match F0 idx _ with|some q=>πL' q|none=>if _<H.length then _ else _)=_
   rw[hno]
   dsimp only
   rw[if_neg (by omega)]
   congr 1
   omega
 have emb:Emb L' πL' (Rk H idx L') π' (Lh idx H.length):=by
  intro p y hp
  refine⟨_,?_,J6 (Lh idx H.length) y,hπ'new (Aw hp)⟩
  unfold Lh
  split
  ·rename_i j hj;exact gin hj hp
  ·rename_i hj
   have:idx.length≤p:=by rcases Nat.lt_or_ge p idx.length with h|h;rw[List.getElem?_eq_getElem h] at hj;cases hj;exact h
   exact gnew this hp
 -- an old block that stands is none of the callee's
 have apart: ∀ {j:Nat} {x:Blk} {b:Nat},(∀p:Nat,idx[p]? ≠some j)→H[j]? =some x→Has (π j) x b→¬Ey L πL b:=by
  intro j x b hj hx hr ho
  obtain ⟨p,i,z,hi,hz,hrz⟩:=ownL ho
  exact hj p (by rw[hi,ok.inj i j z x b hz hx hrz hr])
 have apart': ∀ {j:Nat} {x:Blk} {b:Nat},(∀p:Nat,idx[p]? ≠some j)→H[j]? =some x→Has (π j) x b→¬Ey L' πL' b:=by
  intro j x b hj hx hr ho
  rcases g.owned _ ho with h|h
  ·exact apart hj hx hr h
  ·have:=ok.lt j x b hx hr;omega
 have π'old: ∀ {j:Nat},j<H.length→(∀p:Nat,idx[p]? ≠some j)→π' j=π j:=fun {j} hj hne=>by
  have hno:F0 idx j=none:=by
   cases hq:F0 idx j with
   |none=>rfl
   |some q=>exact(hne q (Ho hq)).elim
  show (match F0 idx j with|some q=>πL' q|none=>if j<H.length then _ else _)=_
  rw[hno]
  exact if_pos hj
 have place': ∀ {j:Nat},j<H.length→Pl.At (π' j) (π j):=fun {j} hj=>by
  by_cases h2: ∃p:Nat,idx[p]? =some j
  ·obtain ⟨p,hp⟩:=h2
   obtain ⟨x,y,hx,hy,hs,hq⟩:=hidx hp
   rw[hπ'in hp,←hq]
   exact g.place p (Aw hy)
  ·rw[π'old hj fun p hp=>h2 ⟨p,hp⟩];exact Pl.At.refl _
 have owned': ∀b,Ey (Rk H idx L') π' b→(∃j x,(∀p:Nat,idx[p]? ≠some j)∧H[j]? =some x∧Has (π j) x b)∨Ey L' πL' b:=by
  rintro b ⟨j,z,hz,hr⟩
  rcases cases_ hz with ⟨hj,hne,hx⟩|⟨p,y,hy,rfl,rfl⟩
  ·rw[π'old hj hne] at hr
   exact .inl ⟨j,z,hne,hx,hr⟩
  ·rw[hπ'new (Aw hy)] at hr
   exact .inr ⟨p,y,hy,(J6 _ y).has.2 hr⟩
 let R':Nat→Prop:=if bor then R else RL'
 have gH:Goes H π R w (Rk H idx L') π' R' w':=by
  refine⟨g.os,g.tape,g.output,g.size,fun b hb ho=>g.keep b hb (fun h=>ho (ownLH h)),fun b ho=>?_,fun j hj=>place' hj,fun j x hx=>?_,?_,?_⟩
  ·rcases owned' b ho with ⟨j,x,_,hx,hr⟩|h
   ·exact .inl ⟨j,x,hx,hr⟩
   ·exact(g.owned b h).imp ownLH id
  ·by_cases h2: ∃p:Nat,idx[p]? =some j
   ·obtain ⟨p,hp⟩:=h2
    obtain ⟨x',y,hx',hy,hs,_⟩:=hidx hp
    rw[hx] at hx';cases hx'
    obtain ⟨z,hz,hl⟩:=g.like p y hy
    exact⟨_,gin hp hz,(hs.symm.like hl).same (J6 _ z)⟩
   ·exact⟨x,by rw[gout (fun p hp=>h2 ⟨p,hp⟩) (Aw hx)];exact hx,Like.refl x⟩
  ·intro b hb
   show (if bor then R else RL') b
   cases bor with
   |true=>exact hb
   |false=>simp only[Bool.false_eq_true,if_false] at hRL ⊢;exact g.mono b (by rw[hRL];exact hb)
  ·intro b hb
   change (if bor then R else RL') b at hb
   cases bor with
   |true=>exact .inl hb
   |false=>
    simp only[Bool.false_eq_true,if_false] at hRL hb
    rcases g.back b hb with h|h|h
    ·left;rw[←hRL];exact h
    ·exact .inr (.inl (ownLH h))
    ·exact .inr (.inr h)
 refine⟨π',R',⟨?_,?_,?_,?_⟩,gH,emb,?_,?_⟩
 ·intro j z hz
  rcases cases_ hz with ⟨hj,hne,hx⟩|⟨p,y,hy,rfl,rfl⟩
  ·rw[π'old hj hne]
   exact gH.blk ok (fun b hr=>g.keep _ (ok.lt j z b hx hr) (apart hne hx hr)) (ok.blocks j z hx)
  ·rw[hπ'new (Aw hy)]
   refine emb.blk ?_ (ok'.blocks p y hy)
   cases bor with
   |true=>right;exact(List.all_eq_true.1 (hnb rfl)) y (List.mem_of_getElem? hy)
   |false=>left;intro b hb;exact hb
 ·intro i j x y b hi hj hx hy
  rcases cases_ hi with ⟨hil,hine,hix⟩|⟨p,u,hu,rfl,rfl⟩<;>rcases cases_ hj with ⟨hjl,hjne,hjx⟩|⟨q,v,hv,rfl,rfl⟩
  ·rw[π'old hil hine] at hx;rw[π'old hjl hjne] at hy
   exact ok.inj i j x y b hix hjx hx hy
  ·rw[π'old hil hine] at hx;rw[hπ'new (Aw hv)] at hy
   exact(apart' hine hix hx ⟨q,v,hv,(J6 _ v).has.2 hy⟩).elim
  ·rw[hπ'new (Aw hu)] at hx;rw[π'old hjl hjne] at hy
   exact(apart' hjne hjx hy ⟨p,u,hu,(J6 _ u).has.2 hx⟩).elim
  ·rw[hπ'new (Aw hu)] at hx;rw[hπ'new (Aw hv)] at hy
   rw[ok'.inj p q u v b hu hv ((J6 _ u).has.2 hx) ((J6 _ v).has.2 hy)]
 ·intro j z b hz hr
  rcases cases_ hz with ⟨hj,hne,hx⟩|⟨p,y,hy,rfl,rfl⟩
  ·rw[π'old hj hne] at hr
   exact Nat.lt_of_lt_of_le (ok.lt j z b hx hr) g.size
  ·rw[hπ'new (Aw hy)] at hr
   exact ok'.lt p y b hy ((J6 _ y).has.2 hr)
 ·intro b hb
  change (if bor then R else RL') b at hb
  cases bor with
  |true=>
   simp only[if_true] at hb
   refine⟨Nat.lt_of_lt_of_le (ok.R b hb).1 g.size,fun ho=>?_⟩
   rcases gH.owned b ho with h|h
   ·exact(ok.R b hb).2 h
   ·have:=(ok.R b hb).1;omega
  |false=>
   simp only[Bool.false_eq_true,if_false] at hb hRL
   refine⟨(ok'.R b hb).1,fun ho=>?_⟩
   rcases owned' b ho with ⟨j,x,hne,hx,hr⟩|h
   ·rcases g.back _ hb with h|h|h
    ·rw[hRL] at h
     exact(ok.R _ h).2 ⟨j,x,hx,hr⟩
    ·exact apart hne hx hr h
    ·have:=ok.lt j x b hx hr;omega
   ·exact(ok'.R b hb).2 h
 ·rintro rfl b hb
  exact hb
 ·intro b hb hne
  refine g.keep b hb fun ho=>?_
  obtain ⟨p,j,x,hj,hx,hr⟩:=ownL ho
  exact hne j (List.mem_of_getElem? hj) x hx hr
end
def Afp (P:Program) (f:FuncId):Prop:= ∀(args:Array Value) (w:World),(callFunc f args).run P w= .ok (.enter f args) w
def Fun (P:Program) (f:FuncId) (args:List V) (L:List Blk) (res:S) (L':List Blk):Prop:=Afp P f∧Contract P f args L res L'
structure X where
 ds:List Dir
 tm:List (Nat×S)
 hp:List Blk
 ob:List Prop
def Acv (n:Nat) (tm:List (Nat×S)) (dst:Option Tmp) (s:S):Option (List (Nat×S)):=match dst with
 |none=>some tm
 |some d=>match Nat.blt d n with
  |true=>some ((d,s)::tm)
  |false=>none
def evs (tm:List (Nat×S)):List Operand→Option (List V)
 |[]=>some []
 |o::r=>match ev tm o,evs tm r with
  |some (.v v),some l=>some (v::l)
  |_,_=>none
def Apq (idx:List Nat):C→Bool
 | .own j=>(F0 idx j).isNone
 | .sub j _ _=>(F0 idx j).isNone
 |_=>false
def Aqh (idx:List Nat):V→Bool
 | .c x=>Apq idx x
 | .agg l=>l.any (Apq idx)
def Ag1 (l l':List Prop):List Prop:=match l with
 |[]=>l'
 |p::r=>p::Ag1 r l'
def Aeb (P:Program) (H:List Blk) (tm:List (Nat×S)) (c:Call) (idx:List Nat) (res:S) (L':List Blk):Option (S×List Blk×Prop):=
 match c.callee with
 | .value f=>match ev tm f,evs tm c.args.toList with
  |some (.v (.c (.fn g js))),some vs=>
   match Ars ((vs++js.map fun j=>V.c (.ptr j 0)).any (Aqh idx)) H idx (vs++js.map fun j=>V.c (.ptr j 0)),App H idx idx with
   |some targs,some L=>
    match Kp idx&&(!((vs++js.map fun j=>V.c (.ptr j 0)).any (Aqh idx))||(Ai1 res&&L'.all Afo)) with
    |true=>some (At0 (Lh idx H.length) res,Rk H idx L',Fun P g targs L res L')
    |false=>none
   |_,_=>none
  |_,_=>none
 |_=>none
def Sw (tm:List (Nat×S)) (op:Op) (d:Option Dir):List Nat:=match op,d with
 | .call { callee:= .value _,.. },some (.call idx _ _)=>idx
 |op,_=>Jp tm op
def xdo (P:Program) (H:List Blk) (tm:List (Nat×S)) (op:Op) (d:Option Dir):Option (S×List Blk×List Prop×Bool):=
 match J5 P H tm op with
 |some (s,ob)=>some (s,H,ob,false)
 |none=>match Agw P H tm op with
  |some (s,ob)=>some (s,H,ob,false)
  |none=>match Qu P H tm op d with
   |some (some s,H',ob,u)=>some (s,H',ob,u)
   |some (none,H',ob,u)=>some (.junk,H',ob,u)
   |none=>match d with
    |some d=>match Ary P H tm op d with
     |some (s,ob)=>some (s,H,ob,true)
     |none=>match op,d with
      | .call c,.call idx res L'=>match Aeb P H tm c idx res L' with
       |some (s,H',p)=>some (s,H',[p],true)
       |none=>none
      |_,_=>none
    |none=>none
def Art (ds:List Dir) (u:Bool):List Dir:=match u with
 |true=>ds.tail
 |false=>ds
def Ww (P:Program) (n:Nat) (o:Oper) (x:X):Option X:=
 match xdo P x.hp x.tm o.op x.ds.head? with
 |some (s,H',ob,u)=>match Acv n x.tm o.dst s with
  |some tm'=>some ⟨Art x.ds u,tm',H',Ag1 ob x.ob⟩
  |none=>none
 |none=>none
def Zv (n:Nat) (o:Oper) (x:X):Option X:=match Acv n x.tm o.dst (.tup []) with
 |some tm'=>some { x with tm:=tm' }
 |none=>none
def xop (P:Program) (n:Nat) (ops:Array Oper) (o:Oper) (x:X):Option X:=
 match o.guard with
 |none=>Ww P n o x
 |some (j,wK)=>match (ops[j]?).bind (·.dst) with
  |some t=>match Nat.blt t n,Qz x.tm t with
   |true,some (.v (.c (.lit b)))=>match b,wK with
    |true,true=>Ww P n o x
    |false,false=>Ww P n o x
    |_,_=>Zv n o x
   |true,some (.tup _)=>Zv n o x
   |true,some (.v (.c (.bool b)))=>match x.ds with
    | .br true::ds=>match wK with
     |true=>Ww P n o ⟨ds,(t,V1 (.lit true))::x.tm,x.hp,(b=true)::x.ob⟩
     |false=>Zv n o ⟨ds,(t,V1 (.lit true))::x.tm,x.hp,(b=true)::x.ob⟩
    | .br false::ds=>match wK with
     |true=>Zv n o ⟨ds,(t,V1 (.lit false))::x.tm,x.hp,(b=false)::x.ob⟩
     |false=>Ww P n o ⟨ds,(t,V1 (.lit false))::x.tm,x.hp,(b=false)::x.ob⟩
    |_=>none
   |_,_=>none
  |none=>none
structure SR (n:Nat) (tm:List (Nat×S)) (H:List Blk) (π:Nat→Pl) (R:Nat→Prop) (a:Act) (w:World):Prop where
 ok:HOK H π R w
 frm:Frm tm H π w R a
 size:a.tmps.size=n
 defers:a.defers=[]
section
variable {H:List Blk} {π:Nat→Pl} {R:Nat→Prop} {w:World} {P:Program} {tm:List (Nat×S)} {a:Act} {n:Nat}
theorem Ft: ∀ {l l':List Prop},All (Ag1 l l')→All l∧All l'
 |[],_,h=>⟨trivial,h⟩
 |_::_,_,h=>⟨⟨h.1,(Ft h.2).1⟩,(Ft h.2).2⟩
theorem Ai4 (hf:Frm tm H π w R a): ∀ {l:List Operand} {vs:List V},evs tm l=some vs→All2 (N7 H π w R) vs (l.map a.eval)
 |[],vs,h=>by cases h;exact .nil
 |o::r,vs,h=>by
  unfold evs at h
  split at h
  ·rename_i v l h1 h2
   cases h
   exact .cons (A7 (s:= .v v) hf h1) (Ai4 hf h2)
  ·cases h
theorem Goes.frm {H':List Blk} {π':Nat→Pl} {R':Nat→Prop} {w':World} (g:Goes H π R w H' π' R' w') (ok:HOK H π R w) (hf:Frm tm H π w R a):Frm tm H' π' w' R' a:=fun t s h=>g.repS ok (hf t s h)
theorem Kk (hf:Frm tm H π w R a) (hsz:a.tmps.size=n) {dst:Option Tmp} {s:S} {tm':List (Nat×S)} (h:Acv n tm dst s=some tm') {v:Value} (hv:N8 H π w R s v):Frm tm' H π w R (a.put dst v)∧(a.put dst v).tmps.size=n∧(a.put dst v).defers=a.defers:=by
 unfold Acv at h
 split at h
 ·cases h;exact⟨hf,hsz,rfl⟩
 ·rename_i d
  split at h
  ·rename_i hlt
   cases h
   have hlt:d<n:=by simpa using hlt
   refine⟨fun t s' hl=>?_,by simp[Act.put,hsz],rfl⟩
   unfold Qz at hl
   split at hl
   ·rename_i hb
    cases hl
    have:d=t:=Nat.eq_of_beq_eq_true hb
    subst this
    have:(a.put (some d) v).tmps.getD d undef=v:=by
     simp[Act.put,Array.getD_eq_getD_getElem?,Array.getElem?_setIfInBounds,hsz,hlt]
    rw[this];exact hv
   ·rename_i hb
    have hne: ¬d=t:=fun e=>by subst e;simp at hb
    have:(a.put (some d) v).tmps.getD t undef=a.tmps.getD t undef:=by
     simp[Act.put,Array.getD_eq_getD_getElem?,Array.getElem?_setIfInBounds,hne]
    rw[this];exact hf t s' hl
  ·cases h
def Ana (P:Program) (n:Nat) (o:Oper) (a:Act) (π:Nat→Pl) (R:Nat→Prop) (w:World) (H:List Blk) (M:List Nat) (s:S) (H':List Blk):Prop:=
 ∀(K:Act→World→Prop) (Q:Exit→Act→World→Prop),(∀v w' π' R',HOK H' π' R' w'→Goes H π R w H' π' R' w'→Only M H π w w'→N8 H' π' w' R' s v→K (a.put o.dst v) w')→o.wp P a w K Q
theorem Acw {o:Oper} {M:List Nat} {s:S} {H':List Blk} {v:Value} {w':World} {π':Nat→Pl} {R':Nat→Prop} (hr:(execOp a.eval o).run P w= .ok (.value v) w') (ok:HOK H' π' R' w') (g:Goes H π R w H' π' R' w') (hm:Only M H π w w') (hv:N8 H' π' w' R' s v):Ana P n o a π R w H M s H':=fun K Q h=>by
 unfold Oper.wp
 rw[hr]
 exact h v w' π' R' ok g hm hv
theorem Aec (ok:HOK H π R w) (hf:Frm tm H π w R a) {o:Oper} {c:Call} (ho:o.op= .call c) {idx:List Nat} {res s:S} {L' H':List Blk} {p:Prop} (h:Aeb P H tm c idx res L'=some (s,H',p)) (hp:p):Ana P n o a π R w H idx s H':=by
 obtain ⟨callee,args,argTypes⟩:=c
 unfold Aeb at h
 dsimp only at h
 split at h
 ·rename_i f
  split at h
  ·rename_i g js vs hfn hvs
   generalize hbor:(vs++js.map fun j=>V.c (.ptr j 0)).any (Aqh idx)=bor at h
   split at h
   ·rename_i targs L htr hL
    split at h
    ·rename_i hchk
     cases h
     obtain ⟨hcall,hcon⟩:=hp
     simp only[Bool.and_eq_true,Bool.or_eq_true,Bool.not_eq_true'] at hchk
     obtain ⟨hnd,hns⟩:=hchk
     obtain ⟨cap,hfv,hcap⟩: ∃vs:List Value,a.eval f= .func (.func g) #[] vs.toArray∧All2 (RepPtr H π 0) js vs:=A7 (s:=V1 (.fn g js)) hf hfn
     have hargs:=Ai4 hf hvs
     have hcaps:All2 (N7 H π w R) (js.map fun j=>V.c (.ptr j 0)) cap:=by
      clear hL htr hbor hfv hcon hcall hns hfn
      induction hcap with
      |nil=>exact .nil
      |cons h _ ih=>exact .cons h ih
     have hall:=hargs.append hcaps
     have hrun:(execOp a.eval o).run P w= .ok (.enter g (args.toList.map a.eval++cap).toArray) w:=by
      have:(args.map a.eval++cap.toArray)=(args.toList.map a.eval++cap).toArray:=by apply Array.ext';simp
      have hc:=hcall (args.toList.map a.eval++cap).toArray w
      simp[execOp,ho,resolve,hfv,Deferred.ofValue,invoke,this,hc]
     obtain ⟨hlen,hget⟩:=Xb hL
     let πL:Nat→Pl:=fun p=>π (idx.getD p 0)
     have hπ: ∀ {p j:Nat},idx[p]? =some j→πL p=π j:=fun {p j} hp=>by show π (idx.getD p 0)=_;simp[List.getD,hp]
     have down:Down idx H π L πL:=fun p j hp=>by
      obtain ⟨x,y,hx,hy,ht⟩:=hget p j hp
      exact⟨x,y,hx,hy,Gq ht,hπ hp⟩
     have hLp: ∀ {p:Nat} {y:Blk},L[p]? =some y→∃(j:Nat) (x:Blk),idx[p]? =some j∧H[j]? =some x∧trB H idx x=some y:=by
      intro p y hp
      have hlt:p<idx.length:=by rw[←hlen];exact Aw hp
      obtain ⟨x,y',hx,hy',hs⟩:=hget p _ (List.getElem?_eq_getElem hlt)
      rw[hp] at hy';cases hy'
      exact⟨_,x,List.getElem?_eq_getElem hlt,hx,hs⟩
     have ownLH: ∀ {b},Ey L πL b→∃(p j:Nat) (x:Blk),idx[p]? =some j∧H[j]? =some x∧Has (π j) x b:=by
      rintro b ⟨p,y,hp,hr⟩
      obtain ⟨j,x,hj,hx,hs⟩:=hLp hp
      rw[hπ hj] at hr
      exact⟨p,j,x,hj,hx,(Gq hs).has.1 hr⟩
     let RL:Nat→Prop:=if bor then (fun b=>R b∨(Ey H π b∧¬Ey L πL b)) else R
     have hRRL: ∀b,R b→RL b:=fun b hb=>by
      show (if bor then _ else R) b
      cases bor<;>simp[hb]
     have hB:bor=true→∀j x b,H[j]? =some x→Has (π j) x b→F0 idx j=none→RL b:=by
      rintro rfl j x b hx hr hn
      refine .inr ⟨⟨j,x,hx,hr⟩,fun ho=>?_⟩
      obtain ⟨p,i,z,hi,hz,hrz⟩:=ownLH ho
      exact K7 hn p (by rw[hi,ok.inj i j z x b hz hx hrz hr])
     have okL:HOK L πL RL w:=by
      refine⟨fun p y hp=>?_,fun p q y z b hp hq hy hz=>?_,fun p y b hp hr=>?_,fun b hb=>?_⟩
      ·obtain ⟨j,x,hj,hx,ht⟩:=hLp hp
       rw[hπ hj]
       have hbx:=ok.blocks j x hx
       cases x with
       |dK=>cases ht;trivial
       |cells cs=>
        simp only[trB,Option.map_eq_some_iff] at ht
        obtain ⟨cs',hcs,rfl⟩:=ht
        obtain ⟨e,us,hbl,hl⟩:=hbx
        exact⟨e,us,hbl,down.repL ok hRRL (fun h=>by cases h) hcs hl⟩
       |lst t l=>
        cases ht
        obtain ⟨h1,h2,h3⟩:=hbx
        refine⟨h1,h2,fun hc=>?_⟩
        obtain ⟨e,us,fr,hbl,hth,hsz,hel⟩:=h3 hc
        exact⟨e,us,fr,hbl,hth,hsz,fun i x hi=>(hel i x hi).mono rfl fun c v _=>Rep1.mono hRRL (fun _ _=>rfl) c v⟩
       |tree l=>cases ht;exact hbx
       |ghost n=>cases ht;trivial
       |hole l i N=>cases ht
      ·obtain ⟨i,x,hi,hx,ht⟩:=hLp hp
       obtain ⟨j,u,hj,hu,ht'⟩:=hLp hq
       rw[hπ hi] at hy;rw[hπ hj] at hz
       have hij:=ok.inj i j x u b hx hu ((Gq ht).has.1 hy) ((Gq ht').has.1 hz)
       subst hij
       exact Ua hnd hi hj
      ·obtain ⟨j,x,hj,hx,ht⟩:=hLp hp
       rw[hπ hj] at hr
       exact ok.lt j x b hx ((Gq ht).has.1 hr)
      ·change (if bor then (fun b=>R b∨(Ey H π b∧¬Ey L πL b)) else R) b at hb
       have old:R b→b<w.heap.size∧¬Ey L πL b:=fun h=>⟨(ok.R b h).1,fun ho=>by
        obtain ⟨p,j,x,_,hx,hr⟩:=ownLH ho
        exact(ok.R b h).2 ⟨j,x,hx,hr⟩⟩
       cases bor with
       |true=>
        simp only[if_true] at hb
        rcases hb with hb|⟨⟨j,x,hx,hr⟩,hn⟩
        ·exact old hb
        ·exact⟨ok.lt j x b hx hr,hn⟩
       |false=>
        simp only[Bool.false_eq_true,if_false] at hb
        exact old hb
     have hvsL:=down.repVs ok (bor:=bor) hRRL hB htr hall
     intro K Q hK
     unfold Oper.wp
     rw[hrun]
     refine(hcon πL RL w _ okL hvsL).mono ?_
     rintro e w' ⟨v,πL',RL',rfl,ok',gL,hv⟩
     obtain ⟨π',R',okH,gH,emb,hRb,honly⟩:=Ai3 (bor:=bor) ok hnd hL rfl ok' gL (by cases bor<;>simp[RL]) (fun hb=>by
      rcases hns with h|h
      ·rw[hb] at h;cases h
      ·exact h.2)
     refine hK v w' π' R' okH gH honly (emb.repS ?_ hv)
     cases bor with
     |false=>exact .inl (hRb rfl)
     |true=>rcases hns with h|h;cases h;exact .inr h.1
    ·cases h
   ·cases h
  ·cases h
 ·cases h
theorem X5 (ok:HOK H π R w) (hf:Frm tm H π w R a) {o:Oper} {d:Option Dir} {so:Option S} {H':List Blk} {ob:List Prop} {k:Bool} (h:Qu P H tm o.op d=some (so,H',ob,k)) (hob:All ob):Does P H π R w a o (Jp tm o.op) so H':=by
 cases ho:o.op
 case store ty x y=>exact Agy ok hf ho (by rw[ho] at h;exact h) hob
 case call c=>exact Aea ok hf ho (by rw[ho] at h;exact h) hob
 case buildSlice|makeSlice|convert=>exact ho▸Ai0 ok hf h hob (by rw[ho];trivial)
 case alloc t=>
  rw[ho] at h
  unfold Qu at h
  dsimp only at h
  split at h
  ·rename_i i hi
   split at h
   ·rename_i z hz
    split at h
    ·rename_i v hv
     cases h
     have hzv:N7 H π w R v z:=U4 hv
     refine Does.any (Afm (e:=t) ok (F5 hzv) ?_)
     simp[execOp,ho,Instr.alloc,zeroValue,typeInfo,hi,hz,newVar,newRow]
    ·cases h
   ·cases h
  ·cases h
 case box e x=>
  rw[ho] at h
  unfold Qu at h
  dsimp only at h
  split at h
  ·rename_i v hv
   cases h
   refine Does.any (Afm (e:=e) ok (F5 (A7 (s:= .v v) hf hv)) ?_)
   simp[execOp,ho,Instr.box,newVar,newRow]
  ·cases h
 all_goals (rw[ho] at h;cases h)
theorem X6 (ok:HOK H π R w) (hf:Frm tm H π w R a) {o:Oper} {d:Option Dir} {s:S} {H':List Blk} {ob:List Prop} {u:Bool} (h:xdo P H tm o.op d=some (s,H',ob,u)) (hob:All ob):Ana P n o a π R w H (Sw tm o.op d) s H':=by
 have still: ∀ {M:List Nat},Rg P H π w R a o s→H'=H→Ana P n o a π R w H M s H':=by
  rintro M ⟨v,hv,hr⟩ rfl
  exact Acw (hv w Still.refl) ok (Goes.refl _ _ _ _) (fun _ _ _=>rfl) hr
 unfold xdo at h
 split at h
 ·rename_i s' ob' hp
  cases h
  exact still (Le ok hf hp hob).still rfl
 ·split at h
  ·rename_i hp
   cases h
   exact still (S9 ok hf hp hob) rfl
  ·split at h
   ·rename_i s' H1 ob' u' hp
    cases h
    obtain ⟨w',π',ok',g,hm,v,hr,hv⟩:=X5 ok hf hp hob
    refine Acw hr ok' g ?_ hv
    have:Sw tm o.op d=Jp tm o.op:=by
     unfold Sw
     split
     ·rename_i heq
      rw[heq] at hp
      unfold Qu at hp
      split at hp<;>first|(cases hp;done)|(rename_i he;cases he)
     ·rfl
    rw[this];exact hm
   ·rename_i H1 ob' u' hp
    cases h
    obtain ⟨w',π',ok',g,hm,hr⟩:=X5 ok hf hp hob
    intro K Q hK
    unfold Oper.wp
    rw[hr]
    have:Sw tm o.op d=Jp tm o.op:=by
     unfold Sw
     split
     ·rename_i heq
      rw[heq] at hp
      unfold Qu at hp
      split at hp<;>first|(cases hp;done)|(rename_i he;cases he)
     ·rfl
    rw[this] at hK
    exact hK undef w' π' R ok' g hm trivial
   ·split at h
    ·rename_i d'
     split at h
     ·rename_i s' ob' hp
      cases h
      exact still (U6 ok hf hp hob) rfl
     ·split at h
      ·rename_i c idx res L' ho _
       split at h
       ·rename_i s' H1 p hp
        cases h
        have hc:c=Call.mk c.callee c.args c.argTypes:=rfl
        have hval: ∃f,c.callee= .value f:=by
         unfold Aeb at hp
         split at hp
         ·rename_i f hcal;exact⟨f,hcal⟩
         ·cases hp
        obtain ⟨f,hf'⟩:=hval
        have:Sw tm o.op (some (.call idx res L'))=idx:=by
         rw[ho,hc,hf']
         rfl
        rw[this]
        exact Aec ok hf ho hp hob.1
       ·cases h
      ·cases h
    ·cases h
end
end Go.Proofs.YtphecbmdhbphgaaGreat.Ax
