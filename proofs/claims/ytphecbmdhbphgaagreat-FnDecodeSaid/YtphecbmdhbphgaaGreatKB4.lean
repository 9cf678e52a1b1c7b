/- The Ajf as a function: regions walked in a tree of orders. The Ajf as a function: code, functions, loops. Whether a slice is nil: a test that the lists do not tell. The models of the program's small functions, and lemmas that the printed walks name. Walks as conditions: a tree of directives, and what is to be shown of it. The step from a law's Ajf to its row: one lemma for every law whose call returns true in a world that has at most new blocks. From a law's row to its Ajf: the arguments that came in, read as native values. -/
import Derived.Test.YtphecbmdhbphgaaGreatKB3
import Derived.Laws.Bits64
import Derived.Test.YtphecbmdhbphgaaGreatProg
import Derived.Test.YtphecbmdhbphgaaGreatRows
import Derived.WalkKit
import Derived.ProofKit
import Derived.OpenShut
import Derived.Deep.Slices
set_option linter.unusedSimpArgs false
set_option linter.unusedVariables false
namespace Go.Proofs.YtphecbmdhbphgaaGreat.Ax
open Go.RowKit
def Aej (N k:Nat) (x:X):Option X:=match x.ds with
 | .at q::ds=>match Nat.beq q k with
  |true=>match pre N ds x.tm x.hp with
   |some (ds,tm,H)=>some ⟨ds,tm,H,x.ob⟩
   |none=>none
  |false=>some x
 |_=>some x
def Afx:Tr→Bool
 | .done=>true
 |_=>false
def S0 (P:Program) (n:Nat) (o:Oper) (x:X):Option X:=match o.guard with
 |none=>match xdo P x.hp x.tm o.op x.ds.head? with
  |some (s,H',ob,u)=>match Acv n x.tm o.dst s with
   |some tm'=>some (xas ⟨Art x.ds u,tm',H',Ag1 ob x.ob⟩)
   |none=>none
  |none=>none
 |_=>none
def Afy (P:Program) (n:Nat) (o:Oper) (x:X):Option X:=match o.guard with
 |none=>match J5 P x.hp x.tm o.op with
  |some (s,ob)=>match Acv n x.tm o.dst s with
   |some tm'=>some (xas ⟨x.ds,tm',x.hp,Ag1 ob x.ob⟩)
   |none=>none
  |none=>none
 |_=>none
def Kt (P:Program) (n:Nat) (ops:Array Oper) (M:Nat):Tr→X→Option X
 | .done,x=>Aej M 0 x
 | .first i t,x=>match ops[i]? with
  |some o=>match Afy P n o x with
   |some y=>Kt P n ops M t y
   |none=>none
  |none=>none
 | .one i t,x=>match ops[i]? with
  |some o=>match S0 P n o x with
   |some y=>Kt P n ops M t y
   |none=>none
  |none=>none
 | .two i t j u,x=>match ops[i]?,ops[j]? with
  |some o,some p=>match S0 P n o x with
   |some y=>match Kt P n ops M t y with
    |some x1=>match S0 P n p ⟨x1.ds,x.tm,x.hp,x1.ob⟩ with
     |some z=>match Kt P n ops M u z with
      |some x2=>some ⟨x2.ds,x1.tm,x1.hp,(x2.tm=x1.tm)::(x2.hp=x1.hp)::x2.ob⟩
      |none=>none
     |none=>none
    |none=>none
   |none=>none
  |_,_=>none
 | .three i t j u g v,x=>match ops[i]?,ops[j]?,ops[g]? with
  |some o,some p,some r=>match S0 P n o x with
   |some y=>match Kt P n ops M t y with
    |some x1=>match S0 P n p ⟨x1.ds,x.tm,x.hp,x1.ob⟩ with
     |some z=>match Kt P n ops M u z with
      |some x2=>match S0 P n r ⟨x2.ds,x.tm,x.hp,(x2.tm=x1.tm)::(x2.hp=x1.hp)::x2.ob⟩ with
       |some z3=>match Kt P n ops M v z3 with
        |some x3=>some ⟨x3.ds,x1.tm,x1.hp,(x3.tm=x1.tm)::(x3.hp=x1.hp)::x3.ob⟩
        |none=>none
       |none=>none
      |none=>none
     |none=>none
    |none=>none
   |none=>none
  |_,_,_=>none
def qT (P:Program) (n:Nat) (ops:Array Oper) (hq:List Blk) (N:Nat) (vol:List Nat) (k M:Nat):Tr→XQ→Option X
 | .done,q=>Aej M 0 q.x
 | .first i t,q=>match ops[i]? with
  |some o=>match qop P n ops hq N vol (J7 .any ops k i) (Nat.beq i k&&Afx t) o true q with
   |some q'=>qT P n ops hq N vol k M t (qas q')
   |none=>none
  |none=>none
 | .one i t,q=>match ops[i]? with
  |some o=>match qop P n ops hq N vol (J7 .any ops k i) (Nat.beq i k) o false q with
   |some q'=>match Nat.beq i k with
    |true=>Kt P n ops M t (qas q').x
    |false=>qT P n ops hq N vol k M t (qas q')
   |none=>none
  |none=>none
 | .two i t j u,q=>match ops[i]?,ops[j]? with
  |some o,some p=>match qop P n ops hq N vol (J7 .any ops k i) (Nat.beq i k) o false q with
   |some q'=>match (match Nat.beq i k with|true=>Kt P n ops M t (qas q').x|false=>qT P n ops hq N vol k M t (qas q')) with
    |some x1=>match qop P n ops hq N vol (J7 .any ops k j) (Nat.beq j k) p false ⟨⟨x1.ds,q.x.tm,q.x.hp,x1.ob⟩,q.tq⟩ with
     |some q2=>match (match Nat.beq j k with|true=>Kt P n ops M u (qas q2).x|false=>qT P n ops hq N vol k M u (qas q2)) with
      |some x2=>some ⟨x2.ds,x1.tm,x1.hp,(x2.tm=x1.tm)::(x2.hp=x1.hp)::x2.ob⟩
      |none=>none
     |none=>none
    |none=>none
   |none=>none
  |_,_=>none
 | .three i t j u g v,q=>match ops[i]?,ops[j]?,ops[g]? with
  |some o,some p,some r=>match qop P n ops hq N vol (J7 .any ops k i) (Nat.beq i k) o false q with
   |some q'=>match (match Nat.beq i k with|true=>Kt P n ops M t (qas q').x|false=>qT P n ops hq N vol k M t (qas q')) with
    |some x1=>match qop P n ops hq N vol (J7 .any ops k j) (Nat.beq j k) p false ⟨⟨x1.ds,q.x.tm,q.x.hp,x1.ob⟩,q.tq⟩ with
     |some q2=>match (match Nat.beq j k with|true=>Kt P n ops M u (qas q2).x|false=>qT P n ops hq N vol k M u (qas q2)) with
      |some x2=>match qop P n ops hq N vol (J7 .any ops k g) (Nat.beq g k) r false ⟨⟨x2.ds,q.x.tm,q.x.hp,(x2.tm=x1.tm)::(x2.hp=x1.hp)::x2.ob⟩,q.tq⟩ with
       |some q3=>match (match Nat.beq g k with|true=>Kt P n ops M v (qas q3).x|false=>qT P n ops hq N vol k M v (qas q3)) with
        |some x3=>some ⟨x3.ds,x1.tm,x1.hp,(x3.tm=x1.tm)::(x3.hp=x1.hp)::x3.ob⟩
        |none=>none
       |none=>none
      |none=>none
     |none=>none
    |none=>none
   |none=>none
  |_,_,_=>none
def Ajd (P:Program) (n N:Nat) (ops:Array Oper) (x:X):Option X:=match x.ds with
 | .tree t k vol::ds=>match Region.noSelect ops&&okT .any ops k t ops.size (Array.replicate ops.size false)&&P.follows .mixedOrders with
  |true=>qT P n ops (Dj x.hp vol) x.hp.length vol k N t ⟨{ x with ds:=ds },x.tm⟩
  |false=>none
 |_=>Anj P n ops x
section
variable {P:Program} {n N:Nat}
theorem Fu {k:Nat} {x y:X} (h:Aej N k x=some y):y.ob=x.ob∧∀ {π:Nat→Pl} {R:Nat→Prop} {a:Act} {w:World},SR n x.tm x.hp π R a w→∃π' R',SR n y.tm y.hp π' R' a w∧GoesN N x.hp π R w y.hp π' R' w:=by
 unfold Aej at h
 split at h
 ·split at h
  ·split at h
   ·rename_i hp
    cases h
    exact⟨rfl,fun sr=>Ar2 sr hp⟩
   ·cases h
  ·cases h;exact⟨rfl,fun sr=>⟨_,_,sr,GoesN.refl _ _ _ _ _⟩⟩
 ·cases h;exact⟨rfl,fun sr=>⟨_,_,sr,GoesN.refl _ _ _ _ _⟩⟩
theorem H3 {o:Oper} {x y:X} (h:S0 P n o x=some y) (hob:All y.ob):All x.ob:=by
 unfold S0 at h
 repeat' split at h
 all_goals first|(cases h;done)|(cases h;exact(Ft (Wd _ hob)).2)
theorem Aje {o:Oper} {x y:X} (h:Afy P n o x=some y) (hob:All y.ob):All x.ob:=by
 unfold Afy at h
 repeat' split at h
 all_goals first|(cases h;done)|(cases h;exact(Ft (Wd _ hob)).2)
theorem Cz {ops:Array Oper} {M:Nat} : ∀ {t:Tr} {x y:X},Kt P n ops M t x=some y→All y.ob→All x.ob
 | .done,x,y,h,hob=>by rw[←(Fu (n:=n) h).1];exact hob
 | .one i t,x,y,h,hob=>by
  unfold Kt at h
  split at h
  ·split at h
   ·rename_i hz;exact H3 hz (Cz h hob)
   ·cases h
  ·cases h
 | .first i t,x,y,h,hob=>by
  unfold Kt at h
  split at h
  ·split at h
   ·rename_i hz;exact Aje hz (Cz h hob)
   ·cases h
  ·cases h
 | .two i t j u,x,y,h,hob=>by
  unfold Kt at h
  split at h
  ·split at h
   ·rename_i hz
    split at h
    ·rename_i x1 h1
     split at h
     ·rename_i hz2
      split at h
      ·rename_i x2 h2
       cases h
       have h3:=H3 hz2 (Cz h2 hob.2.2)
       exact H3 hz (Cz h1 h3)
      ·cases h
     ·cases h
    ·cases h
   ·cases h
  ·cases h
 | .three i t j u g v,x,y,h,hob=>by
  unfold Kt at h
  split at h
  ·split at h
   ·rename_i hz
    split at h
    ·rename_i x1 h1
     split at h
     ·rename_i hz2
      split at h
      ·rename_i x2 h2
       split at h
       ·rename_i hz3
        split at h
        ·rename_i x3 h3
         cases h
         have h4:=H3 hz3 (Cz h3 hob.2.2)
         have h5:=H3 hz2 (Cz h2 h4.2.2)
         exact H3 hz (Cz h1 h5)
        ·cases h
       ·cases h
      ·cases h
     ·cases h
    ·cases h
   ·cases h
  ·cases h
theorem Hp {ops:Array Oper} {Q:Exit→Act→World→Prop} {S:World→Prop} {k i:Nat} {o:Oper} {K:Act→World→Prop} {x y:X} {π:Nat→Pl} {R:Nat→Prop} {a:Act} {w:World} (ho:ops[i]? =some o) (sr:SR n x.tm x.hp π R a w) (h:S0 P n o x=some y) (hob:All y.ob)
  (hK: ∀π' R' a' w',SR n y.tm y.hp π' R' a' w'→Goes x.hp π R w y.hp π' R' w'→K a' w'):Sz P ops Q S k true i K a w:=by
 unfold S0 at h
 split at h
 ·rename_i hg
  split at h
  ·rename_i s H' ob u hdo
   split at h
   ·rename_i tm' hp
    cases h
    refine⟨o,ho,?_⟩
    rw[if_pos (Jr hg)]
    refine X6 (n:=n) sr.ok sr.frm hdo (Ft (Wd _ hob)).1 _ _ fun v w' π' R' ok g hm hv=>?_
    obtain ⟨f1,f2,f3⟩:=Kk (g.frm sr.ok sr.frm) sr.size hp hv
    have sr1:SR n tm' H' π' R' (a.put o.dst v) w':=⟨ok,f1,f2,f3.trans sr.defers⟩
    obtain ⟨π1,R1,sr2,g2⟩:=Afs (x:=⟨Art x.ds u,tm',H',Ag1 ob x.ob⟩) sr1 hob
    exact⟨.inl rfl,hK π1 R1 _ _ sr2 (g.trans g2)⟩
   ·cases h
  ·cases h
 ·cases h
theorem Gb {ops:Array Oper} {Q:Exit→Act→World→Prop} {S:World→Prop} {k M:Nat} : ∀(t:Tr) {x y:X} {π:Nat→Pl} {R:Nat→Prop} {a:Act} {w:World},SR n x.tm x.hp π R a w→Kt P n ops M t x=some y→All y.ob→
  (∀π' R' a' w',SR n y.tm y.hp π' R' a' w'→GoesN M x.hp π R w y.hp π' R' w'→Q .normal a' w')→wpT P ops Q S k .any true t a w
 | .done,x,y,π,R,a,w,sr,h,hob,hK=>by
  obtain ⟨_,hsr⟩:=Fu (n:=n) (N:=M) h
  obtain ⟨π1,R1,sr1,g1⟩:=hsr sr
  exact hK π1 R1 a w sr1 g1
 | .one i t,x,y,π,R,a,w,sr,h,hob,hK=>by
  unfold Kt at h
  split at h
  ·rename_i o ho
   split at h
   ·rename_i z hz
    exact Hp ho sr hz (Cz h hob) fun π1 R1 a1 w1 sr1 g1=>Gb t sr1 h hob fun π' R' a' w' sr' g'=>hK π' R' a' w' sr' ((g1.toN M).trans g')
   ·cases h
  ·cases h
 | .two i t j u,x,y,π,R,a,w,sr,h,hob,hK=>by
  unfold Kt at h
  split at h
  ·rename_i o p ho hp
   split at h
   ·rename_i z hz
    split at h
    ·rename_i x1 h1
     split at h
     ·rename_i z2 hz2
      split at h
      ·rename_i x2 h2
       cases h
       obtain ⟨e1,e2,hob2⟩:=hob
       have hob1:All x1.ob:=by have:=H3 hz2 (Cz h2 hob2);exact this
       refine⟨Hp ho sr hz (Cz h1 hob1) fun π1 R1 a1 w1 sr1 g1=>Gb t sr1 h1 hob1 fun π' R' a' w' sr' g'=>hK π' R' a' w' sr' ((g1.toN M).trans g'),?_⟩
       refine Hp (x:=⟨x1.ds,x.tm,x.hp,x1.ob⟩) hp ⟨sr.ok,sr.frm,sr.size,sr.defers⟩ hz2 (Cz h2 hob2) fun π1 R1 a1 w1 sr1 g1=>Gb u sr1 h2 hob2 fun π' R' a' w' sr' g'=>?_
       rw[e1,e2] at sr'
       rw[e2] at g'
       exact hK π' R' a' w' sr' ((g1.toN M).trans g')
      ·cases h
     ·cases h
    ·cases h
   ·cases h
  ·cases h
 | .three i t j u g v,x,y,π,R,a,w,sr,h,hob,hK=>by
  unfold Kt at h
  split at h
  ·rename_i o p r ho hp hr
   split at h
   ·rename_i z hz
    split at h
    ·rename_i x1 h1
     split at h
     ·rename_i z2 hz2
      split at h
      ·rename_i x2 h2
       split at h
       ·rename_i z3 hz3
        split at h
        ·rename_i x3 h3
         cases h
         obtain ⟨e1,e2,hob3⟩:=hob
         have hobz:=H3 hz3 (Cz h3 hob3)
         obtain ⟨f1,f2,hob2⟩:=hobz
         have hob1:All x1.ob:=by have:=H3 hz2 (Cz h2 hob2);exact this
         refine⟨Hp ho sr hz (Cz h1 hob1) fun π1 R1 a1 w1 sr1 g1=>Gb t sr1 h1 hob1 fun π' R' a' w' sr' g'=>hK π' R' a' w' sr' ((g1.toN M).trans g'),?_,?_⟩
         ·refine Hp (x:=⟨x1.ds,x.tm,x.hp,x1.ob⟩) hp ⟨sr.ok,sr.frm,sr.size,sr.defers⟩ hz2 (Cz h2 hob2) fun π1 R1 a1 w1 sr1 g1=>Gb u sr1 h2 hob2 fun π' R' a' w' sr' g'=>?_
          rw[f1,f2] at sr'
          rw[f2] at g'
          exact hK π' R' a' w' sr' ((g1.toN M).trans g')
         ·refine Hp (x:=⟨x2.ds,x.tm,x.hp,(x2.tm=x1.tm)::(x2.hp=x1.hp)::x2.ob⟩) hr ⟨sr.ok,sr.frm,sr.size,sr.defers⟩ hz3 (Cz h3 hob3) fun π1 R1 a1 w1 sr1 g1=>Gb v sr1 h3 hob3 fun π' R' a' w' sr' g'=>?_
          rw[e1,e2] at sr'
          rw[e2] at g'
          exact hK π' R' a' w' sr' ((g1.toN M).trans g')
        ·cases h
       ·cases h
      ·cases h
     ·cases h
    ·cases h
   ·cases h
  ·cases h
 | .first i t,x,y,π,R,a,w,sr,h,hob,hK=>by
  unfold Kt at h
  split at h
  ·rename_i o ho
   split at h
   ·rename_i z hz
    have ho2:=Cz h hob
    unfold Afy at hz
    split at hz
    ·rename_i hg
     split at hz
     ·rename_i s ob hx
      split at hz
      ·rename_i tm' hp
       cases hz
       have ho1:=Ft (Wd _ ho2)
       obtain ⟨v,hv,hr⟩:=Le sr.ok sr.frm hx ho1.1
       obtain ⟨f1,f2,f3⟩:=Kk sr.frm sr.size hp hr
       have sr1:SR n tm' x.hp π R (a.put o.dst v) w:=⟨sr.ok,f1,f2,f3.trans sr.defers⟩
       obtain ⟨π1,R1,sr2,g2⟩:=Afs (x:=⟨x.ds,tm',x.hp,Ag1 ob x.ob⟩) sr1 ho2
       refine⟨o,ho,?_⟩
       rw[if_pos (Jr hg)]
       refine⟨v,fun w' _=>?_,?_⟩
       ·unfold Oper.quietAt
        rw[hv w']
        exact⟨rfl,rfl⟩
       ·exact Gb t sr2 h hob fun π' R' a' w' sr' g'=>hK π' R' a' w' sr' ((g2.toN M).trans g')
      ·cases hz
     ·cases hz
    ·cases hz
   ·cases h
  ·cases h
theorem Ac3 {b:Bool} {q:XQ} {f g:Option X} {y:X} (hf:f=some y→All q.x.ob) (hg:g=some y→All q.x.ob) (h:(match b with|true=>f|false=>g)=some y):All q.x.ob:=by
 cases b
 ·exact hg h
 ·exact hf h
theorem U8 {ops:Array Oper} {hq:List Blk} {vol:List Nat} {k M:Nat} : ∀ {t:Tr} {q:XQ} {y:X},qT P n ops hq N vol k M t q=some y→All y.ob→All q.x.ob
 | .done,q,y,h,hob=>by rw[←(Fu (n:=n) h).1];exact hob
 | .first i t,q,y,h,hob=>by
  unfold qT at h
  split at h
  ·split at h
   ·rename_i hz;exact Qp hz (Mb _ (U8 h hob))
   ·cases h
  ·cases h
 | .one i t,q,y,h,hob=>by
  unfold qT at h
  split at h
  ·split at h
   ·rename_i hz
    split at h
    ·exact Qp hz (Mb _ (Cz h hob))
    ·exact Qp hz (Mb _ (U8 h hob))
   ·cases h
  ·cases h
 | .two i t j u,q,y,h,hob=>by
  unfold qT at h
  split at h
  ·split at h
   ·rename_i hz
    split at h
    ·rename_i x1 h1
     split at h
     ·rename_i hz2
      split at h
      ·rename_i x2 h2
       cases h
       have c2:All x1.ob:=by have:=Qp hz2 (Mb _ (Ac3 (fun h=>Cz h hob.2.2) (fun h=>U8 h hob.2.2) h2));exact this
       exact Qp hz (Mb _ (Ac3 (fun h=>Cz h c2) (fun h=>U8 h c2) h1))
      ·cases h
     ·cases h
    ·cases h
   ·cases h
  ·cases h
 | .three i t j u g v,q,y,h,hob=>by
  unfold qT at h
  split at h
  ·split at h
   ·rename_i hz
    split at h
    ·rename_i x1 h1
     split at h
     ·rename_i hz2
      split at h
      ·rename_i x2 h2
       split at h
       ·rename_i hz3
        split at h
        ·rename_i x3 h3
         cases h
         have c3:=Qp hz3 (Mb _ (Ac3 (fun h=>Cz h hob.2.2) (fun h=>U8 h hob.2.2) h3))
         have c2:All x1.ob:=by have:=Qp hz2 (Mb _ (Ac3 (fun h=>Cz h c3.2.2) (fun h=>U8 h c3.2.2) h2));exact this
         exact Qp hz (Mb _ (Ac3 (fun h=>Cz h c2) (fun h=>U8 h c2) h1))
        ·cases h
       ·cases h
      ·cases h
     ·cases h
    ·cases h
   ·cases h
  ·cases h
section
variable {H0:List Blk} {π0:Nat→Pl} {R0:Nat→Prop} {W:World} {vol:List Nat} {ops:Array Oper} {Q:Exit→Act→World→Prop}
theorem Ann (ok0:HOK H0 π0 R0 W) {k M:Nat} : ∀(t:Tr) {q:XQ} {y:X} {π:Nat→Pl} {R:Nat→Prop} {a:Act} {w:World},SR n q.x.tm q.x.hp π R a w→Goes H0 π0 R0 W q.x.hp π R w→(Afx t=false→Mid n H0 π0 R0 W vol q π R a w)→
  qT P n ops (Dj H0 vol) H0.length vol k M t q=some y→All y.ob→(∀π' R' a' w',SR n y.tm y.hp π' R' a' w'→GoesN M H0 π0 R0 W y.hp π' R' w'→Q .normal a' w')→wpT P ops (NoPanic Q) (Still (Dj H0 vol) π0 R0 W) k .any false t a w:=by
 intro t
 have next0: ∀ {i:Nat} {b:Bool} {J:Act→World→Prop} {o:Oper} {q q':XQ} {π:Nat→Pl} {R:Nat→Prop} {a:Act} {w:World} {last:Bool} (hl:last=true→i=k) (ho:ops[i]? =some o) (mid:Mid n H0 π0 R0 W vol q π R a w)
   (hz:qop P n ops (Dj H0 vol) H0.length vol (J7 .any ops k i) last o b q=some q') (hobq:All (qas q').x.ob)
   (ih: ∀ {π:Nat→Pl} {R:Nat→Prop} {a:Act} {w:World},SR n (qas q').x.tm (qas q').x.hp π R a w→Goes H0 π0 R0 W (qas q').x.hp π R w→(last=false→Mid n H0 π0 R0 W vol (qas q') π R a w)→J a w),
   Abh P ops (NoPanic Q) (Still (Dj H0 vol) π0 R0 W) k .any b i J a w:=by
  intro i b J o q q' π R a w last hl ho mid hz hobq ih
  refine Ac1 ok0 hl ho mid hz (Mb _ hobq) fun π' R' a' w' aft=>?_
  obtain ⟨sr2,hh⟩:=Apu aft.sr hobq
  exact ih sr2 (hh▸aft.goes) (fun hd=>Apt (aft.mid hd) hobq)
 have heavy: ∀ {i:Nat} {t:Tr} {o:Oper} {q z:XQ} {y:X} {π:Nat→Pl} {R:Nat→Prop} {a:Act} {w:World} (ho:ops[i]? =some o) (mid:Mid n H0 π0 R0 W vol q π R a w)
   (hz:qop P n ops (Dj H0 vol) H0.length vol (J7 .any ops k i) (Nat.beq i k) o false q=some z)
   (h:(match Nat.beq i k with|true=>Kt P n ops M t (qas z).x|false=>qT P n ops (Dj H0 vol) H0.length vol k M t (qas z))=some y) (hob:All y.ob)
   (iht: ∀ {q:XQ} {π:Nat→Pl} {R:Nat→Prop} {a:Act} {w:World},SR n q.x.tm q.x.hp π R a w→Goes H0 π0 R0 W q.x.hp π R w→(Afx t=false→Mid n H0 π0 R0 W vol q π R a w)→qT P n ops (Dj H0 vol) H0.length vol k M t q=some y→wpT P ops (NoPanic Q) (Still (Dj H0 vol) π0 R0 W) k .any false t a w)
   (hK: ∀π' R' a' w',SR n y.tm y.hp π' R' a' w'→GoesN M H0 π0 R0 W y.hp π' R' w'→Q .normal a' w'),
   Sz P ops (NoPanic Q) (Still (Dj H0 vol) π0 R0 W) k false i (wpT P ops (NoPanic Q) (Still (Dj H0 vol) π0 R0 W) k .any (false||Nat.beq i k) t) a w:=by
  intro i t o q z y π R a w ho mid hz h hob iht hK
  refine Zy (md:= .any) ?_
  rw[Bool.false_or]
  cases hb:Nat.beq i k with
  |true=>
   rw[hb] at hz h
   exact next0 (b:=false) (fun _=>Nat.eq_of_beq_eq_true hb) ho mid hz (Cz h hob) fun sr g m=>Gb t sr h hob fun π' R' a' w' sr' g'=>hK π' R' a' w' sr' ((g.toN M).trans g')
  |false=>
   rw[hb] at hz h
   exact next0 (b:=false) (fun h=>by cases h) ho mid hz (U8 h hob) fun sr g m=>iht sr g (fun _=>m rfl) h
 induction t with
 |done=>
  intro q y π R a w sr g _ h hob hK
  obtain ⟨ho,hsr⟩:=Fu (n:=n) (N:=M) h
  obtain ⟨π1,R1,sr1,g1⟩:=hsr sr
  exact hK π1 R1 a w sr1 ((g.toN M).trans g1)
 |first i t iht=>
  intro q y π R a w sr g mid h hob hK
  unfold qT at h
  split at h
  ·rename_i o ho
   split at h
   ·rename_i z hz
    have hl:(Nat.beq i k&&Afx t)=true→i=k:=fun h=>by
     simp only[Bool.and_eq_true] at h
     exact Nat.eq_of_beq_eq_true h.1
    exact next0 (b:=true) hl ho (mid rfl) hz (U8 h hob) fun sr g m=>iht sr g (fun hd=>m (by rw[hd,Bool.and_false])) h hob hK
   ·cases h
  ·cases h
 |one i t iht=>
  intro q y π R a w sr g mid h hob hK
  unfold qT at h
  split at h
  ·rename_i o ho
   split at h
   ·rename_i z hz
    exact heavy ho (mid rfl) hz h hob (fun sr g m h=>iht sr g m h hob hK) hK
   ·cases h
  ·cases h
 |two i t j u iht ihu=>
  intro q y π R a w sr g mid h hob hK
  unfold qT at h
  split at h
  ·rename_i o p ho hp
   split at h
   ·rename_i z hz
    split at h
    ·rename_i x1 h1
     split at h
     ·rename_i z2 hz2
      split at h
      ·rename_i x2 h2
       cases h
       obtain ⟨e1,e2,hob2⟩:=hob
       have hob1:All x1.ob:=by have:=Qp hz2 (Mb _ (Ac3 (fun h=>Cz h hob2) (fun h=>U8 h hob2) h2));exact this
       have m:=mid rfl
       have hK2: ∀π' R' a' w',SR n x2.tm x2.hp π' R' a' w'→GoesN M H0 π0 R0 W x2.hp π' R' w'→Q .normal a' w':=fun π' R' a' w' sr' g'=>by
        rw[e1,e2] at sr'
        rw[e2] at g'
        exact hK π' R' a' w' sr' g'
       exact⟨heavy ho m hz h1 hob1 (fun sr g m h=>iht sr g m h hob1 hK) hK,
        heavy (q:=⟨⟨x1.ds,q.x.tm,q.x.hp,x1.ob⟩,q.tq⟩) hp ⟨m.sr,m.goes,m.fq,m.still,m.same⟩ hz2 h2 hob2 (fun sr g m h=>ihu sr g m h hob2 hK2) hK2⟩
      ·cases h
     ·cases h
    ·cases h
   ·cases h
  ·cases h
 |three i t j u g v iht ihu ihv=>
  intro q y π R a w sr gg mid h hob hK
  unfold qT at h
  split at h
  ·rename_i o p r ho hp hr
   split at h
   ·rename_i z hz
    split at h
    ·rename_i x1 h1
     split at h
     ·rename_i z2 hz2
      split at h
      ·rename_i x2 h2
       split at h
       ·rename_i z3 hz3
        split at h
        ·rename_i x3 h3
         cases h
         obtain ⟨e1,e2,hob3⟩:=hob
         have c3:=Qp hz3 (Mb _ (Ac3 (fun h=>Cz h hob3) (fun h=>U8 h hob3) h3))
         obtain ⟨f1,f2,hob2⟩:=c3
         have hob1:All x1.ob:=by have:=Qp hz2 (Mb _ (Ac3 (fun h=>Cz h hob2) (fun h=>U8 h hob2) h2));exact this
         have m:=mid rfl
         have hK2: ∀π' R' a' w',SR n x2.tm x2.hp π' R' a' w'→GoesN M H0 π0 R0 W x2.hp π' R' w'→Q .normal a' w':=fun π' R' a' w' sr' g'=>by
          rw[f1,f2] at sr'
          rw[f2] at g'
          exact hK π' R' a' w' sr' g'
         have hK3: ∀π' R' a' w',SR n x3.tm x3.hp π' R' a' w'→GoesN M H0 π0 R0 W x3.hp π' R' w'→Q .normal a' w':=fun π' R' a' w' sr' g'=>by
          rw[e1,e2] at sr'
          rw[e2] at g'
          exact hK π' R' a' w' sr' g'
         exact⟨heavy ho m hz h1 hob1 (fun sr g m h=>iht sr g m h hob1 hK) hK,
          heavy (q:=⟨⟨x1.ds,q.x.tm,q.x.hp,x1.ob⟩,q.tq⟩) hp ⟨m.sr,m.goes,m.fq,m.still,m.same⟩ hz2 h2 hob2 (fun sr g m h=>ihu sr g m h hob2 hK2) hK2,
          heavy (q:=⟨⟨x2.ds,q.x.tm,q.x.hp,(x2.tm=x1.tm)::(x2.hp=x1.hp)::x2.ob⟩,q.tq⟩) hr ⟨m.sr,m.goes,m.fq,m.still,m.same⟩ hz3 h3 hob3 (fun sr g m h=>ihv sr g m h hob3 hK3) hK3⟩
        ·cases h
       ·cases h
      ·cases h
     ·cases h
    ·cases h
   ·cases h
  ·cases h
end
theorem Ano {ops:Array Oper} {x y:X} (h:Ajd P n N ops x=some y) (hob:All y.ob):All x.ob:=by
 unfold Ajd at h
 split at h
 ·split at h
  ·exact U8 h hob
  ·cases h
 ·obtain ⟨ds,tm,H,ob⟩:=x
  unfold Anj at h
  split at h
  ·rename_i heq
   dsimp only at heq
   subst heq
   split at h
   ·split at h
    ·rename_i q hq
     cases h
     exact Ya hq hob
    ·cases h
   ·cases h
  ·cases h
theorem Aek {id:Nat} {ops:Array Oper} {x y:X} {π:Nat→Pl} {R:Nat→Prop} {a:Act} {w:World} (sr:SR n x.tm x.hp π R a w) (h:Ajd P n N ops x=some y) (hob:All y.ob):
  ∀(Q:Exit→Act→World→Prop),(∀a' w' π' R',SR n y.tm y.hp π' R' a' w'→GoesN N x.hp π R w y.hp π' R' w'→Q .normal a' w')→(Code.region id ops true).wp P Q a w:=by
 intro Q hK
 unfold Ajd at h
 split at h
 ·rename_i t k vol ds hds
  split at h
  ·rename_i hB
   simp only[Bool.and_eq_true] at hB
   obtain ⟨hB,hfol⟩:=hB
   have gr:Grows w w.drew:=(Grows.refl w).drew
   have ok0:HOK x.hp π R w.drew:=sr.ok.grows gr
   have g0:Goes x.hp π R w x.hp π R w.drew:=Goes.grows gr
   obtain ⟨okq,gq⟩:=Nc (vol:=vol) ok0
   have hf0:Frm x.tm x.hp π w.drew R a:=g0.frm sr.ok sr.frm
   have he:ops=ops.toList.toArray:=by simp
   rw[he]
   refine Zz (Still (Dj x.hp vol) π R w.drew) k t hfol (by rw[←he];simpa [Bool.and_eq_true] using hB) Still.refl ?_
   rw[←he]
   have sr0:SR n x.tm x.hp π R a w.drew:=⟨ok0,hf0,sr.size,sr.defers⟩
   exact Ann ok0 t (q:=⟨⟨ds,x.tm,x.hp,x.ob⟩,x.tm⟩) sr0 (Goes.refl _ _ _ _) (fun _=>⟨sr0,Goes.refl _ _ _ _,gq.frm ok0 hf0,Still.refl,fun _ _ _=>rfl⟩) h hob fun π' R' a' w' sr' g'=>hK a' w' π' R' sr' ((g0.toN N).trans g')
  ·cases h
 ·exact(Aei sr h hob).2 Q fun a' w' π' R' sr' g=>hK a' w' π' R' sr' (g.toN N)
end
def Yb:Ext→Exit
 | .nrm=> .normal
 | .ext id=> .exit id
 | .ret=> .ret
def Sm (P:Program) (n N:Nat) (c:Code) (tm:List (Nat×S)) (H:List Blk) (e:Ext) (tm':List (Nat×S)) (H':List Blk):Prop:=
 ∀(π:Nat→Pl) (R:Nat→Prop) (a:Act) (w:World),SR n tm H π R a w→
  c.wp P (fun e' a' w'=>e'=Yb e∧∃π' R',SR n tm' H' π' R' a' w'∧GoesN N H π R w H' π' R' w') a w
def Aem:Code→Option Nat
 | .region id _ _=>some id
 | .seq a _=>Aem a
 |_=>none
def Apv (a:Code) (ds:List Dir):Option (Ext×List (Nat×S)×List Blk×List Dir):=match ds with
 | .jump k e tm H::ds=>match Aem a with
  |some id=>match Nat.beq k id with
   |true=>some (e,tm,H,ds)
   |false=>none
  |none=>none
 |_=>none
def run (P:Program) (n N:Nat):Code→X→Option (Ext×X)
 | .skip,x=>some (.nrm,x)
 | .label _,x=>some (.nrm,x)
 | .exit id,x=>some (.ext id,x)
 | .ret,x=>some (.ret,x)
 | .seq a b,x=>match Apv a x.ds with
  |some (e,tm',H',ds)=>some (e,⟨ds,tm',H',Sm P n N (.seq a b) x.tm x.hp e tm' H'::x.ob⟩)
  |none=>match run P n N a x with
   |some (.nrm,y)=>run P n N b y
   |r=>r
 | .cond c a b,x=>match ev x.tm c with
  |some (.v (.c (.lit true)))=>run P n N a x
  |some (.v (.c (.lit false)))=>run P n N b x
  |some (.v (.c (.bool p)))=>match x.ds with
   | .br true::ds=>run P n N a ⟨ds,x.tm,x.hp,(p=true)::x.ob⟩
   | .br false::ds=>run P n N b ⟨ds,x.tm,x.hp,(p=false)::x.ob⟩
   |_=>none
  |_=>none
 | .block id body,x=>match run P n N body x with
  |some (.ext i,y)=>match Nat.beq i id with
   |true=>some (.nrm,y)
   |false=>some (.ext i,y)
  |r=>r
 | .loop body,x=>match Aej N 0 x with
  |some x=>match x.ds with
   | .loop e tm' H'::ds=>some (e,⟨ds,tm',H',Sm P n N (.loop body) x.tm x.hp e tm' H'::x.ob⟩)
   | .once::ds=>match run P n N body ⟨ds,x.tm,x.hp,x.ob⟩ with
    |some (.ext i,y)=>some (.ext i,y)
    |some (.ret,y)=>some (.ret,y)
    |_=>none
   |_=>none
  |none=>none
 | .region id ops draw,x=>match Aej N (id+1) x with
  |some x=>match draw with
   |true=>match Ajd P n N ops x with
    |some y=>some (.nrm,y)
    |none=>none
   |false=>match Anc P n ops ops.toList x with
    |some y=>some (.nrm,y)
    |none=>none
  |none=>none
 |_,_=>none
section
variable {P:Program} {n N:Nat}
theorem Afz: ∀(c:Code) {x y:X} {e:Ext},run P n N c x=some (e,y)→All y.ob→All x.ob:=by
 intro c
 induction c with
 |skip=>intro x y e h hob;cases h;exact hob
 |label l=>intro x y e h hob;cases h;exact hob
 |exit id=>intro x y e h hob;cases h;exact hob
 |ret=>intro x y e h hob;cases h;exact hob
 |seq a b iha ihb=>
  intro x y e h hob
  unfold run at h
  split at h
  ·cases h;exact hob.2
  split at h
  ·rename_i z hz
   exact iha hz (ihb h hob)
  ·rename_i r hr
   exact iha h hob
 |cond c a b iha ihb=>
  intro x y e h hob
  unfold run at h
  split at h
  ·exact iha h hob
  ·exact ihb h hob
  ·split at h
   ·exact(iha h hob).2
   ·exact(ihb h hob).2
   ·cases h
  ·cases h
 |block id body ih=>
  intro x y e h hob
  unfold run at h
  split at h
  ·rename_i i z hz
   split at h<;>(cases h;exact ih hz hob)
  ·exact ih h hob
 |loop body ih=>
  intro x y e h hob
  unfold run at h
  split at h
  ·rename_i x1 hx1
   obtain ⟨ho,_⟩:=Fu (n:=n) (N:=N) hx1
   rw[←ho]
   split at h
   ·cases h;exact hob.2
   ·rename_i ds' _
    split at h
    ·rename_i hz;cases h;exact ih (x:=⟨ds',x1.tm,x1.hp,x1.ob⟩) hz hob
    ·rename_i hz;cases h;exact ih (x:=⟨ds',x1.tm,x1.hp,x1.ob⟩) hz hob
    ·cases h
   ·cases h
  ·cases h
 |region id ops draw=>
  intro x y e h hob
  unfold run at h
  split at h
  ·rename_i x1 hx1
   obtain ⟨ho,_⟩:=Fu (n:=n) (N:=N) hx1
   rw[←ho]
   split at h
   ·split at h
    ·rename_i z hz
     cases h
     exact Ano hz hob
    ·cases h
   ·split at h
    ·rename_i z hz
     cases h
     exact Td hz hob
    ·cases h
  ·cases h
 |_=>intro x y e h;cases h
theorem Yc: ∀(c:Code) {x y:X} {e:Ext},run P n N c x=some (e,y)→All y.ob→Sm P n N c x.tm x.hp e y.tm y.hp:=by
 intro c
 induction c with
 |skip=>intro x y e h hob π R a w sr;cases h;exact wp_skip ⟨rfl,π,R,sr,GoesN.refl _ _ _ _ _⟩
 |label l=>intro x y e h hob π R a w sr;cases h;exact wp_label ⟨rfl,π,R,sr,GoesN.refl _ _ _ _ _⟩
 |exit id=>intro x y e h hob π R a w sr;cases h;exact wp_exit ⟨rfl,π,R,sr,GoesN.refl _ _ _ _ _⟩
 |ret=>intro x y e h hob π R a w sr;cases h;exact wp_ret ⟨rfl,π,R,sr,GoesN.refl _ _ _ _ _⟩
 |seq a b iha ihb=>
  intro x y e h hob π R act w sr
  unfold run at h
  split at h
  ·cases h;exact hob.1 π R act w sr
  split at h
  ·rename_i z hz
   refine wp_seq (Code.wp_mono ?_ (iha hz (Afz b h hob) π R act w sr))
   rintro e' a' w' ⟨rfl,π',R',sr',g⟩
   refine Code.wp_mono ?_ (ihb h hob π' R' a' w' sr')
   rintro e'' a'' w'' ⟨he,π'',R'',sr'',g'⟩
   exact⟨he,π'',R'',sr'',g.trans g'⟩
  ·rename_i r hr
   refine wp_seq (Code.wp_mono ?_ (iha h hob π R act w sr))
   rintro e' a' w' ⟨rfl,hh⟩
   cases e with
   |nrm=>exact(hr _ h).elim
   |ext i=>exact⟨rfl,hh⟩
   |ret=>exact⟨rfl,hh⟩
 |cond c a b iha ihb=>
  intro x y e h hob π R act w sr
  unfold run at h
  split at h
  ·rename_i hc
   have hv:act.eval c= .bool true:=A7 (s:=V1 (.lit true)) sr.frm hc
   exact wp_cond_true hv (iha h hob π R act w sr)
  ·rename_i hc
   have hv:act.eval c= .bool false:=A7 (s:=V1 (.lit false)) sr.frm hc
   exact wp_cond_false hv (ihb h hob π R act w sr)
  ·rename_i p hc
   have hv:act.eval c= .bool p:=A7 (s:=V1 (.bool p)) sr.frm hc
   split at h
   ·have:=(Afz a h hob).1
    rw[this] at hv
    exact wp_cond_true hv (iha h hob π R act w sr)
   ·have:=(Afz b h hob).1
    rw[this] at hv
    exact wp_cond_false hv (ihb h hob π R act w sr)
   ·cases h
  ·cases h
 |block id body ih=>
  intro x y e h hob π R act w sr
  unfold run at h
  split at h
  ·rename_i i z hz
   split at h
   ·rename_i hi
    cases h
    have hi:i=id:=Nat.eq_of_beq_eq_true hi
    subst hi
    refine wp_block (Code.wp_mono ?_ (ih hz hob π R act w sr))
    rintro e' a' w' ⟨rfl,hh⟩
    simp only[Yb,Exit.inBlock,if_true]
    exact⟨by first|rfl|trivial,hh⟩
   ·rename_i hi
    cases h
    have hi: ¬i=id:=fun e=>by subst e;simp at hi
    refine wp_block (Code.wp_mono ?_ (ih hz hob π R act w sr))
    rintro e' a' w' ⟨rfl,hh⟩
    simp only[Yb,Exit.inBlock,if_neg hi]
    exact⟨trivial,hh⟩
  ·rename_i r hr
   refine wp_block (Code.wp_mono ?_ (ih h hob π R act w sr))
   rintro e' a' w' ⟨rfl,hh⟩
   cases e with
   |nrm=>exact⟨rfl,hh⟩
   |ext i=>exact(hr i _ h).elim
   |ret=>exact⟨rfl,hh⟩
 |loop body ih=>
  intro x y e h hob π R act w sr
  unfold run at h
  split at h
  ·rename_i x1 hx1
   obtain ⟨ho,hsr⟩:=Fu (n:=n) (N:=N) hx1
   obtain ⟨π1,R1,sr1,g1⟩:=hsr sr
   split at h
   ·cases h
    refine Code.wp_mono ?_ (hob.1 π1 R1 act w sr1)
    rintro e' a' w' ⟨he,π',R',sr',g⟩
    exact⟨he,π',R',sr',g1.trans g⟩
   ·rename_i ds' _
    have once: ∀ {z:X},run P n N body ⟨ds',x1.tm,x1.hp,x1.ob⟩=some (e,z)→All z.ob→e≠ .nrm→y=z→(Code.loop body).wp P (fun e' a' w'=>e'=Yb e∧∃π' R',SR n y.tm y.hp π' R' a' w'∧GoesN N x.hp π R w y.hp π' R' w') act w:=by
     rintro z hz hob hne rfl
     refine wp_loop_once (Code.wp_mono ?_ (ih (x:=⟨ds',x1.tm,x1.hp,x1.ob⟩) hz hob π1 R1 act w sr1))
     rintro e' a' w' ⟨rfl,π',R',sr',g⟩
     cases e with
     |nrm=>exact(hne rfl).elim
     |ext i=>exact⟨rfl,π',R',sr',g1.trans g⟩
     |ret=>exact⟨rfl,π',R',sr',g1.trans g⟩
    split at h
    ·rename_i hz;cases h;exact once hz hob (by simp) rfl
    ·rename_i hz;cases h;exact once hz hob (by simp) rfl
    ·cases h
   ·cases h
  ·cases h
 |region id ops draw=>
  intro x y e h hob π R act w sr
  unfold run at h
  split at h
  ·rename_i x1 hx1
   obtain ⟨ho,hsr⟩:=Fu (n:=n) (N:=N) hx1
   obtain ⟨π1,R1,sr1,g1⟩:=hsr sr
   split at h
   ·split at h
    ·rename_i z hz
     cases h
     exact Aek sr1 hz hob _ fun a' w' π' R' sr' g=>⟨rfl,π',R',sr',g1.trans g⟩
    ·cases h
   ·split at h
    ·rename_i z hz
     cases h
     exact wp_region_list (Ag4 sr1 hz hob _ fun a' w' π' R' sr' g=>⟨rfl,π',R',sr',g1.trans (g.toN N)⟩)
    ·cases h
  ·cases h
 |_=>intro x y e h;cases h
/-! ### Loops -/
theorem Aen {c:Code} {Q:Exit→Act→World→Prop} (I:Nat→Act→World→Prop) (round: ∀m a w,I m a w→c.wp P (Exit.then (fun a' w'=> ∃m',m'<m∧I m' a' w') Q) a w) (m:Nat) (a:Act) (w:World) (h₀:I m a w):(Code.loop c).wp P Q a w:=by
 intro b k cs
 have key: ∀m a w,I m a w→∃e a' w',Q e a' w'∧Arrives P (lone (b.at a (.code c:: .inLoop c::k)) cs w) b k cs e a' w':=by
  intro m
  induction m using Nat.strongRecOn with
  |_ m ih=>
   intro a w hI
   obtain ⟨e,a₁,w₁,hq,harr⟩:=round m a w hI b (.inLoop c::k) cs
   cases e with
   |normal=>
    obtain ⟨m',hlt,hI₁⟩:=hq
    obtain ⟨e₂,a₂,w₂,hq₂,harr₂⟩:=ih m' hlt a₁ w₁ hI₁
    exact⟨e₂,a₂,w₂,hq₂,.of_steps (Steps.trans harr (.one step_inLoop)) harr₂⟩
   |exit id=>exact⟨_,a₁,w₁,hq,.pass (x:= .inLoop c) rfl (fun _ _=> .inl (by simp)) harr⟩
   |goto l=>exact⟨_,a₁,w₁,hq,.pass (x:= .inLoop c) rfl (fun _ _=> .inl (by simp)) harr⟩
   |ret=>exact⟨_,a₁,w₁,hq,.pass (x:= .inLoop c) rfl (fun _ _=> .inl (by simp)) harr⟩
   |panic ch=>exact⟨_,a₁,w₁,hq,.pass (x:= .inLoop c) rfl (fun _ _=> .inl (by simp)) harr⟩
   |outgrown=>exact⟨_,a₁,w₁,hq,.pass (x:= .inLoop c) rfl (fun _ _=> .inl (by simp)) harr⟩
 obtain ⟨e,a',w',hq,harr⟩:=key m a w h₀
 exact⟨e,a',w',hq,.of_steps (.one step_loop) harr⟩
theorem Sm.loop {c:Code} {ι:Type} (tm:ι→List (Nat×S)) (H:ι→List Blk) (inv:ι→Prop) (μ:ι→Nat) {e:Ext} {tm':List (Nat×S)} {H':List Blk} (he:e≠ .nrm)
  (round: ∀i,inv i→(∃j,inv j∧μ j<μ i∧Sm P n N c (tm i) (H i) .nrm (tm j) (H j))∨Sm P n N c (tm i) (H i) e tm' H') (i:ι) (hi:inv i):Sm P n N (.loop c) (tm i) (H i) e tm' H':=by
 intro π0 R0 a0 w0 sr0
 refine Aen (fun m a w=> ∃j π R,inv j∧μ j=m∧SR n (tm j) (H j) π R a w∧GoesN N (H i) π0 R0 w0 (H j) π R w) ?_ (μ i) a0 w0 ⟨i,π0,R0,hi,rfl,sr0,GoesN.refl _ _ _ _ _⟩
 rintro m a w ⟨j,π,R,hj,rfl,sr,g⟩
 rcases round j hj with ⟨k,hk,hlt,h⟩|h
 ·refine Code.wp_mono ?_ (h π R a w sr)
  rintro e' a' w' ⟨rfl,π',R',sr',g'⟩
  exact⟨μ k,hlt,k,π',R',hk,rfl,sr',g.trans g'⟩
 ·refine Code.wp_mono ?_ (h π R a w sr)
  rintro e' a' w' ⟨rfl,π',R',sr',g'⟩
  cases e with
  |nrm=>exact(he rfl).elim
  |ext q=>exact⟨rfl,π',R',sr',g.trans g'⟩
  |ret=>exact⟨rfl,π',R',sr',g.trans g'⟩
theorem Sm.leave {c:Code} {tm tm':List (Nat×S)} {H H':List Blk} {e:Ext} (he:e≠ .nrm) (h:Sm P n N c tm H e tm' H'):Sm P n N (.loop c) tm H e tm' H':=by
 intro π R a w sr
 refine wp_loop_once (Code.wp_mono ?_ (h π R a w sr))
 rintro e' a' w' ⟨rfl,hh⟩
 cases e with
 |nrm=>exact(he rfl).elim
 |ext i=>exact⟨rfl,hh⟩
 |ret=>exact⟨rfl,hh⟩
/-! ### Functions -/
def Ac4:Nat→List V→List (Nat×S)
 |_,[]=>[]
 |k,v::r=>(k,.v v)::Ac4 (k+1) r
def Arv (P:Program) (tm:List (Nat×S)) (H:List Blk):List ResultVar→Option (List V)
 |[]=>some []
 | .tmp t::r=>match Qz tm t,Arv P tm H r with
  |some (.v v),some l=>some (v::l)
  |_,_=>none
 | .cell t ty::r=>match Qz tm t,Arv P tm H r with
  |some (.v (.c (.ptr j o))),some l=>match H[j]? with
   |some (.cells cs)=>match Su P ty cs o with
    |some v=>some (v::l)
    |none=>none
   |_=>none
  |_,_=>none
def one (l:List V):S:=match l with
 |[v]=> .v v
 |l=> .tup l
def fin (P:Program) (rs:List ResultVar) (N:Nat) (σ:List Nat) (e:Ext) (x:X):Option (S×List Blk×List Prop):=match Aej N 0 x with
 |some x=>match Arv P x.tm x.hp rs with
  |some vs=>match Ars false x.hp σ vs,App x.hp σ σ with
   |some us,some L'=>match Kp σ&&Ro 0 N σ,e with
    |true,.ret=>some (one us,L',x.ob)
    |true,.nrm=>some (one us,L',x.ob)
    |_,_=>none
   |_,_=>none
  |none=>none
 |none=>none
def Ajf (P:Program) (fn:Func) (args:List V) (L:List Blk) (ds:List Dir) (σ:List Nat):Option (S×List Blk×List Prop):=match fn.body with
 |some c=>match Nat.ble args.length fn.ntmps with
  |true=>match run P fn.ntmps L.length c ⟨ds,Ac4 0 args,L,[]⟩ with
   |some (e,x)=>fin P fn.results.toList L.length σ e x
   |none=>none
  |false=>none
 |none=>none
theorem U9: ∀ {k:Nat} {l:List V} {t:Nat} {s:S},Qz (Ac4 k l) t=some s→∃v,s= .v v∧k≤t∧l[t-k]? =some v
 |k,[],t,s,h=>by cases h
 |k,v::r,t,s,h=>by
  unfold Ac4 Qz at h
  split at h
  ·rename_i hb
   cases h
   have:k=t:=Nat.eq_of_beq_eq_true hb
   subst this
   exact⟨v,rfl,Nat.le_refl _,by simp⟩
  ·obtain ⟨u,hu,hk,hl⟩:=U9 h
   refine⟨u,hu,by omega,?_⟩
   rw[show t-k=(t-(k+1))+1 by omega]
   simpa using hl
theorem Xe {tm:List (Nat×S)} {H:List Blk} {π:Nat→Pl} {R:Nat→Prop} {a:Act} {w:World} (sr:SR n tm H π R a w): ∀ {rs:List ResultVar} {vs:List V},Arv P tm H rs=some vs→
  ∃us:List Value,(rs.mapM (m:=Sem) fun
   | .tmp t=>pure (a.tmps.getD t undef)
   | .cell b t=>do loadVar t (←asAddr (a.tmps.getD b undef))).run P w= .ok us w∧All2 (N7 H π w R) vs us
 |[],vs,h=>by cases h;exact⟨[],rfl,.nil⟩
 | .tmp t::r,vs,h=>by
  unfold Arv at h
  split at h
  ·rename_i v l hl hr
   cases h
   obtain ⟨us,h1,h2⟩:=Xe sr hr
   refine⟨a.tmps.getD t undef::us,?_,.cons (sr.frm t _ hl) h2⟩
   rw[List.mapM_cons]
   simp only[Sem.run_bind,Sem.run_pure,Result.andThen_ok,h1]
  ·cases h
 | .cell t ty::r,vs,h=>by
  unfold Arv at h
  split at h
  ·rename_i j o l hl hr
   split at h
   ·rename_i cs hj
    split at h
    ·rename_i v hv
     cases h
     obtain ⟨us,h1,h2⟩:=Xe sr hr
     have hp:=Acn (w:=w) (R:=R) hj (sr.frm t _ hl)
     have:=Pd (H:=H) (π:=π) (R:=R) hv (cr:=RepC H π w R) (fun _ _ h=>h) (Acp sr.ok hj)
     rw[Nat.zero_add] at this
     obtain ⟨u,hu,hru⟩:=this
     have hu:=hu w rfl
     refine⟨u::us,?_,.cons hru h2⟩
     rw[List.mapM_cons]
     simp only[Instr.loadAt,Instr.sureAddr,Sem.run_bind,Sem.run_pure,Result.andThen_ok] at hu
     have ha: ∀(x:Addr),(asAddr (.pointer (some x))).run P w= .ok x w:=fun x=>rfl
     simp only[hp,Sem.run_bind,Sem.run_pure,Result.andThen_ok,ha,hu]
     rw[h1]
     rfl
    ·cases h
   ·cases h
  ·cases h
theorem Aae {f:FuncId} {fn:Func} (hf:P.funcs[f]? =some fn) {args:List V} {L L':List Blk} {ds:List Dir} {σ:List Nat} {res:S} {ob:List Prop} (h:Ajf P fn args L ds σ=some (res,L',ob)) (hob:All ob):Contract P f args L res L':=by
 intro π R w vs ok hargs
 unfold Ajf at h
 split at h
 ·rename_i c hc
  split at h
  ·rename_i hle
   have hle:=Nat.le_of_ble_eq_true hle
   split at h
   ·rename_i e x hrun
    unfold fin at h
    split at h
    ·rename_i x1 hx1
     obtain ⟨ho,hsr⟩:=Fu (n:=fn.ntmps) hx1
     split at h
     ·rename_i rv hrv
      split at h
      ·rename_i us L1 hus hL
       have main:(e= .ret∨e= .nrm)→Kp σ=true→Ro 0 L.length σ=true→res=one us→L'=L1→All x1.ob→Calls P f vs.toArray w fun e w'=> ∃v π' R',e= .returned v∧HOK L' π' R' w'∧Goes L π R w L' π' R' w'∧N8 L' π' w' R' res v:=by
        rintro he hnd hir rfl rfl hob
        have sr0:SR fn.ntmps (Ac4 0 args) L π R { tmps:=vs.toArray++Array.replicate (fn.ntmps-vs.toArray.size) undef,defers:=[] } w:=by
         refine⟨ok,fun t s ht=>?_,?_,rfl⟩
         ·obtain ⟨v,rfl,_,hv⟩:=U9 ht
          obtain ⟨u,hu,hr⟩:=hargs.get hv
          have hlt:=Aw hu
          have:(vs.toArray++Array.replicate (fn.ntmps-vs.toArray.size) undef).getD t undef=u:=by
           rw[Array.getD_eq_getD_getElem?,Array.getElem?_append_left (by simpa using hlt)]
           simp at hu
           simp[hu]
          rw[this];exact hr
         ·have:=hargs.length
          simp
          omega
        refine calls_of_wp hf hc (Code.wp_mono ?_ (Yc c hrun (by rw[←ho];exact hob) π R _ w sr0))
        rintro e' a' w' ⟨rfl,π1,R1,sr1,g1⟩
        obtain ⟨π2,R2,sr2,g2⟩:=hsr sr1
        have g:=g1.trans g2
        obtain ⟨ws,hws,hwr⟩:=Xe (P:=P) sr2 hrv
        have hmap:(fn.results.mapM (m:=Sem) fun
          | .tmp t=>pure (a'.tmps.getD t undef)
          | .cell b t=>do loadVar t (←asAddr (a'.tmps.getD b undef))).run P w'= .ok ws.toArray w':=by
         rw[Array.mapM_eq_mapM_toList,Sem.run_map,hws]
         rfl
        obtain ⟨πL,ok',gs,down⟩:=Ajc (N:=L.length) sr2.ok hnd hir hL
        have gN:=g.trans gs
        have gL:Goes L π R w L' πL R2 w':=⟨gN.os,gN.tape,gN.output,gN.size,gN.keep,gN.owned,fun p hp=>gN.place p hp hp,fun p y hp=>gN.like p y (Aw hp) hp,gN.mono,gN.back⟩
        have noB: ∀ {RL:Nat→Prop},false=true→∀j x b,x1.hp[j]? =some x→Has (π2 j) x b→F0 σ j=none→RL b:=fun h=>by cases h
        have hfin:=down.repVs sr2.ok (fun _ h=>h) noB hus hwr
        have hres:(results fn a'.tmps).run P w'= .ok (if h:ws.toArray.size=1 then ws.toArray[0] else .tuple ws.toArray) w':=by
         unfold results
         rw[Sem.run_bind]
         exact(congrArg (fun r=>Result.andThen r _) hmap).trans rfl
        have hrep:N8 L' πL w' R2 (one us) (if h:ws.toArray.size=1 then ws.toArray[0] else .tuple ws.toArray):=by
         have hl:=hfin.length
         cases hfin with
         |nil=>exact⟨[],by simp,.nil⟩
         |cons h1 h2=>
          cases h2 with
          |nil=>exact h1
          |cons h2 h3=>
           rw[dif_neg (by simp)]
           exact⟨_,rfl,.cons h1 (.cons h2 h3)⟩
        rcases he with rfl|rfl
        ·exact⟨sr2.defers,_,hres,_,πL,R2,rfl,ok',gL,hrep⟩
        ·exact⟨sr2.defers,_,hres,_,πL,R2,rfl,ok',gL,hrep⟩
       split at h
       ·rename_i hB
        simp only[Bool.and_eq_true] at hB
        cases h
        exact main (.inl rfl) hB.1 hB.2 rfl rfl hob
       ·rename_i hB
        simp only[Bool.and_eq_true] at hB
        cases h
        exact main (.inr rfl) hB.1 hB.2 rfl rfl hob
       ·cases h
      ·cases h
     ·cases h
    ·cases h
   ·cases h
  ·cases h
 ·cases h
theorem Pg {f : FuncId} {fn : Func} (hf : P.funcs[f]? = some fn) (hb : fn.body.isNone = false) (hn : (fn.name == "runtime.NumGoroutine") = false) : Afp P f := fun args w => by
 have h1 : ¬ fn.name = "runtime.NumGoroutine" := by simpa using hn
 have h2: ¬fn.body=none:=fun e=>by rw[e] at hb;cases hb
 simp[callFunc,N9,hf,h1,h2]
theorem Contract.to {f:FuncId} {args:List V} {L L1 L2:List Blk} {r1 r2:S} (h:Contract P f args L r1 L1) (e1:r1=r2) (e2:L1=L2):Contract P f args L r2 L2:=by subst e1;subst e2;exact h
theorem Sm.to {c:Code} {tm tm1 tm2:List (Nat×S)} {H H1 H2:List Blk} {e:Ext} (h:Sm P n N c tm H e tm1 H1) (e1:tm1=tm2) (e2:H1=H2):Sm P n N c tm H e tm2 H2:=by subst e1;subst e2;exact h
def Ar3 (P:Program) (n N:Nat) (c:Code) (tm:List (Nat×S)) (H:List Blk) (ds:List Dir):Option (Ext×List (Nat×S)×List Blk×List Prop):=match run P n N c ⟨ds,tm,H,[]⟩ with
 |some (e,x)=>match Aej N 0 x with
  |some x=>some (e,x.tm,x.hp,x.ob)
  |none=>none
 |none=>none
theorem Js {c:Code} {tm tm':List (Nat×S)} {H H':List Blk} {ds:List Dir} {e:Ext} {ob:List Prop} (h:Ar3 P n N c tm H ds=some (e,tm',H',ob)) (hob:All ob):Sm P n N c tm H e tm' H':=by
 unfold Ar3 at h
 split at h
 ·rename_i e1 x hr
  split at h
  ·rename_i x1 hx1
   cases h
   obtain ⟨ho,hsr⟩:=Fu (n:=n) (N:=N) hx1
   intro π R a w sr
   refine Code.wp_mono ?_ (Yc c hr (by rw[←ho];exact hob) π R a w sr)
   rintro e' a' w' ⟨he,π1,R1,sr1,g1⟩
   obtain ⟨π2,R2,sr2,g2⟩:=hsr sr1
   exact⟨he,π2,R2,sr2,g1.trans g2⟩
  ·cases h
 ·cases h
end
def sq1:Code→Code
 | .seq a _=>a
 |c=>c
def sq2:Code→Code
 | .seq _ b=>b
 |c=>c
def Ph (k:Nat):Code→Option Code
 | .seq a b=>match Aem a with
  |some id=>match Nat.beq id k with
   |true=>some (.seq a b)
   |false=>match Ph k a with
    |some c=>some c
    |none=>Ph k b
  |none=>match Ph k a with
   |some c=>some c
   |none=>Ph k b
 | .block _ c=>Ph k c
 | .loop c=>Ph k c
 | .cond _ a b=>match Ph k a with
  |some c=>some c
  |none=>Ph k b
 |_=>none
def Anp (fn:Func) (k:Nat):Code:=match fn.body with
 |some c=>(Ph k c).getD .skip
 |none=> .skip
section
variable {P:Program} {n N:Nat}
inductive Reach (P:Program) (n N:Nat) (c:Code) {ι:Type} (tm:ι→List (Nat×S)) (H:ι→List Blk) (μ:ι→Nat) (e:Ext) (tm':List (Nat×S)) (H':List Blk):ι→Prop where
 |stop {i:ι} (h:Sm P n N c (tm i) (H i) e tm' H'):Reach P n N c tm H μ e tm' H' i
 |step {i j:ι} (hlt:μ j<μ i) (h:Sm P n N c (tm i) (H i) .nrm (tm j) (H j)) (r:Reach P n N c tm H μ e tm' H' j):Reach P n N c tm H μ e tm' H' i
theorem Ajg {H:List Blk} {π:Nat→Pl} {w:World} {R:Nat→Prop} {t:T} {l:List t.ty} {v:Value} {ty e:TypeId} (hu:P.underlying ty=some (.slice e)) (hv:RepC H π w R (.seq t l) v):
  ∃p:Bool,(p=true→l=[])∧∀w',(Op.equal ty v (.slice none 0 0)).run P w'= .ok p w':=by
 obtain ⟨a,cap,rfl,_,_,hl⟩:=hv
 have h0: ∀x,Op.equal ty x (.slice none 0 0)=Op.equalIn (9999+1) ty x (.slice none 0 0):=fun _=>rfl
 cases a with
 |none=>
  refine⟨true,fun _=>Classical.byContradiction fun h=>?_,fun w'=>?_⟩
  ·obtain ⟨b,off,h,_⟩:=hl h;cases h
  ·rw[h0];unfold Op.equalIn;simp[Sem.run_bind,run_underlying hu]
 |some ad=>
  refine⟨false,fun h=>(by cases h),fun w'=>?_⟩
  rw[h0];unfold Op.equalIn;simp[Sem.run_bind,run_underlying hu]
def Two (P:Program) (n N:Nat) (c1 c2:Code) (tm:List (Nat×S)) (H:List Blk) (ex:Ext) (tm':List (Nat×S)) (H':List Blk):Prop:=
 (∃tm1 H1,Sm P n N c1 tm H .nrm tm1 H1∧Sm P n N c2 tm1 H1 ex tm' H')∨(ex≠ .nrm∧Sm P n N c1 tm H ex tm' H')
theorem Sm.nilTest {id:Nat} {o1 o2:Oper} {c1 c2:Code} {s t3 t4:Nat} {ty e yt:TypeId} {t:T} {l:List t.ty} {tm tm':List (Nat×S)} {H H':List Blk} {ex:Ext}
  (h1:o1.op= .move (.tmp s)) (g1:o1.guard=none) (d1:o1.dst=some t3)
  (h2:o2.op= .binOp .eql ty (.tmp t3) (.const (.slice none 0 0)) yt) (g2:o2.guard=none) (d2:o2.dst=some t4) (hu:P.underlying ty=some (.slice e)) (hq:P.eqGuardType P.depth ty=false)
  (hs:Qz tm s=some (V1 (.seq t l))) (ht3:Nat.blt t3 n=true) (ht4:Nat.blt t4 n=true)
  (hp: ∀p:Bool,(p=true→l=[])→Two P n N c1 c2 ((t4,V1 (.bool p))::(t3,V1 (.seq t l))::tm) H ex tm' H'):
  Sm P n N (.seq (.seq (.region id #[o1,o2] false) c1) c2) tm H ex tm' H':=by
 intro π R a w sr
 refine wp_seq (wp_seq (Code.wp_mono (Q:=fun e' a' w'=>e'= .normal∧∃π' R' p,(p=true→l=[])∧SR n ((t4,V1 (.bool p))::(t3,V1 (.seq t l))::tm) H π' R' a' w'∧Goes H π R w H π' R' w') ?_ ?_))
 ·rintro e' a' w' ⟨rfl,π',R',p,hpl,sr',g⟩
  rcases hp p hpl with ⟨tm1,H1,s1,s2⟩|⟨hne,s1⟩
  ·refine Code.wp_mono ?_ (s1 π' R' a' w' sr')
   rintro e1 a1 w1 ⟨rfl,π1,R1,sr1,g1⟩
   refine Code.wp_mono ?_ (s2 π1 R1 a1 w1 sr1)
   rintro e2 a2 w2 ⟨he,π2,R2,sr2,g2⟩
   exact⟨he,π2,R2,sr2,(g.toN N).trans (g1.trans g2)⟩
  ·refine Code.wp_mono ?_ (s1 π' R' a' w' sr')
   rintro e1 a1 w1 ⟨rfl,π1,R1,sr1,g1⟩
   cases ex with
   |nrm=>exact(hne rfl).elim
   |ext i=>exact⟨rfl,π1,R1,sr1,(g.toN N).trans g1⟩
   |ret=>exact⟨rfl,π1,R1,sr1,(g.toN N).trans g1⟩
 ·have p1:Acv n tm o1.dst (V1 (.seq t l))=some ((t3,V1 (.seq t l))::tm):=by simp[Acv,d1,ht3]
  have x1:xop P n #[o1,o2] o1 ⟨[],tm,H,[]⟩=some ⟨[],(t3,V1 (.seq t l))::tm,H,[]⟩:=by
   simp only[xop,g1,Ww,xdo,h1,J5,ev,hs,Option.map,p1,Art,Ag1]
  refine wp_region_list ((X9 sr x1 trivial).2 _ _ fun a' w' π' R' sr' g=>?_)
  have hv:RepC H π' w' R' (.seq t l) (a'.eval (.tmp t3)):=A7 (s:=V1 (.seq t l)) sr'.frm (by simp[ev,Qz])
  obtain ⟨p,hpl,hrun⟩:=Ajg (P:=P) hu hv
  refine Tc (Jr g2) fun K hK=>?_
  unfold Oper.wp
  have r2:(execOp a'.eval o2).run P w'= .ok (.value (.bool p)) w':=by
   have hc:a'.eval (.const (.slice none 0 0))= .slice none 0 0:=rfl
   simp only[execOp,h2]
   rw[hc]
   simp[eqGuard,binOp,hrun,hq,N9,Sem.run_bind]
  rw[r2]
  have p2:Acv n ((t3,V1 (.seq t l))::tm) o2.dst (V1 (.bool p))=some ((t4,V1 (.bool p))::(t3,V1 (.seq t l))::tm):=by simp[Acv,d2,ht4]
  obtain ⟨f1,f2,f3⟩:=Kk sr'.frm sr'.size p2 (v:= .bool p) rfl
  exact hK _ _ (wpList_nil ⟨rfl,π',R',p,hpl,⟨sr'.ok,f1,f2,f3.trans sr'.defers⟩,g⟩)
theorem Sm.nilTest' {X:Code} {id:Nat} {o1 o2:Oper} {c1 c2:Code} (hX:X= .seq (.seq (.region id #[o1,o2] false) c1) c2) {s t3 t4:Nat} {ty e yt:TypeId} {t:T} {l:List t.ty} {tm tm':List (Nat×S)} {H H':List Blk} {ex:Ext}
  (h1:o1.op= .move (.tmp s)) (g1:o1.guard=none) (d1:o1.dst=some t3)
  (h2:o2.op= .binOp .eql ty (.tmp t3) (.const (.slice none 0 0)) yt) (g2:o2.guard=none) (d2:o2.dst=some t4) (hu:P.underlying ty=some (.slice e)) (hq:P.eqGuardType P.depth ty=false)
  (hs:Qz tm s=some (V1 (.seq t l))) (ht3:Nat.blt t3 n=true) (ht4:Nat.blt t4 n=true)
  (hp: ∀p:Bool,(p=true→l=[])→Two P n N (sq2 (sq1 X)) (sq2 X) ((t4,V1 (.bool p))::(t3,V1 (.seq t l))::tm) H ex tm' H'):
  Sm P n N X tm H ex tm' H':=by
 subst hX
 exact Sm.nilTest h1 g1 d1 h2 g2 d2 hu hq hs ht3 ht4 hp
end
theorem Bo {α:Type} {l:List α} {i:Nat} (h:i<l.length): ∃x,l[i]? =some x:=⟨_,List.getElem?_eq_getElem h⟩
theorem Ar4 {k:IntKind} {l:List Int} {i:Nat} (h:i<l.length):(l.map (C.int k))[i]? =some (.int k (l.getD i 0)):=by
 rw[List.getElem?_map,List.getElem?_eq_getElem h]
 simp[List.getD,List.getElem?_eq_getElem h]
theorem Ajh {x:Int} (h1: -9223372036854775808≤x) (h2:x≤9223372036854775807):IntKind.i64.wrap x=x:=by
 rw[IntKind.wrap_i64];omega
theorem Sm.fr {P:Program} {n N:Nat} {c:Code} {tm tm1 tm':List (Nat×S)} {H H1 H':List Blk} {e:Ext} (h:Sm P n N c tm1 H1 e tm' H') (ht:tm=tm1) (hH:H=H1):Sm P n N c tm H e tm' H':=ht▸hH▸h
inductive Wk:C→C→Prop where
 |refl (c:C):Wk c c
 |nil (t:T):Wk .nil (.seq t [])
inductive WkV:V→V→Prop where
 |c {a b:C} (h:Wk a b):WkV (.c a) (.c b)
 |agg {l m:List C} (h:All2 Wk l m):WkV (.agg l) (.agg m)
theorem Wk.rep {H:List Blk} {π:Nat→Pl} {w:World} {R:Nat→Prop} {a b:C} (h:Wk a b) {v:Value} (hv:RepC H π w R a v):RepC H π w R b v:=by
 cases h with
 |refl=>exact hv
 |nil t=>
  obtain ⟨ad,rfl⟩:=hv
  exact⟨ad,0,rfl,Nat.le_refl _,Nat.zero_le _,fun h=>(h rfl).elim⟩
theorem Apw {H:List Blk} {π:Nat→Pl} {w:World} {R:Nat→Prop} : ∀ {l m:List C},All2 Wk l m→∀ {vs:List Value},All2 (RepC H π w R) l vs→All2 (RepC H π w R) m vs
 |_,_,.nil,_,h=>h
 |_,_,.cons h t,_,.cons g s=> .cons (h.rep g) (Apw t s)
theorem WkV.rep {H:List Blk} {π:Nat→Pl} {w:World} {R:Nat→Prop} {a b:V} (h:WkV a b) {v:Value} (hv:N7 H π w R a v):N7 H π w R b v:=by
 cases h with
 |c h=>exact h.rep hv
 |agg h=>
  obtain ⟨vs,e,hl⟩:=hv
  exact⟨vs,e,Apw h hl⟩
theorem Ar5 {x y:List UInt8} (h:x=y):(.v (.c (.str x)):S)= .v (.c (.str y)):=by rw[h]
theorem Ad {x:Int} (h1: -9223372036854775808≤x) (h2:x≤9223372036854775807):(.v (.c (.int .i64 (IntKind.i64.wrap x))):S)= .v (.c (.int .i64 x)):=by rw[Ajh h1 h2]
theorem Bu {x:Int} (h1:0≤x) (h2:x≤18446744073709551615):(.v (.c (.int .u64 (IntKind.u64.wrap x))):S)= .v (.c (.int .u64 x)):=by
 rw[show IntKind.u64.wrap x=x by rw[IntKind.wrap_u64];omega]
theorem Nd {x:Int} (h1:0≤x) (h2:x≤255):(.v (.c (.int .u8 (IntKind.u8.wrap x))):S)= .v (.c (.int .u8 x)):=by
 rw[show IntKind.u8.wrap x=x by rw[IntKind.wrap_u8];omega]
theorem Aaf {K:IntKind} {x m:Int} {k:Nat} (h:(2:Int) ^ k=m) (hm:0≤m):(.v (.c (.int K (Int.fdiv x (2 ^ k)))):S)= .v (.c (.int K (x / m))):=by
 rw[h,Int.fdiv_eq_ediv_of_nonneg _ hm]
theorem Aji {x m m':Int} {k:Nat} (h:m=(2:Int) ^ k-1∧m'=(2:Int) ^ k) (hk:k≤62):(((BitVec.ofInt 64 x&&&BitVec.ofInt 64 m).toNat:Nat):Int)=x % m':=by
 obtain ⟨rfl,rfl⟩:=h
 have h1:(BitVec.ofInt 64 ((2:Int) ^ k-1)).toNat=2 ^ k-1:=by
  rw[BitVec.toNat_ofInt]
  have h2:((2:Int) ^ k-1)=((2 ^ k-1:Nat):Int):=by
   rw[Int.ofNat_sub (Nat.one_le_two_pow)];simp
  have h3:2 ^ k≤2 ^ 62:=Nat.pow_le_pow_right (by decide) hk
  rw[h2]
  have h4:((2 ^ k-1:Nat):Int) % ((2 ^ 64:Nat):Int)=((2 ^ k-1:Nat):Int):=by
   rw[←Int.natCast_emod,Nat.mod_eq_of_lt (by omega)]
  rw[h4];rfl
 rw[BitVec.toNat_and,h1,Nat.and_two_pow_sub_one_eq_mod,BitVec.toNat_ofInt]
 have h5:(0:Int)≤x % ((2 ^ 64:Nat):Int):=Int.emod_nonneg _ (by decide)
 rw[Int.natCast_emod,Int.toNat_of_nonneg h5]
 have h6:(((2 ^ k:Nat):Int)) ∣ ((2 ^ 64:Nat):Int):=by
  refine⟨((2 ^ (64-k):Nat):Int),?_⟩
  rw[←Int.natCast_mul,←Nat.pow_add]
  congr 2;omega
 rw[Int.emod_emod_of_dvd _ h6]
 simp
theorem Hh {x m m':Int} {k:Nat} (h:m=(2:Int) ^ k-1∧m'=(2:Int) ^ k) (hk:k≤62):(.v (.c (.int .i64 (IntKind.i64.wrap (((BitVec.ofInt 64 x&&&BitVec.ofInt 64 m).toNat:Nat):Int)))):S)= .v (.c (.int .i64 (x % m'))):=by
 rw[Aji h hk]
 have h3:(2:Int) ^ k≤2 ^ 62:=by
  have:=Nat.pow_le_pow_right (n:=2) (by decide) hk
  have h4:((2 ^ k:Nat):Int)≤((2 ^ 62:Nat):Int):=Int.ofNat_le.2 this
  simpa using h4
 have h7:(0:Int)<m':=by rw[h.2];exact Int.pow_pos (by decide)
 have h1:=Int.emod_nonneg x (show m'≠0 by omega)
 have h2:=Int.emod_lt_of_pos x h7
 rw[Ajh (by omega) (by rw[h.2] at h2 ⊢;omega)]
theorem Aeo {x m m':Int} {k:Nat} (h:m=(2:Int) ^ k-1∧m'=(2:Int) ^ k) (hk:k≤62):(.v (.c (.int .u64 (IntKind.u64.wrap (((BitVec.ofInt 64 x&&&BitVec.ofInt 64 m).toNat:Nat):Int)))):S)= .v (.c (.int .u64 (x % m'))):=by
 rw[Aji h hk]
 have h3:(2:Int) ^ k≤2 ^ 62:=by
  have:=Nat.pow_le_pow_right (n:=2) (by decide) hk
  have h4:((2 ^ k:Nat):Int)≤((2 ^ 62:Nat):Int):=Int.ofNat_le.2 this
  simpa using h4
 have h7:(0:Int)<m':=by rw[h.2];exact Int.pow_pos (by decide)
 have h1:=Int.emod_nonneg x (show m'≠0 by omega)
 have h2:=Int.emod_lt_of_pos x h7
 rw[IntKind.wrap_u64,Int.emod_eq_of_lt h1 (by rw[h.2] at h2 ⊢;omega)]
theorem Yd (a b:Int):0≤a→1≤b→0≤Int.tmod a b∧Int.tmod a b<b:=fun h1 h2=>by
 rw[Int.tmod_eq_emod_of_nonneg h1]
 exact⟨Int.emod_nonneg _ (by omega),Int.emod_lt_of_pos _ (by omega)⟩
def Ak (n lo hi:Int):Bool:=decide (lo≤n)&&decide (n≤hi)
theorem Av {n lo hi:Int} (h:Ak n lo hi=true):lo≤n∧n≤hi:=by simpa [Ak] using h
theorem A0 {n lo hi:Int} (h:Ak n lo hi=false): ¬(lo≤n∧n≤hi):=by
 intro ⟨h1,h2⟩;simp[Ak,h1,h2] at h
structure Fam:Type 1 where
 ι:Type
 tm:ι→List (Nat×S)
 H:ι→List Blk
 inv:ι→Prop
 mu:ι→Nat
def Fam.Has (F:Fam) (tm:List (Nat×S)) (H:List Blk):Prop:= ∃j,F.inv j∧tm=F.tm j∧H=F.H j
def Fam.Nxt (F:Fam) (i:F.ι) (tm:List (Nat×S)) (H:List Blk):Prop:= ∃j,(F.inv j∧F.mu j<F.mu i)∧tm=F.tm j∧H=F.H j
inductive DT (ι:Type):Type 1 where
 |lJ (i:ι) (σ:List Nat)
 |next
 |sZ (ds:List Dir) (k:DT ι)
 |br (a b:DT ι)
 |case (p:Bool) (a b:DT ι)
 |intro {α:Type} (p:α→Prop) (k:α→DT ι)
 |loop (F:Fam) (body:F.ι→DT ι)
 |once (k:DT ι)
 |join (id:Nat) (F:Fam) (a:DT ι) (b:F.ι→DT ι)
 |take (id j i:Nat) (s:Shp) (k:DT ι)
 |give (id j:Nat) (s:Shp) (k:DT ι)
def obs:List Prop→Prop→Prop
 |[],q=>q
 |p::r,q=>obs r (p∧q)
def Zu {ι:Type} :DT ι→X→(DT ι→X→Prop)→Prop
 | .sZ ds k,x,K=>match x.ds with
  |[]=>Zu k ⟨ds,x.tm,x.hp,x.ob⟩ K
  |_=>K (.sZ ds k) x
 | .case p a b,x,K=>match x.ds with
  |[]=>obs x.ob ((p=true→Zu a ⟨[],x.tm,x.hp,[]⟩ K)∧(p=false→Zu b ⟨[],x.tm,x.hp,[]⟩ K))
  |_=>K (.case p a b) x
 | .intro p k,x,K=>match x.ds with
  |[]=>obs x.ob ((∃v,p v)∧∀v,p v→Zu (k v) ⟨[],x.tm,x.hp,[]⟩ K)
  |_=>K (.intro p k) x
 |d,x,K=>K d x
def At1 {ι:Type} :DT ι→Option (DT ι×DT ι)
 | .br a b=>some (a,b)
 |_=>none
def Ajj (ops:Array Oper) (o:Oper) (tm:List (Nat×S)):Option (Nat×Bool):=match o.guard with
 |some (j,_)=>match (ops[j]?).bind (·.dst) with
  |some t=>match Qz tm t with
   |some (.v (.c (.bool b)))=>some (t,b)
   |_=>none
  |none=>none
 |none=>none
def Atn:List Dir→Bool
 | .br _::_=>true
 |_=>false
def opT {ι:Type} (P:Program) (n:Nat) (ops:Array Oper) (o:Oper) (d:DT ι) (x:X) (K:DT ι→X→Prop):Prop:=Zu d x fun d x=>match xop P n ops o x with
 |some y=>K d (xas y)
 |none=>False
def Apx {ι:Type} (P:Program) (n:Nat) (ops:Array Oper):List Oper→DT ι→X→(DT ι→X→Prop)→Prop
 |[],d,x,K=>K d x
 |o::r,d,x,K=>Zu d x fun d x=>match Abg x o with
  |some _=>match Anc P n ops (o::r) x with
   |some y=>K d y
   |none=>False
  |none=>match Ajj ops o x.tm with
  |some (t,b)=>match Atn x.ds with
   |true=>opT P n ops o d x fun d x=>Apx P n ops r d x K
   |false=>match At1 d with
    |some (da,db)=>obs x.ob ((b=true→opT P n ops o da ⟨x.ds,(t,V1 (.lit true))::x.tm,x.hp,[]⟩ fun d x=>Apx P n ops r d x K)∧
      (b=false→opT P n ops o db ⟨x.ds,(t,V1 (.lit false))::x.tm,x.hp,[]⟩ fun d x=>Apx P n ops r d x K))
    |none=>False
  |none=>opT P n ops o d x fun d x=>Apx P n ops r d x K
structure Aua (ι:Type):Type 1 where
 F:Fam
 a:DT ι
 b:F.ι→DT ι
def Apy {ι:Type} (id:Nat):DT ι→Option (Aua ι)
 | .join i F a b=>match Nat.beq i id with
  |true=>some ⟨F,a,b⟩
  |false=>none
 |_=>none
def Atf {ι:Type} (P:Program) (n N id:Nat) (ops:Array Oper) (draw:Bool) (d:DT ι) (x:X) (K:Ext→DT ι→X→Prop):Prop:=Zu d x fun d x=>match draw with
 |true=>match run P n N (.region id ops true) x with
  |some (e,y)=>K e d y
  |none=>False
 |false=>match Aej N (id+1) x with
  |some x=>Apx P n ops ops.toList d x (K .nrm)
  |none=>False
def nin:List Nat→Nat→Bool
 |[],_=>true
 |j::r,i=>match Nat.beq i j with
  |true=>false
  |false=>nin r i
def osA (h:List Nat):Nat→Nat→List (Nat×Bool)
 |_,0=>[]
 |i,n+1=>(i,nin h i)::osA h (i+1) n
def os (n:Nat) (h:List Nat):List (Nat×Bool):=osA h 0 n
def fr (t:Tr):Nat→Nat→Tr
 |_,0=>t
 |i,n+1=> .first i (fr t (i+1) n)
def Aqk {ι:Type} (N id:Nat):DT ι→X→(DT ι→X→Prop)→Prop
 | .take q j i s k,x,K=>match Nat.beq q id with
  |true=>match x.hp[j]?,Nat.ble N j with
   |some (.tree l),true=>K k ⟨x.ds,x.tm,Qv x.hp j i l s,(l[i]? =some s)::x.ob⟩
   |_,_=>False
  |false=>K (.take q j i s k) x
 | .give q j s k,x,K=>match Nat.beq q id with
  |true=>match x.hp[j]? with
   |some (.hole l i m)=>match x.hp[m]? with
    |some (.lst .fld fs)=>K k ⟨x.ds,x.tm,(x.hp.set j (.tree (l.set i ⟨s.id,fs⟩))).set m .dK,(l[i]? =some s)::(fs.length=s.fJ.length)::x.ob⟩
    |_=>False
   |_=>False
  |false=>K (.give q j s k) x
 |d,x,K=>K d x
def Aag {ι:Type} (P:Program) (n N:Nat):Code→DT ι→X→(Ext→DT ι→X→Prop)→Prop
 | .seq a b,d,x,K=>Zu d x fun d x=>match Apv a x.ds with
  |some (e,tm',H',ds)=>K e d ⟨ds,tm',H',Sm P n N (.seq a b) x.tm x.hp e tm' H'::x.ob⟩
  |none=>Aag P n N a d x fun e d y=>match e with
   | .nrm=>Aag P n N b d y K
   |e=>K e d y
 | .cond c a b,d,x,K=>Zu d x fun d x=>match ev x.tm c with
  |some (.v (.c (.lit true)))=>Aag P n N a d x K
  |some (.v (.c (.lit false)))=>Aag P n N b d x K
  |some (.v (.c (.bool p)))=>match x.ds with
   | .br true::ds=>Aag P n N a d ⟨ds,x.tm,x.hp,(p=true)::x.ob⟩ K
   | .br false::ds=>Aag P n N b d ⟨ds,x.tm,x.hp,(p=false)::x.ob⟩ K
   |_=>match At1 d with
    |some (da,db)=>obs x.ob ((p=true→Aag P n N a da ⟨x.ds,x.tm,x.hp,[]⟩ K)∧(p=false→Aag P n N b db ⟨x.ds,x.tm,x.hp,[]⟩ K))
    |none=>False
  |_=>False
 | .block id body,d,x,K=>Zu d x fun d x=>match Apy id d with
  |some ⟨F,a,b⟩=>obs x.ob (Aag P n N body a ⟨x.ds,x.tm,x.hp,[]⟩ (fun e d y=>match (match e with| .nrm=>true| .ext i=>Nat.beq i id| .ret=>false) with
    |true=>Zu d y fun d y=>match d,Aej N 0 y with
     | .next,some y=>obs y.ob (F.Has y.tm y.hp)
     |_,_=>False
    |false=>K e d y)∧∀o,F.inv o→K .nrm (b o) ⟨[],F.tm o,F.H o,[]⟩)
  |none=>Aag P n N body d x fun e d y=>match e with
   | .ext i=>match Nat.beq i id with
    |true=>K .nrm d y
    |false=>K (.ext i) d y
   |e=>K e d y
 | .loop body,d,x,K=>Zu d x fun d x=>match d with
  | .loop F f=>match Aej N 0 x with
   |some x=>obs x.ob (F.Has x.tm x.hp∧∀i,F.inv i→Aag P n N body (f i) ⟨[],F.tm i,F.H i,[]⟩ fun e d y=>match e with
    | .nrm=>Zu d y fun d y=>match d,Aej N 0 y with
     | .next,some y=>obs y.ob (F.Nxt i y.tm y.hp)
     |_,_=>False
    |e=>K e d y)
   |none=>False
  | .once k=>Aag P n N body k x fun e d y=>match e with
   | .nrm=>False
   |e=>K e d y
  |d=>match run P n N (.loop body) x with
   |some (e,y)=>K e d y
   |none=>False
 | .region id ops draw,d,x,K=>Zu d x fun d x=>Aqk N id d x fun d x=>Zu d x fun d x=>match Apy (id+1000000) d with
  |some ⟨F,a,b⟩=>obs x.ob (Atf P n N id ops draw a ⟨x.ds,x.tm,x.hp,[]⟩ (fun e d y=>match e with
    | .nrm=>Zu d y fun d y=>match d,Aej N 0 y with
     | .next,some y=>obs y.ob (F.Has y.tm y.hp)
     |_,_=>False
    |_=>False)∧∀o,F.inv o→K .nrm (b o) ⟨[],F.tm o,F.H o,[]⟩)
  |none=>Atf P n N id ops draw d x K
 |c,d,x,K=>match run P n N c x with
  |some (e,y)=>K e d y
  |none=>False
def Ag5 {ι:Type} (P:Program) (fn:Func) (args:List V) (L:List Blk) (d:DT ι) (F:ι→S→List Blk→Prop):Prop:=match fn.body with
 |some c=>match Nat.ble args.length fn.ntmps with
  |true=>Aag P fn.ntmps L.length c d ⟨[],Ac4 0 args,L,[]⟩ fun e d y=>Zu d y fun d y=>match d with
   | .lJ i σ=>match fin P fn.results.toList L.length σ e y with
    |some (r,L',ob)=>obs ob (F i r L')
    |none=>False
   |_=>False
  |false=>False
 |none=>False
section
variable {P:Program} {n N:Nat}
theorem Qq: ∀ {l:List Prop} {q:Prop},obs l q→All l∧q
 |[],_,h=>⟨trivial,h⟩
 |p::r,q,h=>by
  obtain ⟨h1,h2,h3⟩:=Qq (l:=r) h
  exact⟨⟨h2,h1⟩,h3⟩
theorem Tf {ι:Type} : ∀(d:DT ι) {x:X} {K:DT ι→X→Prop},Zu d x K→∃d' y,K d' y∧y.tm=x.tm∧y.hp=x.hp∧(All y.ob→All x.ob):=by
 intro d
 induction d with
 |sZ ds k ih=>
  intro x K h
  unfold Zu at h
  split at h
  ·obtain ⟨d',y,h1,h2,h3,h4⟩:=ih h
   exact⟨d',y,h1,h2,h3,h4⟩
  ·exact⟨_,x,h,rfl,rfl,fun h=>h⟩
 |case p a b iha ihb=>
  intro x K h
  unfold Zu at h
  split at h
  ·obtain ⟨h0,h1,h2⟩:=Qq h
   cases hp:p with
   |true=>obtain ⟨d',y,g1,g2,g3,_⟩:=iha (h1 hp);exact⟨d',y,g1,g2,g3,fun _=>h0⟩
   |false=>obtain ⟨d',y,g1,g2,g3,_⟩:=ihb (h2 hp);exact⟨d',y,g1,g2,g3,fun _=>h0⟩
  ·exact⟨_,x,h,rfl,rfl,fun h=>h⟩
 |intro p k ih=>
  intro x K h
  unfold Zu at h
  split at h
  ·obtain ⟨h0,⟨v,hv⟩,h2⟩:=Qq h
   obtain ⟨d',y,g1,g2,g3,_⟩:=ih v (h2 v hv)
   exact⟨d',y,g1,g2,g3,fun _=>h0⟩
  ·exact⟨_,x,h,rfl,rfl,fun h=>h⟩
 |_=>intro x K h;exact⟨_,x,h,rfl,rfl,fun h=>h⟩
theorem Sm.seq {a b:Code} {tm tm1 tm2:List (Nat×S)} {H H1 H2:List Blk} {e:Ext} (h1:Sm P n N a tm H .nrm tm1 H1) (h2:Sm P n N b tm1 H1 e tm2 H2):Sm P n N (.seq a b) tm H e tm2 H2:=by
 intro π R act w sr
 refine wp_seq (Code.wp_mono ?_ (h1 π R act w sr))
 rintro e' a' w' ⟨rfl,π',R',sr',g⟩
 refine Code.wp_mono ?_ (h2 π' R' a' w' sr')
 rintro e'' a'' w'' ⟨he,π'',R'',sr'',g'⟩
 exact⟨he,π'',R'',sr'',g.trans g'⟩
theorem Sm.seq1 {a b:Code} {tm tm1:List (Nat×S)} {H H1:List Blk} {e:Ext} (he:e≠ .nrm) (h1:Sm P n N a tm H e tm1 H1):Sm P n N (.seq a b) tm H e tm1 H1:=by
 intro π R act w sr
 refine wp_seq (Code.wp_mono ?_ (h1 π R act w sr))
 rintro e' a' w' ⟨rfl,hh⟩
 cases e with
 |nrm=>exact(he rfl).elim
 |ext i=>exact⟨rfl,hh⟩
 |ret=>exact⟨rfl,hh⟩
theorem Sm.pre {k:Nat} {c:Code} {x y:X} {e:Ext} {tm':List (Nat×S)} {H':List Blk} (h:Aej N k x=some y) (s:Sm P n N c y.tm y.hp e tm' H'):Sm P n N c x.tm x.hp e tm' H':=by
 intro π R a w sr
 obtain ⟨_,hs⟩:=Fu (n:=n) (N:=N) h
 obtain ⟨π1,R1,sr1,g1⟩:=hs sr
 refine Code.wp_mono ?_ (s π1 R1 a w sr1)
 rintro e' a' w' ⟨rfl,π2,R2,sr2,g2⟩
 exact⟨rfl,π2,R2,sr2,g1.trans g2⟩
theorem Sm.post {k:Nat} {c:Code} {x y:X} {e:Ext} {tm:List (Nat×S)} {H:List Blk} (s:Sm P n N c tm H e x.tm x.hp) (h:Aej N k x=some y):Sm P n N c tm H e y.tm y.hp:=by
 intro π R a w sr
 obtain ⟨_,hs⟩:=Fu (n:=n) (N:=N) h
 refine Code.wp_mono ?_ (s π R a w sr)
 rintro e' a' w' ⟨rfl,π2,R2,sr2,g2⟩
 obtain ⟨π1,R1,sr1,g1⟩:=hs sr2
 exact⟨rfl,π1,R1,sr1,g2.trans g1⟩
theorem Sm.blockN {id:Nat} {c:Code} {tm tm':List (Nat×S)} {H H':List Blk} {e:Ext} (he:e= .nrm∨e= .ext id) (s:Sm P n N c tm H e tm' H'):Sm P n N (.block id c) tm H .nrm tm' H':=by
 intro π R a w sr
 refine wp_block (Code.wp_mono ?_ (s π R a w sr))
 rintro e' a' w' ⟨rfl,hh⟩
 rcases he with rfl|rfl
 ·exact⟨rfl,hh⟩
 ·simp only[Yb,Exit.inBlock,if_true]
  exact⟨by first|rfl|trivial,hh⟩
theorem Sm.blockO {id:Nat} {c:Code} {tm tm':List (Nat×S)} {H H':List Blk} {e:Ext} (h2:e≠ .ext id) (s:Sm P n N c tm H e tm' H'):Sm P n N (.block id c) tm H e tm' H':=by
 intro π R a w sr
 refine wp_block (Code.wp_mono ?_ (s π R a w sr))
 rintro e' a' w' ⟨rfl,hh⟩
 cases e with
 |nrm=>exact⟨rfl,hh⟩
 |ret=>exact⟨rfl,hh⟩
 |ext i=>
  have hi: ¬i=id:=fun e=>h2 (by rw[e])
  simp only[Yb,Exit.inBlock,if_neg hi]
  exact⟨trivial,hh⟩
theorem Ajk {ι:Type} {c:Code} {d:DT ι} {x:X} {K:Ext→DT ι→X→Prop} (h:match run P n N c x with|some (e,y)=>K e d y|none=>False):
  ∃e d' y,K e d' y∧(All y.ob→All x.ob∧Sm P n N c x.tm x.hp e y.tm y.hp):=by
 split at h
 ·rename_i e y hr
  exact⟨e,d,y,h,fun hob=>⟨Afz c hr hob,Yc c hr hob⟩⟩
 ·exact h.elim
theorem Sm.cond_t {v:Operand} {a b:Code} {p:Bool} {tm tm':List (Nat×S)} {H H':List Blk} {e:Ext} (hv:ev tm v=some (.v (.c (.bool p)))∨ev tm v=some (.v (.c (.lit p)))) (hp:p=true) (s:Sm P n N a tm H e tm' H'):Sm P n N (.cond v a b) tm H e tm' H':=by
 intro π R act w sr
 have:act.eval v= .bool p:=by
  rcases hv with hv|hv
  ·exact A7 sr.frm hv
  ·exact A7 (s:=V1 (.lit p)) sr.frm hv
 exact wp_cond_true (by rw[this,hp]) (s π R act w sr)
theorem Sm.cond_f {v:Operand} {a b:Code} {p:Bool} {tm tm':List (Nat×S)} {H H':List Blk} {e:Ext} (hv:ev tm v=some (.v (.c (.bool p)))∨ev tm v=some (.v (.c (.lit p)))) (hp:p=false) (s:Sm P n N b tm H e tm' H'):Sm P n N (.cond v a b) tm H e tm' H':=by
 intro π R act w sr
 have:act.eval v= .bool p:=by
  rcases hv with hv|hv
  ·exact A7 sr.frm hv
  ·exact A7 (s:=V1 (.lit p)) sr.frm hv
 exact wp_cond_false (by rw[this,hp]) (s π R act w sr)
def OpL (P:Program) (n:Nat) (ops:Array Oper) (l:List Oper) (x y:X):Prop:= ∀(π:Nat→Pl) (R:Nat→Prop) (a:Act) (w:World),SR n x.tm x.hp π R a w→
 ∀(Q:Exit→Act→World→Prop) (rest:List Oper),(∀a' w' π' R',SR n y.tm y.hp π' R' a' w'→Goes x.hp π R w y.hp π' R' w'→wpList P ops Q rest a' w')→wpList P ops Q (l++rest) a w
theorem Ajm {ι:Type} {ops:Array Oper} {o:Oper} {d:DT ι} {x:X} {K:DT ι→X→Prop} (h:opT P n ops o d x K): ∃d' y,K d' y∧(All y.ob→All x.ob∧OpL P n ops [o] x y):=by
 unfold opT at h
 obtain ⟨d1,z,h1,e1,e2,hz⟩:=Tf d h
 split at h1
 ·rename_i y hy
  refine⟨d1,xas y,h1,fun hob=>⟨hz (Aps hy (Wd _ hob)),fun π R a w sr Q rest hK=>?_⟩⟩
  have hy':xop P n ops o ⟨z.ds,x.tm,x.hp,z.ob⟩=some y:=by rw[←e1,←e2];exact hy
  refine(X9 sr hy' (Wd _ hob)).2 Q rest fun a' w' π' R' sr' g=>?_
  obtain ⟨π1,R1,sr1,g1⟩:=Afs sr' hob
  exact hK a' w' π1 R1 sr1 (g.trans g1)
 ·exact h1.elim
theorem OpL.cons {ops:Array Oper} {o:Oper} {r:List Oper} {x y z:X} (h:OpL P n ops [o] x y) (g:OpL P n ops r y z):OpL P n ops (o::r) x z:=fun π R a w sr Q rest hK=>
 h π R a w sr Q (r++rest) fun a' w' π' R' sr' g1=>g π' R' a' w' sr' Q rest fun a'' w'' π'' R'' sr'' g2=>hK a'' w'' π'' R'' sr'' (g1.trans g2)
theorem Ajn {ops:Array Oper} {o:Oper} {tm:List (Nat×S)} {t:Nat} {b:Bool} (h:Ajj ops o tm=some (t,b)):Qz tm t=some (.v (.c (.bool b))):=by
 unfold Ajj at h
 split at h
 ·split at h
  ·split at h
   ·rename_i hl;cases h;exact hl
   ·cases h
  ·cases h
 ·cases h
theorem OpL.lit {ops:Array Oper} {l:List Oper} {ds ds':List Dir} {tm:List (Nat×S)} {H:List Blk} {ob ob':List Prop} {y:X} {t:Nat} {b d:Bool} (hl:Qz tm t=some (.v (.c (.bool b)))) (hb:b=d) (h:OpL P n ops l ⟨ds,(t,V1 (.lit d))::tm,H,ob⟩ y):OpL P n ops l ⟨ds',tm,H,ob'⟩ y:=
 fun π R a w sr=>h π R a w ⟨sr.ok,Aeg sr.frm hl hb,sr.size,sr.defers⟩
theorem Abn {ι:Type} {ops:Array Oper} : ∀(l:List Oper) {d:DT ι} {x:X} {K:DT ι→X→Prop},Apx P n ops l d x K→∃d' y,K d' y∧(All y.ob→All x.ob∧OpL P n ops l x y)
 |[],d,x,K,h=>⟨d,x,h,fun hob=>⟨hob,fun π R a w sr Q rest hK=>hK a w π R sr (Goes.refl _ _ _ _)⟩⟩
 |o::r,d,x,K,h=>by
  unfold Apx at h
  obtain ⟨d1,z,h1,e1,e2,hz⟩:=Tf d h
  have same: ∀ {y:X},OpL P n ops (o::r) z y→OpL P n ops (o::r) x y:=fun {y} hh π R a w sr=>by
   have:=hh π R a w (by rw[e1,e2];exact sr)
   rw[e2] at this
   exact this
  have plain: ∀ {d:DT ι},opT P n ops o d z (fun d x=>Apx P n ops r d x K)→∃d' y,K d' y∧(All y.ob→All x.ob∧OpL P n ops (o::r) x y):=by
   intro d h
   obtain ⟨d2,y1,g1,g2⟩:=Ajm h
   obtain ⟨d3,y2,g3,g4⟩:=Abn r g1
   exact⟨d3,y2,g3,fun hob=>⟨hz (g2 (g4 hob).1).1,same ((g2 (g4 hob).1).2.cons (g4 hob).2)⟩⟩
  split at h1
  ·split at h1
   ·rename_i y hy
    exact⟨d1,y,h1,fun hob=>⟨hz (Td hy hob),same fun π R a w sr Q rest hK=>Pe sr hy hob Q rest hK⟩⟩
   ·exact h1.elim
  split at h1
  ·rename_i t b hg
   have hl:=Ajn hg
   split at h1
   ·exact plain h1
   ·split at h1
    ·obtain ⟨h0,ha,hb⟩:=Qq h1
     cases hbb:b with
     |true=>
      obtain ⟨d2,y1,g1,g2⟩:=Ajm (ha hbb)
      obtain ⟨d3,y2,g3,g4⟩:=Abn r g1
      exact⟨d3,y2,g3,fun hob=>⟨hz h0,same (OpL.lit hl hbb ((g2 (g4 hob).1).2.cons (g4 hob).2))⟩⟩
     |false=>
      obtain ⟨d2,y1,g1,g2⟩:=Ajm (hb hbb)
      obtain ⟨d3,y2,g3,g4⟩:=Abn r g1
      exact⟨d3,y2,g3,fun hob=>⟨hz h0,same (OpL.lit hl hbb ((g2 (g4 hob).1).2.cons (g4 hob).2))⟩⟩
    ·exact h1.elim
  ·exact plain h1
abbrev Arw (P:Program) (n N:Nat) {ι:Type} (c:Code) (x:X) (K:Ext→DT ι→X→Prop):Prop:=
 ∃e d' y,K e d' y∧(All y.ob→All x.ob∧Sm P n N c x.tm x.hp e y.tm y.hp)
theorem Lk {ι:Type} {c:Code} {d:DT ι} {x:X} {K:Ext→DT ι→X→Prop} {K1:DT ι→X→Prop} (h:Zu d x K1) (g: ∀d y,K1 d y→Arw P n N c y K):Arw P n N c x K:=by
 obtain ⟨d1,y,h1,h2,h3,h4⟩:=Tf d h
 obtain ⟨e,d',z,hk,hz⟩:=g d1 y h1
 exact⟨e,d',z,hk,fun hob=>⟨h4 (hz hob).1,by rw[←h2,←h3];exact(hz hob).2⟩⟩
theorem Ac5 {ι:Type} {id:Nat} {ops:Array Oper} {draw:Bool} {d:DT ι} {x:X} {K:Ext→DT ι→X→Prop} (h:Atf P n N id ops draw d x K):Arw P n N (.region id ops draw) x K:=by
 unfold Atf at h
 refine Lk h fun d x h=>?_
 split at h
 ·exact Ajk h
 ·split at h
  ·rename_i x1 hx1
   obtain ⟨d1,y,hk,hy⟩:=Abn _ h
   obtain ⟨ho,hsr⟩:=Fu (n:=n) (N:=N) hx1
   refine⟨_,d1,y,hk,fun hob=>⟨by rw[←ho];exact(hy hob).1,fun π R a w sr=>?_⟩⟩
   obtain ⟨π1,R1,sr1,g1⟩:=hsr sr
   have:=(hy hob).2 π1 R1 a w sr1 (fun e' a' w'=>e'=Yb .nrm∧∃π' R',SR n y.tm y.hp π' R' a' w'∧GoesN N x.hp π R w y.hp π' R' w') [] fun a' w' π' R' sr' g=>wpList_nil ⟨rfl,π',R',sr',g1.trans (g.toN N)⟩
   rw[List.append_nil] at this
   exact wp_region_list this
  ·exact h.elim
theorem Ajo {H H':List Blk} {π π':Nat→Pl} {R:Nat→Prop} {w:World} (hp: ∀j,j<H.length→Pl.Near (π' j) (π j)) (hl: ∀(j:Nat) x,H[j]? =some x→∃y,H'[j]? =some y∧Like x y) {c:S} {v:Value} (h:N8 H π w R c v):N8 H' π' w R c v:=by
 have rc: ∀ {c:C} {v:Value},RepC H π w R c v→RepC H' π' w R c v:=fun h=>RepC.goes' (fun _ h=>h) (fun _ _=>rfl) hp hl h
 have rv: ∀ {c:V} {v:Value},N7 H π w R c v→N7 H' π' w R c v:=fun {c v} h=>by
  cases c with
  |c x=>exact rc h
  |agg l=>obtain ⟨vs,rfl,hl⟩:=h;exact⟨vs,rfl,hl.imp fun _ _ _ h=>rc h⟩
 cases c with
 |v x=>exact rv h
 |tup l=>obtain ⟨vs,rfl,hl⟩:=h;exact⟨vs,rfl,hl.imp fun _ _ _ h=>rv h⟩
 |junk=>trivial
theorem Sm.open {c:Code} {tm tm':List (Nat×S)} {H H1 H':List Blk} {e:Ext} (h: ∀π R a w,SR n tm H π R a w→∃π' R',SR n tm H1 π' R' a w∧GoesN N H π R w H1 π' R' w) (s:Sm P n N c tm H1 e tm' H'):Sm P n N c tm H e tm' H':=by
 intro π R a w sr
 obtain ⟨π1,R1,sr1,g1⟩:=h π R a w sr
 refine Code.wp_mono ?_ (s π1 R1 a w sr1)
 rintro e' a' w' ⟨rfl,π2,R2,sr2,g2⟩
 exact⟨rfl,π2,R2,sr2,g1.trans g2⟩
theorem Ag6 {ι:Type} {c:Code} {d:DT ι} {x:X} {K:Ext→DT ι→X→Prop} {K1:DT ι→X→Prop} {id:Nat} (h:Aqk N id d x K1) (g: ∀d y,K1 d y→Arw P n N c y K):Arw P n N c x K:=by
 unfold Aqk at h
 split at h
 ·split at h
  ·split at h
   ·rename_i l hj hN
    obtain ⟨e,d',z,hk,hz⟩:=g _ _ h
    refine⟨e,d',z,hk,fun hob=>?_⟩
    obtain ⟨⟨hi,h2⟩,sm⟩:=hz hob
    have hN:=Nat.le_of_ble_eq_true hN
    refine⟨h2,Sm.open (fun π R a w sr=>?_) sm⟩
    obtain ⟨π',ok',own,near,same,like⟩:=Aqi sr.ok hj hi
    exact⟨π',R,⟨ok',fun t s ht=>Ajo near like (sr.frm t s ht),sr.size,sr.defers⟩,⟨rfl,rfl,rfl,Nat.le_refl _,fun _ _ _=>rfl,fun b hb=> .inl (own b hb),fun k hk hkl=>by rw[same k hkl (by omega)];exact Pl.At.refl _,fun k z _ hk=>like k z hk,fun _ h=>h,fun _ h=> .inl h⟩⟩
   ·exact h.elim
  ·exact g _ _ h
 ·split at h
  ·split at h
   ·rename_i l i m hj
    split at h
    ·rename_i fs hm
     obtain ⟨e,d',z,hk,hz⟩:=g _ _ h
     refine⟨e,d',z,hk,fun hob=>?_⟩
     obtain ⟨⟨hi,hfs,h2⟩,sm⟩:=hz hob
     refine⟨h2,Sm.open (fun π R a w sr=>?_) sm⟩
     obtain ⟨hNl,hil,g1,g2,e',vs,fr,q,hb,ht,hs,hn,hx,hq⟩:=sr.ok.blocks _ _ hj
     obtain ⟨_,⟨v,hv,ho,_⟩,_⟩:=hx i _ hi
     obtain ⟨π',ok',gg⟩:=V7 sr.ok hj hi hm (v1:=v) (by rw[hfs];exact ho rfl) (w':=w) ⟨rfl,rfl,rfl,rfl,fun _ _=>rfl⟩ fun vs2 e2 fr2 hb2 _=>by
      rw[hb] at hb2
      cases hb2
      exact⟨vs,hb,rfl,hv,fun _ _=>rfl⟩
     exact⟨π',R,⟨ok',gg.frm sr.ok sr.frm,sr.size,sr.defers⟩,gg.toN N⟩
    ·exact h.elim
   ·exact h.elim
  ·exact g _ _ h
 ·exact g _ _ h
theorem Ag7 {ι:Type} : ∀(c:Code) {d:DT ι} {x:X} {K:Ext→DT ι→X→Prop},Aag P n N c d x K→Arw P n N c x K:=by
 intro c
 induction c with
 |seq a b iha ihb=>
  intro d x K h
  unfold Aag at h
  refine Lk h ?_
  intro d x h
  split at h
  ·exact⟨_,d,_,h,fun hob=>⟨hob.2,hob.1⟩⟩
  ·obtain ⟨e,d1,y,hk,hy⟩:=iha h
   cases e with
   |nrm=>
    obtain ⟨e,d2,z,hk,hz⟩:=ihb hk
    exact⟨e,d2,z,hk,fun hob=>⟨(hy (hz hob).1).1,(hy (hz hob).1).2.seq (hz hob).2⟩⟩
   |ext i=>exact⟨_,d1,y,hk,fun hob=>⟨(hy hob).1,Sm.seq1 (by simp) (hy hob).2⟩⟩
   |ret=>exact⟨_,d1,y,hk,fun hob=>⟨(hy hob).1,Sm.seq1 (by simp) (hy hob).2⟩⟩
 |cond v a b iha ihb=>
  intro d x K h
  unfold Aag at h
  refine Lk h ?_
  intro d x h
  split at h
  ·rename_i hc
   obtain ⟨e,d1,y,hk,hy⟩:=iha h
   exact⟨e,d1,y,hk,fun hob=>⟨(hy hob).1,Sm.cond_t (.inr hc) rfl (hy hob).2⟩⟩
  ·rename_i hc
   obtain ⟨e,d1,y,hk,hy⟩:=ihb h
   exact⟨e,d1,y,hk,fun hob=>⟨(hy hob).1,Sm.cond_f (.inr hc) rfl (hy hob).2⟩⟩
  ·rename_i p hc
   split at h
   ·obtain ⟨e,d1,y,hk,hy⟩:=iha h
    exact⟨e,d1,y,hk,fun hob=>⟨(hy hob).1.2,Sm.cond_t (.inl hc) (hy hob).1.1 (hy hob).2⟩⟩
   ·obtain ⟨e,d1,y,hk,hy⟩:=ihb h
    exact⟨e,d1,y,hk,fun hob=>⟨(hy hob).1.2,Sm.cond_f (.inl hc) (hy hob).1.1 (hy hob).2⟩⟩
   ·split at h
    ·rename_i da db _
     obtain ⟨h0,h1,h2⟩:=Qq h
     cases hp:p with
     |true=>
      obtain ⟨e,d1,y,hk,hy⟩:=iha (h1 hp)
      exact⟨e,d1,y,hk,fun hob=>⟨h0,Sm.cond_t (.inl hc) hp (hy hob).2⟩⟩
     |false=>
      obtain ⟨e,d1,y,hk,hy⟩:=ihb (h2 hp)
      exact⟨e,d1,y,hk,fun hob=>⟨h0,Sm.cond_f (.inl hc) hp (hy hob).2⟩⟩
    ·exact h.elim
  ·exact h.elim
 |block id body ih=>
  intro d x K h
  unfold Aag at h
  refine Lk h ?_
  intro d x h
  split at h
  ·rename_i F a b
   obtain ⟨h0,h1,h2⟩:=Qq h
   obtain ⟨e,d1,y,hk,hy⟩:=ih h1
   split at hk
   ·rename_i he
    have he:e= .nrm∨e= .ext id:=by
     cases e with
     |nrm=>exact .inl rfl
     |ext i=>exact .inr (by rw[Nat.eq_of_beq_eq_true he])
     |ret=>cases he
    obtain ⟨d2,z,g1,g2,g3,g4⟩:=Tf _ hk
    split at g1
    ·rename_i z1 hz1
     obtain ⟨g5,o,ho,e1,e2⟩:=Qq g1
     obtain ⟨p1,_⟩:=Fu (n:=n) (N:=N) hz1
     have hob:All y.ob:=g4 (by rw[←p1];exact g5)
     refine⟨_,_,_,h2 o ho,fun _=>⟨h0,?_⟩⟩
     have s:=(hy hob).2
     rw[←g2,←g3] at s
     have s:=s.post hz1
     rw[e1,e2] at s
     exact Sm.blockN he s
    ·exact g1.elim
   ·rename_i he
    refine⟨e,d1,y,hk,fun hob=>⟨h0,Sm.blockO ?_ (hy hob).2⟩⟩
    rintro rfl
    simp at he
  ·obtain ⟨e,d1,y,hk,hy⟩:=ih h
   split at hk
   ·rename_i i
    split at hk
    ·rename_i hi
     have hi:i=id:=Nat.eq_of_beq_eq_true hi
     exact⟨_,d1,y,hk,fun hob=>⟨(hy hob).1,Sm.blockN (.inr (by rw[hi])) (hy hob).2⟩⟩
    ·rename_i hi
     refine⟨_,d1,y,hk,fun hob=>⟨(hy hob).1,Sm.blockO ?_ (hy hob).2⟩⟩
     rintro h'
     cases h'
     simp at hi
   ·rename_i hne
    refine⟨e,d1,y,hk,fun hob=>⟨(hy hob).1,Sm.blockO ?_ (hy hob).2⟩⟩
    rintro rfl
    exact hne _ rfl
 |loop body ih=>
  intro d x K h
  unfold Aag at h
  refine Lk h ?_
  intro d x h
  split at h
  ·rename_i F f
   split at h
   ·rename_i x1 hx1
    obtain ⟨h0,⟨s,hs,e1,e2⟩,hr⟩:=Qq h
    obtain ⟨p1,_⟩:=Fu (n:=n) (N:=N) hx1
    have key: ∀m i,F.mu i=m→F.inv i→∃e d' y,K e d' y∧e≠ .nrm∧(All y.ob→Reach P n N body F.tm F.H F.mu e y.tm y.hp i):=by
     intro m
     induction m using Nat.strongRecOn with
     |_ m ihm=>
      intro i hm hi
      obtain ⟨e,d1,y,hk,hy⟩:=ih (hr i hi)
      cases e with
      |nrm=>
       obtain ⟨d2,z,g1,g2,g3,g4⟩:=Tf _ hk
       split at g1
       ·rename_i z1 hz1
        obtain ⟨g5,o,⟨ho,hlt⟩,q1,q2⟩:=Qq g1
        obtain ⟨p2,_⟩:=Fu (n:=n) (N:=N) hz1
        have hob:All y.ob:=g4 (by rw[←p2];exact g5)
        obtain ⟨e,d',y',hk',hne,hy'⟩:=ihm (F.mu o) (by omega) o rfl ho
        refine⟨e,d',y',hk',hne,fun hob'=>?_⟩
        have s:=(hy hob).2
        rw[←g2,←g3] at s
        have s:=s.post hz1
        rw[q1,q2] at s
        exact .step hlt s (hy' hob')
       ·exact g1.elim
      |ext j=>exact⟨_,d1,y,hk,by simp,fun hob=> .stop (hy hob).2⟩
      |ret=>exact⟨_,d1,y,hk,by simp,fun hob=> .stop (hy hob).2⟩
    obtain ⟨e,d',y,hk,hne,hy⟩:=key _ s rfl hs
    refine⟨e,d',y,hk,fun hob=>⟨by rw[←p1];exact h0,?_⟩⟩
    refine Sm.pre hx1 ?_
    rw[e1,e2]
    refine Sm.loop F.tm F.H (Reach P n N body F.tm F.H F.mu e y.tm y.hp) F.mu hne (fun i hi=>?_) s (hy hob)
    cases hi with
    |stop h=>exact .inr h
    |step hlt h r=>exact .inl ⟨_,r,hlt,h⟩
   ·exact h.elim
  ·obtain ⟨e,d1,y,hk,hy⟩:=ih h
   cases e with
   |nrm=>exact hk.elim
   |ext i=>exact⟨_,d1,y,hk,fun hob=>⟨(hy hob).1,Sm.leave (by simp) (hy hob).2⟩⟩
   |ret=>exact⟨_,d1,y,hk,fun hob=>⟨(hy hob).1,Sm.leave (by simp) (hy hob).2⟩⟩
  ·exact Ajk h
 |region id ops draw=>
  intro d x K h
  unfold Aag at h
  refine Lk h fun d x h=>Ag6 h fun d x h=>Lk h fun d x h=>?_
  split at h
  ·rename_i F a b _
   obtain ⟨h0,h1,h2⟩:=Qq h
   obtain ⟨e,d1,y,hk,hy⟩:=Ac5 h1
   split at hk
   ·obtain ⟨d2,z,g1,g2,g3,g4⟩:=Tf _ hk
    split at g1
    ·rename_i z1 hz1
     obtain ⟨g5,o,ho,e1,e2⟩:=Qq g1
     obtain ⟨p1,_⟩:=Fu (n:=n) (N:=N) hz1
     have hob:All y.ob:=g4 (by rw[←p1];exact g5)
     refine⟨_,_,_,h2 o ho,fun _=>⟨h0,?_⟩⟩
     have s:=(hy hob).2
     rw[←g2,←g3] at s
     have s:=s.post hz1
     rw[e1,e2] at s
     exact s
    ·exact g1.elim
   ·exact hk.elim
  ·exact Ac5 h
 |_=>intro d x K h;unfold Aag at h;exact Ajk (d:=d) h
theorem Aep {f:FuncId} {fn:Func} (hf:P.funcs[f]? =some fn) {c:Code} (hc:fn.body=some c) {args:List V} (hle:Nat.ble args.length fn.ntmps=true) {L L':List Blk} {e:Ext} {x:X} {σ:List Nat} {r:S} {ob:List Prop}
  (h:Sm P fn.ntmps L.length c (Ac4 0 args) L e x.tm x.hp) (hfin:fin P fn.results.toList L.length σ e x=some (r,L',ob)) (hob:All ob):Contract P f args L r L':=by
 intro π R w vs ok hargs
 have hle:=Nat.le_of_ble_eq_true hle
 unfold fin at hfin
 split at hfin
 ·rename_i x1 hx1
  obtain ⟨ho,hsr⟩:=Fu (n:=fn.ntmps) hx1
  split at hfin
  ·rename_i rv hrv
   split at hfin
   ·rename_i us L1 hus hL
    have main:(e= .ret∨e= .nrm)→Kp σ=true→Ro 0 L.length σ=true→r=one us→L'=L1→Calls P f vs.toArray w fun e w'=> ∃v π' R',e= .returned v∧HOK L' π' R' w'∧Goes L π R w L' π' R' w'∧N8 L' π' w' R' r v:=by
     rintro he hnd hir rfl rfl
     have sr0:SR fn.ntmps (Ac4 0 args) L π R { tmps:=vs.toArray++Array.replicate (fn.ntmps-vs.toArray.size) undef,defers:=[] } w:=by
      refine⟨ok,fun t s ht=>?_,?_,rfl⟩
      ·obtain ⟨v,rfl,_,hv⟩:=U9 ht
       obtain ⟨u,hu,hr⟩:=hargs.get hv
       have hlt:=Aw hu
       have:(vs.toArray++Array.replicate (fn.ntmps-vs.toArray.size) undef).getD t undef=u:=by
        rw[Array.getD_eq_getD_getElem?,Array.getElem?_append_left (by simpa using hlt)]
        simp at hu
        simp[hu]
       rw[this];exact hr
      ·have:=hargs.length
       simp
       omega
     refine calls_of_wp hf hc (Code.wp_mono ?_ (h π R _ w sr0))
     rintro e' a' w' ⟨rfl,π1,R1,sr1,g1⟩
     obtain ⟨π2,R2,sr2,g2⟩:=hsr sr1
     have g:=g1.trans g2
     obtain ⟨ws,hws,hwr⟩:=Xe (P:=P) sr2 hrv
     have hmap:(fn.results.mapM (m:=Sem) fun
       | .tmp t=>pure (a'.tmps.getD t undef)
       | .cell b t=>do loadVar t (←asAddr (a'.tmps.getD b undef))).run P w'= .ok ws.toArray w':=by
      rw[Array.mapM_eq_mapM_toList,Sem.run_map]
      exact(congrArg (fun r=>Result.andThen r fun a w'=>Result.ok a.toArray w') hws).trans rfl
     obtain ⟨πL,ok',gs,down⟩:=Ajc (N:=L.length) sr2.ok hnd hir hL
     have gN:=g.trans gs
     have gL:Goes L π R w L' πL R2 w':=⟨gN.os,gN.tape,gN.output,gN.size,gN.keep,gN.owned,fun p hp=>gN.place p hp hp,fun p y hp=>gN.like p y (Aw hp) hp,gN.mono,gN.back⟩
     have noB: ∀ {RL:Nat→Prop},false=true→∀j x b,x1.hp[j]? =some x→Has (π2 j) x b→F0 σ j=none→RL b:=fun h=>by cases h
     have hfin:=down.repVs sr2.ok (fun _ h=>h) noB hus hwr
     have hres:(results fn a'.tmps).run P w'= .ok (if h:ws.toArray.size=1 then ws.toArray[0] else .tuple ws.toArray) w':=by
      unfold results
      rw[Sem.run_bind]
      exact(congrArg (fun r=>Result.andThen r _) hmap).trans rfl
     have hrep:N8 L' πL w' R2 (one us) (if h:ws.toArray.size=1 then ws.toArray[0] else .tuple ws.toArray):=by
      have hl:=hfin.length
      cases hfin with
      |nil=>exact⟨[],by simp,.nil⟩
      |cons h1 h2=>
       cases h2 with
       |nil=>exact h1
       |cons h2 h3=>
        rw[dif_neg (by simp)]
        exact⟨_,rfl,.cons h1 (.cons h2 h3)⟩
     rcases he with rfl|rfl
     ·exact⟨sr2.defers,_,hres,_,πL,R2,rfl,ok',gL,hrep⟩
     ·exact⟨sr2.defers,_,hres,_,πL,R2,rfl,ok',gL,hrep⟩
    split at hfin
    ·rename_i hB
     simp only[Bool.and_eq_true] at hB
     cases hfin
     exact main (.inl rfl) hB.1 hB.2 rfl rfl
    ·rename_i hB
     simp only[Bool.and_eq_true] at hB
     cases hfin
     exact main (.inr rfl) hB.1 hB.2 rfl rfl
    ·cases hfin
   ·cases hfin
  ·cases hfin
 ·cases hfin
theorem Ar6 {rs:List ResultVar} {σ:List Nat} {e:Ext} {x:X} {r:S} {L':List Blk} {ob:List Prop} (h:fin P rs N σ e x=some (r,L',ob)):ob=x.ob:=by
 unfold fin at h
 split at h
 ·rename_i x1 hx1
  obtain ⟨ho,_⟩:=Fu (n:=0) (N:=N) hx1
  split at h
  ·split at h
   ·split at h<;>first|(cases h;exact ho)|cases h
   ·cases h
  ·cases h
 ·cases h
theorem Ye {ι:Type} {f:FuncId} {fn:Func} (hf:P.funcs[f]? =some fn) {args:List V} {L:List Blk} {d:DT ι} {F:ι→S→List Blk→Prop} (h:Ag5 P fn args L d F): ∃i r L',F i r L'∧Contract P f args L r L':=by
 unfold Ag5 at h
 split at h
 ·rename_i c hc
  split at h
  ·rename_i hle
   obtain ⟨e,d1,y,hk,hy⟩:=Ag7 c h
   obtain ⟨d2,z,g1,g2,g3,g4⟩:=Tf _ hk
   split at g1
   ·split at g1
    ·rename_i r L' ob hfin
     obtain ⟨g5,g6⟩:=Qq g1
     have:=Ar6 hfin
     subst this
     have s:=(hy (g4 g5)).2
     rw[←g2,←g3] at s
     exact⟨_,r,L',g6,Aep hf hc hle s hfin g5⟩
    ·exact g1.elim
   ·exact g1.elim
  ·exact h.elim
 ·exact h.elim
theorem Ar7 {f : FuncId} {fn : Func} (hf : P.funcs[f]? = some fn) (hb : fn.body.isNone = false) (hn : (fn.name == "runtime.NumGoroutine") = false) {args : List V} {L L' : List Blk} {r : S} {d : DT Unit} {vc : Prop}
  (hw:Ag5 P fn args L d (fun _ r' Lp=>r'=r∧Lp=L')=vc) (h:vc):Fun P f args L r L':=by
 subst hw
 obtain ⟨_,r',Lp,⟨rfl,rfl⟩,hc⟩:=Ye hf h
 exact⟨Pg hf hb hn,hc⟩
theorem Aqm {ι : Type} {f : FuncId} {fn : Func} (hf : P.funcs[f]? = some fn) (hb : fn.body.isNone = false) (hn : (fn.name == "runtime.NumGoroutine") = false) {args : List V} {L : List Blk} {L' : ι → List Blk} {r : ι → S} {good : ι → Prop} {d : DT ι} {vc : Prop}
  (hw:Ag5 P fn args L d (fun i r' Lp=>good i∧r'=r i∧Lp=L' i)=vc) (h:vc): ∃i,good i∧Fun P f args L (r i) (L' i):=by
 subst hw
 obtain ⟨i,r',Lp,⟨hg,rfl,rfl⟩,hc⟩:=Ye hf h
 exact⟨i,hg,Pg hf hb hn,hc⟩
end
end Go.Proofs.YtphecbmdhbphgaaGreat.Ax
namespace Go.Proofs.YtphecbmdhbphgaaGreat
open Go.ChangeShapes Go.WideShapes Go.ChangeAt Go.RowKit
theorem own:ownKnob Tryz.prog.godebug=none:=by kernel_rfl
theorem Aqn:laidOutB Tryz.prog=true:=by kernel_rfl
section
variable {H:Type} {enc:TypeId×Value→H} {P:Program}
theorem Abo {f:Func} {s:ChangeSpec} {apart fresh handsOn again:Bool} {W W':World} {args:Array Value} {v:Value} {ds gs:List (DataW H)} {before pa pv:List MemPlace}
  (hW:DataW.Whole enc P f.params.toList s.vars apart W args.toList ds gs before)
  (hres: ∀(b:Nat) (sp:Nat→Bool) (hd:Bool),DataW.TrodAll enc P W' b sp hd f.resultTypes.toList (v.resultList f.resultTypes.size) (s.fn H (ds++gs)).results [])
  (hargs: ∀sp:Nat→Bool,(∀p∈before,sp p.block=true)→DataW.TrodAll enc P W' 0 sp true f.params.toList args.toList (s.fn H (ds++gs)).args pa)
  (hvars: ∀sp:Nat→Bool,(∀p∈before,sp p.block=true)→DataW.TrodVars enc P W' sp s.vars (s.fn H (ds++gs)).vars pv)
  (hps:before=pa++pv) (hb:Below W.heap.size W W')
  (hok: ∀(j:Nat) (t:TypeId) (r:Value),f.resultTypes[j]? =some t→(v.resultList f.resultTypes.size)[j]? =some r→Value.okWide P W' .any 0 t r):
  s.post enc P f apart fresh handsOn again W args v W':=by
 have hlt: ∀p∈before,p.block<W.heap.size:=fun p hp=>hW.lt p hp
 have hold: ∀p∈before,(fun b=>decide (b<W.heap.size)) p.block=true:=fun p hp=>by simpa using hlt p hp
 refine⟨ds,gs,before,[],pa,pv,hW,hres _ _ _,hargs _ hold,hvars _ hold,World.keptBut_mono (fun p hp=>⟨hp,?_⟩) (hb.frame (· ∈before)),fun _=>?_⟩
 ·rw[hps,List.mem_append] at hp
  exact Or.inr hp
 ·obtain ⟨_,_,_,_,_,hz,hn⟩:=hW
  refine⟨hok,_,_,([]++pa)++pv,⟨[]++pa,pv,trodAll_append (hargs _ (fun _ _=>rfl)) (hres _ _ _),hvars _ (fun _ _=>rfl),rfl,?_,?_⟩,?_⟩
  ·intro b off hp
   have hin:MemPlace.cell b off∈before:=by rw[hps];simpa using hp
   rw[hb.frozen (hlt _ hin)]
   exact hz b off hin
  ·intro ha
   have:=hn ha
   rw[hps] at this
   simpa using this
  ·intro p hp _
   rw[hps]
   simpa using hp
theorem Ub {W W':World} (hl:laidOutB P=true) (hb:Below W.heap.size W W') {sp:Nat→Bool} : ∀(ts:List TypeId) (vs:List Value) (ds:List (DataW H)) (ps:List MemPlace),
  (∀t∈ts,P.readableRec t=true∧t<P.types.size)→(∀x∈ps,x.block<W.heap.size)→(∀x∈ps,sp x.block=true)→
  DataW.TrodAll enc P W 0 (fun _=>true) true ts vs ds ps→DataW.TrodAll enc P W' 0 sp true ts vs ds ps
 |[],[],[],_,_,_,_,h=>h
 |t::ts,v::vs,d::ds,ps,ht,hlt,hsp,⟨p,q,h0,h1,hpq⟩=>
  ⟨p,q,WideElems.Trod_stays hl (ht t (by simp)).1 (ht t (by simp)).2 h0 (fun x hx=>hb.same (hlt x (by rw[hpq];simp[hx]))) (fun x hx=>hsp x (by rw[hpq];simp[hx])),
   Ub hl hb ts vs ds q (fun t h=>ht t (by simp[h])) (fun x hx=>hlt x (by rw[hpq];simp[hx])) (fun x hx=>hsp x (by rw[hpq];simp[hx])) h1,hpq⟩
 |[],[],_::_,_,_,_,_,h=>h.elim
 |[],_::_,_,_,_,_,_,h=>h.elim
 |_::_,[],_,_,_,_,_,h=>h.elim
 |_::_,_::_,[],_,_,_,_,h=>h.elim
theorem Anq {f:Func} {s:ChangeSpec} {W W':World} {args:Array Value} {ds gs:List (DataW H)} {before:List MemPlace} {tb:TypeId}
  (hl:laidOutB P=true) (hvars:s.vars=[]) (hts: ∀t∈f.params.toList,P.readableRec t=true∧t<P.types.size)
  (hr:f.resultTypes= #[tb]) (hu:P.underlying tb=some .bool)
  (hspec:gs=[]→(s.fn H (ds++gs)).results=[.lit (.bool true)]∧(s.fn H (ds++gs)).args=ds∧(s.fn H (ds++gs)).vars=[])
  (hW:DataW.Whole enc P f.params.toList s.vars false W args.toList ds gs before) (hb:Below W.heap.size W W'):
  s.post enc P f false true false false W args (.bool true) W':=by
 have hlt: ∀x∈before,x.block<W.heap.size:=fun p hp=>hW.lt p hp
 have hW':=hW
 obtain ⟨p,q,hA,hV,hpq,_,_⟩:=hW
 rw[hvars] at hV
 obtain ⟨hg,hq⟩:=trodVars_none hV
 obtain ⟨e1,e2,e3⟩:=hspec hg
 subst hq
 rw[List.append_nil] at hpq
 subst hpq
 refine Abo (pa:=before) (pv:=[]) hW' ?_ ?_ ?_ (by simp) hb ?_
 ·intro b sp hd
  rw[e1,hr]
  exact trodAll_mk1 (shut_bool hu true)
 ·intro sp hsp
  rw[e2]
  exact Ub hl hb _ _ _ _ hts hlt hsp hA
 ·intro sp _
  rw[e3,hvars]
  rfl
 ·exact ok_one hr rfl (okWide_bool_mk hu true)
end
end Go.Proofs.YtphecbmdhbphgaaGreat
namespace Go.Proofs.YtphecbmdhbphgaaGreat.Ax
open Go.ChangeShapes Go.WideShapes Go.ChangeAt Go.RowKit
abbrev RR (w:World):Nat→Prop:=fun b=>b<w.heap.size
abbrev P0:Nat→Pl:=fun _=>⟨0,0,Hx⟩
def Ato (n:Nat):Prop:=(n:Int)≤9223372036854775807
theorem All2.inv {α β:Type} {r:α→β→Prop} {a:α} {b:β} {l:List α} {m:List β} (h:All2 r (a::l) (b::m)):r a b∧All2 r l m:=by
 cases h with
 |cons h t=>exact⟨h,t⟩
theorem Ajp {P:Program} {f:FuncId} {args:List V} {vs:List Value} {w:World} (h:Fun P f args [] (.v (.c (.bool true))) []) (hv:All2 (N7 [] P0 w (RR w)) args vs):
  Calls P f vs.toArray w fun e w'=>e= .returned (.bool true)∧Below w.heap.size w w':=by
 have no: ∀b,¬Ey [] P0 b:=fun b ⟨j,x,hj,_⟩=>by simp at hj
 refine(h.2 P0 (RR w) w vs ⟨fun j x hj=>by simp at hj,fun i j x y b hi=>by simp at hi,fun j x b hj=>by simp at hj,fun b hb=>⟨hb,no b⟩⟩ hv).mono ?_
 rintro e w' ⟨v,π',R',rfl,_,g,hr⟩
 cases hr
 exact⟨rfl,g.os,g.tape,g.output,g.size,fun b hb=>g.keep b hb (no b)⟩
section
variable {H:Type} {tok:TypeId×Value→H} {P:Program} {w:World} {sp:Nat→Bool} {held:Bool}
theorem Ar8 {R:Nat→Prop} {c:C} {v:Value} (h:Rep0 c v):Rep1 w R c v:=by cases c<;>first|exact h|exact h.elim
theorem Ag8 {R:Nat→Prop} {l:List C} {m:List Value} (h:All2 Rep0 l m):All2 (Rep1 w R) l m:=h.imp fun _ _ _ h=>Ar8 h
theorem Yf {α:Type} (p:Nat→α→Prop): ∀n,(∀i,i<n→∃y,p i y)→∃l:List α,l.length=n∧∀i x,l[i]? =some x→p i x
 |0,_=>⟨[],rfl,fun i x h=>by simp at h⟩
 |n+1,h=>by
  obtain ⟨l,hl,hp⟩:=Yf p n (fun i hi=>h i (by omega))
  obtain ⟨y,hy⟩:=h n (by omega)
  refine⟨l++[y],by simp[hl],fun i x hx=>?_⟩
  by_cases hi:i<l.length
  ·rw[List.getElem?_append_left hi] at hx;exact hp i x hx
  ·rw[List.getElem?_append_right (by omega)] at hx
   have h0:i-l.length=0:=by
    rcases Nat.eq_zero_or_pos (i-l.length) with h0|h0
    ·exact h0
    ·rw[List.getElem?_eq_none (by simp;omega)] at hx;cases hx
   rw[h0] at hx
   have:y=x:=by simpa using hx
   subst this
   have:i=n:=by omega
   subst this
   exact hy
open Go.Deep
theorem Aqo {cr:C→Value→Prop} {t:T} {Q:t.ty→Prop} {ty e:TypeId} {c:Value} {fuel:Nat} {x:DataW H×List MemPlace} (ht:P.underlying ty=some (.slice e)) (hC:P.cellsOf e=t.k) (hk:0<t.k)
  (hel: ∀fuel cs x,cs.length=t.k→DataW.trod tok P w 0 sp held fuel e cs=some x→∃y:t.ty,All2 cr (enc t y) cs∧Q y)
  (h:DataW.trod tok P w 0 sp held fuel ty [c]=some x): ∃l:List t.ty,SeqAt cr w (RR w) t l c∧Ato l.length∧∀y∈l,Q y:=by
 rcases open_slice ht h with ⟨h0,_⟩|⟨a',len,cap,m,n,D,Pl,hcs,hb,hl,hm,hmm,hx,hi⟩
 ·simp at h0
  subst h0
  exact⟨[],⟨none,0,rfl,Nat.le_refl _,Nat.zero_le _,fun h=>(h rfl).elim⟩,by simp[Ato],by simp⟩
 ·simp at hcs
  subst hcs
  have hle:len≤m:=by rw[hmm];split<;>omega
  have hq: ∀i,i<len→∃y:t.ty,(∃cs',w.cells? 0 (a'.add (i*t.k)) t.k=some cs'∧All2 cr (enc t y) cs')∧Q y:=fun i hil=>by
   obtain ⟨cs',hc,ht'⟩:=hi i (by omega)
   rw[hC] at hc
   obtain ⟨y,hy,hq⟩:=hel _ _ _ (World.cells?_some hc).2.1 ht'
   exact⟨y,⟨cs',hc,hy⟩,hq⟩
  obtain ⟨l,hll,hp⟩:=Yf _ len hq
  refine⟨l,⟨_,cap,by rw[hll],by rw[hll];exact hl,hm,fun hne=>?_⟩,?_,fun y hy=>?_⟩
  ·have h0:0<len:=by rw[←hll];exact List.length_pos_iff.2 hne
   obtain ⟨b,off,spot⟩:=a'
   have hs:spot=none:=by
    obtain ⟨y,⟨cs',hy,_⟩,_⟩:=hq 0 h0
    obtain ⟨_,hlen,hc⟩:=World.cells?_some hy
    have hc0:=hc 0 hk
    rw[List.getElem?_eq_getElem (by omega)] at hc0
    cases spot with
    |none=>rfl
    |some s=>
     exfalso
     simp only[Nat.zero_mul,Addr.add,if_true] at hc0
     unfold World.cell? at hc0
     split at hc0<;>simp at hc0
   subst hs
   refine⟨b,off,rfl,?_,fun i x hx=>?_⟩
   ·obtain ⟨y,⟨cs',hy,_⟩,_⟩:=hq 0 h0
    obtain ⟨_,hlen,hc⟩:=World.cells?_some hy
    have hc0:=hc 0 hk
    rw[List.getElem?_eq_getElem (by omega)] at hc0
    show b<w.heap.size
    refine Classical.byContradiction fun hn=>?_
    simp only[Nat.zero_mul,Addr.add_mid] at hc0
    unfold World.cell? at hc0
    simp[Array.getElem?_eq_none (show w.heap.size≤b by omega)] at hc0
   ·obtain ⟨⟨cs',hc,ha⟩,_⟩:=hp i x hx
    obtain ⟨_,hlen,hcell⟩:=World.cells?_some hc
    intro j c hj
    obtain ⟨u,hu,hr⟩:=ha.get hj
    have hjk:j<t.k:=by rw[←hlen];exact(List.getElem?_eq_some_iff.1 hu).1
    have:=hcell j hjk
    rw[Addr.add_mid,Addr.add_mid] at this
    exact⟨u,by rw[this];exact hu,hr⟩
  ·have h2:maxLen=9223372036854775807:=rfl
   unfold Ato;omega
  ·obtain ⟨i,hi'⟩:=List.getElem?_of_mem hy
   exact(hp i y hi').2
end
end Go.Proofs.YtphecbmdhbphgaaGreat.Ax
